/-
 Plain lemmas on loops as the print tells them: from enough rounds on, a loop over the places 0 .. n-1 answers what its rounds come to. Nothing of Go stands here; no condition.
-/
import Derived.Test.YtoljagpjejpmpaaWWords
import Derived.Test.YtoljagpjejpmpaaWLast
namespace Go.Proofs.YtoljagpjejpmpaaX
open Go.RowKit Go.Proofs.YtoljagpjejpmpaaW.PrintWords Go.Proofs.YtoljagpjejpmpaaW.PrintLast
theorem up64 {i : Nat} (h : i < 9223372036854775807) : wrap64 ((i : Int) + 1) = ((i + 1 : Nat) : Int) := by
 unfold wrap64; omega
theorem w64 {x : Int} (h1 : -9223372036854775808 ≤ x) (h2 : x ≤ 9223372036854775807) : wrap64 x = x := by
 unfold wrap64; omega
theorem Ev.next {α : Type} {g f : Nat → Option α} {r : α} (h : ∃ K, ∀ k, K ≤ k → g (k + 1) = f k) (k : Ev f r) : Ev g r := by
 obtain ⟨K, k⟩ := k; obtain ⟨K', h⟩ := h; refine ⟨K + K' + 1, fun n hn => ?_⟩; obtain ⟨m, rfl⟩ : ∃ m, n = m + 1 := ⟨n - 1, by omega⟩; rw [h m (by omega)]; exact k m (by omega)
theorem Ev.last {α : Type} {g : Nat → Option α} {r : α} (h : ∃ K, ∀ k, K ≤ k → g (k + 1) = some r) : Ev g r := Ev.next (f := fun _ => some r) h (Ev.now r)
theorem Ev.one {α : Type} {g : Nat → Option α} {r : α} (h : ∀ k, g k = some r) : Ev g r := ⟨0, fun k _ => h k⟩
theorem Ev.uniq {α : Type} {g : Nat → Option α} {r s : α} (h : Ev g r) (h' : Ev g s) : r = s := by
 obtain ⟨K, h⟩ := h; obtain ⟨K', h'⟩ := h'; have h1 := h (K + K') (by omega); rw [h' (K + K') (by omega)] at h1; exact (Option.some.inj h1).symm
theorem loop_ev {σ ρ : Type} (n : Nat) (L : Nat → σ → Int → Option ρ) (I : Nat → σ → Prop) (Q : ρ → Prop)
  (hstep : ∀ i s, i < n → I i s → (∃ s', I (i + 1) s' ∧ ∃ K, ∀ k, K ≤ k → L (k + 1) s (i : Int) = L k s' ((i + 1 : Nat) : Int)) ∨ (∃ r, Q r ∧ ∃ K, ∀ k, K ≤ k → L (k + 1) s (i : Int) = some r))
  (hend : ∀ s, I n s → ∃ r, Q r ∧ ∃ K, ∀ k, K ≤ k → L (k + 1) s (n : Int) = some r) :
  ∀ d i s, i ≤ n → n - i = d → I i s → ∃ r, Q r ∧ Ev (fun k => L k s (i : Int)) r := by
 intro d; induction d with
 | zero =>
  intro i s hi hd hI; obtain rfl : i = n := by omega
  obtain ⟨r, hr, h⟩ := hend s hI; exact ⟨r, hr, Ev.last h⟩
 | succ d ih =>
  intro i s hi hd hI; rcases hstep i s (by omega) hI with ⟨s', hI', h⟩ | ⟨r, hr, h⟩
  ·obtain ⟨r, hr, h'⟩ := ih (i + 1) s' (by omega) (by omega) hI'; exact ⟨r, hr, Ev.next h h'⟩
  ·exact ⟨r, hr, Ev.last h⟩
theorem loop_is {σ ρ : Type} (n : Nat) (L : Nat → σ → Int → Option ρ) (I : Nat → σ → Prop) (r : ρ)
  (hstep : ∀ i s, i < n → I i s → (∃ s', I (i + 1) s' ∧ ∃ K, ∀ k, K ≤ k → L (k + 1) s (i : Int) = L k s' ((i + 1 : Nat) : Int)) ∨ (∃ K, ∀ k, K ≤ k → L (k + 1) s (i : Int) = some r))
  (hend : ∀ s, I n s → ∃ K, ∀ k, K ≤ k → L (k + 1) s (n : Int) = some r) (s : σ) (h0 : I 0 s) : Ev (fun k => L k s 0) r := by
 obtain ⟨r', hr, h⟩ := loop_ev n L I (fun x => x = r) (fun i s hi hI => (hstep i s hi hI).imp id (fun h => ⟨r, rfl, h⟩)) (fun s hI => ⟨r, rfl, hend s hI⟩) n 0 s (by omega) (by omega) h0; rw [hr] at h; exact h
theorem get_rep {α : Type} (d : α) (xs : List α) (i : Nat) (h : i < xs.length) : xs.getD i d = xs[i] := by
 rw [List.getD_eq_getElem?_getD, List.getElem?_eq_getElem h]; rfl
theorem rdOf_at {α : Type} (d : α) (xs : List α) (i : Nat) (h : i < xs.length) : rdOf d xs (i : Int) = xs[i] := by
 unfold rdOf; rw [Int.toNat_natCast]; exact get_rep _ _ _ h
theorem copy_loop {β : Type} (n : Nat) (hn : n ≤ 9223372036854775807) (g : Nat → β) (z : β) (L : Nat → List β → Int → Option (List β))
  (hL : ∀ (i : Nat) ys, i < n → ys.length = n → ∃ K, ∀ k, K ≤ k → L (k + 1) ys (i : Int) = L k (ys.set i (g i)) (wrap64 ((i : Int) + 1)))
  (hE : ∀ ys, ys.length = n → ∃ K, ∀ k, K ≤ k → L (k + 1) ys (n : Int) = some ys) :
  Ev (fun k => L k (List.replicate n z) 0) ((List.range n).map g) := by
 refine loop_is n L (fun i ys => ys.length = n ∧ ∀ j, j < i → ys[j]? = some (g j)) _ ?_ ?_ _ ⟨by simp, fun j hj => by omega⟩
 ·rintro i ys hi ⟨hl, hy⟩; refine Or.inl ⟨ys.set i (g i), ⟨by simp [hl], fun j hj => ?_⟩, ?_⟩
  ·by_cases e : j = i
   ·subst e; rw [List.getElem?_set_self (by omega)]
   ·rw [List.getElem?_set_ne (by omega)]; exact hy j (by omega)
  ·obtain ⟨K, hK⟩ := hL i ys hi hl; exact ⟨K, fun k hk => by rw [hK k hk, up64 (by omega)]⟩
 ·rintro ys ⟨hl, hy⟩; obtain ⟨K, hK⟩ := hE ys hl; refine ⟨K, fun k hk => ?_⟩; rw [hK k hk]; congr 1
  apply List.ext_getElem?; intro j; by_cases hj : j < n
  ·rw [hy j hj]; simp [hj]
  ·rw [List.getElem?_eq_none (by omega), List.getElem?_eq_none (by simp; omega)]
theorem map_range {α β : Type} (f : α → β) (d : α) (xs : List α) : (List.range xs.length).map (fun i => f (xs.getD i d)) = xs.map f := by
 apply List.ext_getElem?; intro j; by_cases hj : j < xs.length
 ·simp [hj]
 ·rw [List.getElem?_eq_none (by simp; omega), List.getElem?_eq_none (by simp; omega)]
theorem map_range_id {α : Type} (d : α) (xs : List α) : (List.range xs.length).map (fun i => xs.getD i d) = xs := by
 have := map_range (fun x : α => x) d xs; simpa using this
theorem all_loop (n : Nat) (hn : n ≤ 9223372036854775807) (T : Nat → Prop) (L : Nat → Int → Option Bool) (y z : Bool)
  (hy : ∀ i : Nat, i < n → T i → ∃ K, ∀ k, K ≤ k → L (k + 1) (i : Int) = L k (wrap64 ((i : Int) + 1)))
  (hz : ∀ i : Nat, i < n → ¬ T i → ∃ K, ∀ k, K ≤ k → L (k + 1) (i : Int) = some z)
  (hE : ∃ K, ∀ k, K ≤ k → L (k + 1) (n : Int) = some y) [Decidable (∀ i, i < n → T i)] (r : Bool) (hr : r = if (∀ i, i < n → T i) then y else z) :
  Ev (fun k => L k 0) r := by
 by_cases h : ∀ i, i < n → T i
 ·rw [if_pos h] at hr; subst hr; refine loop_is (σ := Unit) n (fun k _ i => L k i) (fun _ _ => True) r ?_ ?_ () trivial
  ·intro i _ hi _; obtain ⟨K, hK⟩ := hy i hi (h i hi); exact Or.inl ⟨(), trivial, K, fun k hk => by rw [hK k hk, up64 (by omega)]⟩
  ·intro _ _; exact hE
 ·rw [if_neg h] at hr; subst hr; refine loop_is (σ := Unit) n (fun k _ i => L k i) (fun i _ => ∀ j, j < i → T j) r ?_ ?_ () (fun j hj => by omega)
  ·intro i _ hi hI; by_cases hT : T i
   ·obtain ⟨K, hK⟩ := hy i hi hT; refine Or.inl ⟨(), fun j hj => ?_, K, fun k hk => by rw [hK k hk, up64 (by omega)]⟩; by_cases e : j = i
    ·subst e; exact hT
    ·exact hI j (by omega)
   ·exact Or.inr (hz i hi hT)
  ·intro _ hI; exact absurd hI h
theorem all_true (n : Nat) (hn : n ≤ 9223372036854775807) (L : Nat → Int → Option Bool) (y : Bool)
  (hy : ∀ i : Nat, i < n → ∃ K, ∀ k, K ≤ k → L (k + 1) (i : Int) = L k (wrap64 ((i : Int) + 1)))
  (hE : ∃ K, ∀ k, K ≤ k → L (k + 1) (n : Int) = some y) : Ev (fun k => L k 0) y := by
 refine loop_is (σ := Unit) n (fun k _ i => L k i) (fun _ _ => True) y ?_ ?_ () trivial
 ·intro i _ hi _; obtain ⟨K, hK⟩ := hy i hi; exact Or.inl ⟨(), trivial, K, fun k hk => by rw [hK k hk, up64 (by omega)]⟩
 ·intro _ _; exact hE
theorem two_loops {σ τ ρ : Type} (n : Nat) (L : Nat → σ → Int → Option ρ) (M : Nat → τ → Int → Option ρ) (I : Nat → σ → τ → Prop)
  (hstep : ∀ i s t, i < n → I i s t → (∃ s' t', I (i + 1) s' t' ∧ (∃ K, ∀ k, K ≤ k → L (k + 1) s (i : Int) = L k s' ((i + 1 : Nat) : Int)) ∧ (∃ K, ∀ k, K ≤ k → M (k + 1) t (i : Int) = M k t' ((i + 1 : Nat) : Int))) ∨ (∃ r, (∃ K, ∀ k, K ≤ k → L (k + 1) s (i : Int) = some r) ∧ (∃ K, ∀ k, K ≤ k → M (k + 1) t (i : Int) = some r)))
  (hend : ∀ s t, I n s t → ∃ r, (∃ K, ∀ k, K ≤ k → L (k + 1) s (n : Int) = some r) ∧ (∃ K, ∀ k, K ≤ k → M (k + 1) t (n : Int) = some r)) :
  ∀ d i s t, i ≤ n → n - i = d → I i s t → ∃ r, Ev (fun k => L k s (i : Int)) r ∧ Ev (fun k => M k t (i : Int)) r := by
 intro d; induction d with
 | zero =>
  intro i s t hi hd hI; obtain rfl : i = n := by omega
  obtain ⟨r, h1, h2⟩ := hend s t hI; exact ⟨r, Ev.last h1, Ev.last h2⟩
 | succ d ih =>
  intro i s t hi hd hI; rcases hstep i s t (by omega) hI with ⟨s', t', hI', h1, h2⟩ | ⟨r, h1, h2⟩
  ·obtain ⟨r, e1, e2⟩ := ih (i + 1) s' t' (by omega) (by omega) hI'; exact ⟨r, Ev.next h1 e1, Ev.next h2 e2⟩
  ·exact ⟨r, Ev.last h1, Ev.last h2⟩
def Evt (p : Nat → Prop) : Prop := ∃ K, ∀ k, K ≤ k → p k
theorem Evt.and {p q : Nat → Prop} (h : Evt p) (h' : Evt q) : Evt (fun k => p k ∧ q k) := by
 obtain ⟨K, h⟩ := h; obtain ⟨K', h'⟩ := h'; exact ⟨K + K', fun k hk => ⟨h k (by omega), h' k (by omega)⟩⟩
theorem Evt.imp {p q : Nat → Prop} (h : Evt p) (hpq : ∀ k, p k → q k) : Evt q := by
 obtain ⟨K, h⟩ := h; exact ⟨K, fun k hk => hpq k (h k hk)⟩
theorem chosen {α : Type} [Inhabited α] {p : Nat → α → Prop} {n : Nat} (h : ∀ i, i < n → ∃ x, p i x) : ∃ f : Nat → α, ∀ i, i < n → p i (f i) := by
 classical
 refine ⟨fun i => if hi : i < n then Classical.choose (h i hi) else default, fun i hi => ?_⟩; simp only [hi, dif_pos]; exact Classical.choose_spec (h i hi)
theorem getD_mem {α : Type} (d : α) (xs : List α) (i : Nat) (h : i < xs.length) : xs.getD i d ∈ xs := by
 rw [get_rep d xs i h]; exact List.getElem_mem h
def nameB (s : ByteArray) : Bool := decide (∀ i : Nat, i < s.size → 97 ≤ bt s (i : Int) ∧ bt s (i : Int) ≤ 122) && (decide ((1 : Int) ≤ (s.size : Int)) && decide ((s.size : Int) ≤ 2))
def idxFrom (s : ByteArray) : List ByteArray → Nat → Int
 | [], _ => -1
 | x :: r, i => if x.toList = s.toList then (i : Int) else idxFrom s r (i + 1)
def idx (l : List ByteArray) (s : ByteArray) : Int := idxFrom s l 0
theorem idx_go (s : ByteArray) (l : List ByteArray) (i : Nat) (h : i < l.length) : idxFrom s (l.drop i) i = if l[i].toList = s.toList then (i : Int) else idxFrom s (l.drop (i + 1)) (i + 1) := by
 rw [List.drop_eq_getElem_cons h]; rfl
def varsB (l : List ByteArray) : Bool := decide (∀ i : Nat, i < l.length → nameB (l.getD i ByteArray.empty) = true ∧ idx l (l.getD i ByteArray.empty) = (i : Int)) && (decide ((1 : Int) ≤ (l.length : Int)) && decide ((l.length : Int) ≤ 4))
theorem if_and_false (p : Prop) [Decidable p] (b : Bool) : (if p then b else false) = (decide p && b) := by
 by_cases h : p <;> simp [h]
end Go.Proofs.YtoljagpjejpmpaaX
