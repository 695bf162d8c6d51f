/-
  The pure statement of laws.FnFormulas: what the printed functions compute makes the law answer true, for every argument of its kinds (no further condition).
-/
import Derived.Test.YtoljagpjejpmpaaPFnFormulasx14
import Derived.Test.YtoljagpjejpmpaaXPure
namespace Go.Proofs.Ytoljagpjejpmpaa.Pure.LFnFormulas
open Go.RowKit Go.Proofs.Ytoljagpjejpmpaa.PFnFormulas Go.Proofs.YtoljagpjejpmpaaW.PrintWords Go.Proofs.YtoljagpjejpmpaaW.PrintLast Go.Proofs.YtoljagpjejpmpaaX
set_option linter.unusedVariables false
set_option linter.unusedSimpArgs false
theorem in_eq (a b c : Int) : spec_l1In.f a b c = some (decide (b ≤ a) && decide (a ≤ c)) := by
  unfold spec_l1In.f
  by_cases h : b ≤ a <;> simp [h]
theorem wi_eq (a b c : Int) : impl_within.f a b c = some (decide (b ≤ a) && decide (a ≤ c)) := by
  unfold impl_within.f
  by_cases h : b ≤ a <;> simp [h]
theorem and255 (x : Int) : 0 ≤ Go.bits .and .i64 x 255 ∧ Go.bits .and .i64 x 255 ≤ 255 := by
  have h : (BitVec.ofInt 64 (255 : Int)).toNat = 255 := by decide
  have hl : (BitVec.ofInt 64 x).toNat &&& 255 ≤ 255 := Nat.and_le_right
  have e : Go.bits .and .i64 x 255 = IntKind.i64.wrap (((BitVec.ofInt 64 x) &&& (BitVec.ofInt 64 (255 : Int)) : BitVec 64).toNat : Int) := rfl
  rw [BitVec.toNat_and, h] at e
  rw [e, IntKind.wrap_i64]
  omega
def St (i : Int) : Prop := 0 ≤ i ∧ i ≤ 1048576
theorem l1Byte_ok (b : List Int) (i h : Int) (hb : b.length ≤ 1048576) (hi : St i) : ∃ r i' h', spec_l1Byte.f b i h = some (r, i', h') ∧ 0 ≤ r ∧ r ≤ 255 ∧ St i' := by
  unfold spec_l1Byte.f
  have hi0 := hi.1
  by_cases c : i < (b.length : Int)
  · rw [if_pos c, if_pos hi0]
    refine ⟨_, _, _, rfl, (and255 _).1, (and255 _).2, ?_⟩
    rw [w64 (by omega) (by omega)]
    exact ⟨by omega, by omega⟩
  · rw [if_neg c]
    exact ⟨_, _, _, rfl, (and255 _).1, (and255 _).2, hi⟩
theorem l1Below_ok (b : List Int) (i h n : Int) (hb : b.length ≤ 1048576) (hi : St i) : ∃ r i' h', spec_l1Below.f b i h n = some (r, i', h') ∧ 0 ≤ r ∧ (0 < n → r < n) ∧ (n ≤ 0 → r = 0) ∧ St i' := by
  unfold spec_l1Below.f
  by_cases c : n ≤ 0
  · rw [if_pos c]
    exact ⟨_, _, _, rfl, by omega, fun h => by omega, fun _ => rfl, hi⟩
  · rw [if_neg c]
    obtain ⟨r1, i1, h1, e1, p1, q1, s1⟩ := l1Byte_ok b i h hb hi
    by_cases c2 : n ≤ 256
    · rw [if_pos c2, e1]
      simp only [Option.bind_some]
      rw [if_neg (by omega)]
      exact ⟨_, _, _, rfl, Int.tmod_nonneg _ p1, fun h => Int.tmod_lt_of_pos _ h, fun h => by omega, s1⟩
    · obtain ⟨r2, i2, h2, e2, p2, q2, s2⟩ := l1Byte_ok b i1 h1 hb s1
      obtain ⟨r3, i3, h3, e3, p3, q3, s3⟩ := l1Byte_ok b i2 h2 hb s2
      obtain ⟨r4, i4, h4, e4, p4, q4, s4⟩ := l1Byte_ok b i3 h3 hb s3
      rw [if_neg c2, e1]
      simp only [Option.bind_some, e2, e3, e4]
      rw [if_neg (by omega)]
      refine ⟨_, _, _, rfl, Int.tmod_nonneg _ ?_, fun h => Int.tmod_lt_of_pos _ h, fun h => by omega, s4⟩
      rw [w64 (x := r1 * 16777216) (by omega) (by omega), w64 (x := r2 * 65536) (by omega) (by omega), w64 (x := r3 * 256) (by omega) (by omega), w64 (x := r1 * 16777216 + r2 * 65536) (by omega) (by omega), w64 (x := r1 * 16777216 + r2 * 65536 + r3 * 256) (by omega) (by omega), w64 (by omega) (by omega)]
      omega
theorem ev_l1New (l : List Int) (h : l.length ≤ 1048576) : ∃ g, Ev (fun k => spec_l1New.f k l) (l, 0, g) := by
  obtain ⟨r, hr, he⟩ := loop_ev (σ := Int) l.length (fun k s i => spec_l1New.l0 k l s i) (fun _ _ => True) (fun r => ∃ g, r = (l, 0, g))
    (fun i s hi _ => by
      by_cases c : (i : Int) < 4000
      · exact Or.inl ⟨_, trivial, 0, fun k _ => by simp only [spec_l1New.l0]; rw [if_pos (by omega), if_pos c, if_pos (by omega), up64 (by omega)]⟩
      · exact Or.inr ⟨_, ⟨s, rfl⟩, 0, fun k _ => by simp only [spec_l1New.l0]; rw [if_pos (by omega), if_neg c]⟩)
    (fun s _ => ⟨_, ⟨s, rfl⟩, 0, fun k _ => by simp only [spec_l1New.l0]; rw [if_neg (by omega)]⟩)
    l.length 0 (wrap64 (26583 + (l.length : Int))) (by omega) (by omega) trivial
  obtain ⟨g, rfl⟩ := hr
  exact ⟨g, Ev.congr (fun k => rfl) he⟩
theorem st0 : St 0 := ⟨by omega, by omega⟩
theorem l1PickInt_ok (b : List Int) (i h : Int) (l : List Int) (hb : b.length ≤ 1048576) (hi : St i) (hl : 0 < l.length) : ∃ r i' h', spec_l1PickInt.f b i h l = some (r, i', h') ∧ r ∈ l ∧ St i' := by
  unfold spec_l1PickInt.f
  obtain ⟨r, i', h', e, p, q, _, s⟩ := l1Below_ok b i h (l.length : Int) hb hi
  have q' := q (by omega)
  rw [e]
  simp only [Option.bind_some]
  rw [if_pos p, if_pos q']
  refine ⟨_, _, _, rfl, ?_, s⟩
  obtain ⟨m, rfl⟩ := Int.eq_ofNat_of_zero_le p
  rw [rd_at _ _ (by omega)]
  exact List.getElem_mem _
theorem rdG (l : List S32) (i : Nat) : rd_T32 l (i : Int) = l.getD i z32 := by unfold rd_T32; rw [Int.toNat_natCast]
theorem etaG (y : S32) : (⟨y.f0, y.f1, y.f2, y.f3, y.f4⟩ : S32) = y := by cases y; rfl
def LG : Nat → S32 → Prop
  | 0, _ => False
  | n + 1, x => x.f4.length ≤ 1048576 ∧ ∀ y ∈ x.f4, LG n y
instance : Inhabited S32 := ⟨z32⟩
def csum {α : Type} (f : α → Nat) : List α → Nat
  | [] => 0
  | a :: l => f a + csum f l
theorem csum_take {α : Type} (f : α → Nat) (d : α) : ∀ (l : List α) (i : Nat), i < l.length → csum f (l.take (i + 1)) = csum f (l.take i) + f (l.getD i d)
  | [], i, h => by simp at h
  | a :: l, 0, _ => by simp [csum]
  | a :: l, i + 1, h => by
    simp only [List.take_succ_cons, csum]
    have := csum_take f d l i (by simpa using h)
    rw [this]
    simp only [List.getD_cons_succ]
    omega
theorem csum_map {α β : Type} (f : α → Nat) (g : β → Nat) (d : α) (e : β) : ∀ (l : List α) (m : List β), l.length = m.length → (∀ i, i < l.length → f (l.getD i d) = g (m.getD i e)) → csum f l = csum g m
  | [], [], _, _ => rfl
  | a :: l, [], h, _ => by simp at h
  | [], b :: m, h, _ => by simp at h
  | a :: l, b :: m, h, hf => by
    have h0 : f a = g b := hf 0 (by simp)
    have h1 := csum_map f g d e l m (by simpa using h) (fun i hi => hf (i + 1) (by simpa using hi))
    simp only [csum, h0, h1]
theorem csum_mem {α : Type} (f : α → Nat) : ∀ (l : List α) (x : α), x ∈ l → f x ≤ csum f l
  | a :: l, x, h => by
    simp only [csum]
    rcases List.mem_cons.mp h with rfl | h
    · omega
    · have := csum_mem f l x h
      omega
def cntG : Nat → S32 → Nat
  | 0, _ => 0
  | n + 1, x => x.f4.length + csum (cntG n) x.f4
theorem deep : ∀ (m n : Nat) (y : S32), LG n y → cntG n y ≤ m → LG (m + 1) y := by
  intro m
  induction m with
  | zero =>
    intro n y h hc
    cases n with
    | zero => exact h.elim
    | succ n =>
      refine ⟨h.1, fun z hz => ?_⟩
      have hl : 0 < y.f4.length := List.length_pos_of_mem hz
      simp only [cntG] at hc
      omega
  | succ m ih =>
    intro n y h hc
    cases n with
    | zero => exact h.elim
    | succ n =>
      refine ⟨h.1, fun z hz => ?_⟩
      have hl : 0 < y.f4.length := List.length_pos_of_mem hz
      have := csum_mem (cntG n) y.f4 z hz
      simp only [cntG] at hc
      exact ih n z (h.2 z hz) (by omega)
theorem max_eq (a b : Int) : spec_l1Max.f a b = some (mx a b) := by
  unfold spec_l1Max.f mx
  split <;> congr 1 <;> omega
theorem ev_DepthOf : ∀ (n : Nat) (x : S32), LG n x → ∃ r, Ev (fun k => spec_DepthOf.f k x.f0 x.f1 x.f2 x.f3 x.f4) r ∧ Ev (fun k => impl_DepthOf.f k x.f0 x.f1 x.f2 x.f3 x.f4) r := by
  intro n
  induction n with
  | zero => intro x h; exact h.elim
  | succ n ih =>
    intro x hx
    obtain ⟨s, hs⟩ := chosen (α := Int) (p := fun i r => Ev (fun k => spec_DepthOf.f k (x.f4.getD i z32).f0 (x.f4.getD i z32).f1 (x.f4.getD i z32).f2 (x.f4.getD i z32).f3 (x.f4.getD i z32).f4) r ∧ Ev (fun k => impl_DepthOf.f k (x.f4.getD i z32).f0 (x.f4.getD i z32).f1 (x.f4.getD i z32).f2 (x.f4.getD i z32).f3 (x.f4.getD i z32).f4) r) (n := x.f4.length) (fun i hi => ih _ (hx.2 _ (getD_mem _ _ _ hi)))
    obtain ⟨r, h1, h2⟩ := two_loops (σ := Int) (τ := Int) x.f4.length (fun k s i => spec_DepthOf.l0 k s i x.f0 x.f1 x.f2 x.f3 x.f4) (fun k s i => impl_DepthOf.l0 k s x.f4 (x.f4.length : Int) i) (fun _ s t => s = t)
      (fun i a b hi hab => by
        subst hab
        obtain ⟨⟨K, hK⟩, ⟨K', hK'⟩⟩ := hs i hi
        have hl := hx.1
        refine Or.inl ⟨mx a (s i), mx a (s i), rfl, ⟨K, fun k hk => ?_⟩, ⟨K', fun k hk => ?_⟩⟩
        · have e := hK k hk
          dsimp only at e
          simp only [spec_DepthOf.l0]
          rw [if_pos (by omega), if_pos (by omega), rdG, e]
          simp only [Option.bind_some, max_eq]
          rw [up64 (by omega)]
        · have e := hK' k hk
          dsimp only at e
          simp only [impl_DepthOf.l0]
          rw [if_pos (by omega), if_pos (by omega), if_pos (by omega), rdG, e]
          simp only [Option.bind_some]
          rw [up64 (by omega)])
      (fun a b hab => by
        subst hab
        exact ⟨wrap64 (a + 1), ⟨0, fun k _ => by simp only [spec_DepthOf.l0]; rw [if_neg (by omega)]⟩, ⟨0, fun k _ => by simp only [impl_DepthOf.l0]; rw [if_neg (by omega)]⟩⟩)
      x.f4.length 0 0 0 (by omega) (by omega) rfl
    exact ⟨r, Ev.next (f := fun k => spec_DepthOf.l0 k 0 0 x.f0 x.f1 x.f2 x.f3 x.f4) ⟨0, fun k _ => by simp only [spec_DepthOf.f]⟩ h1, Ev.next (f := fun k => impl_DepthOf.l0 k 0 x.f4 (x.f4.length : Int) 0) ⟨0, fun k _ => by simp only [impl_DepthOf.f]⟩ h2⟩
theorem ev_left : ∀ (n : Nat) (y : S32), LG n y → ∀ a : Int, 0 ≤ a → a ≤ 1000 → ∃ r, Ev (fun k => spec_l10Left.f k y.f0 y.f1 y.f2 y.f3 y.f4 a) r ∧ ((0 ≤ r ∧ r = a - 1 - cntG n y) ∨ (r < 0 ∧ a < 1 + cntG n y)) := by
  intro n
  induction n with
  | zero => intro y h; exact h.elim
  | succ n ih =>
    intro y hy a h0 h1
    have hlen := hy.1
    have hsum : ∀ i, i < y.f4.length → i + 1 + csum (cntG n) (y.f4.take (i + 1)) ≤ cntG (n + 1) y := fun i hi => by
      simp only [cntG]
      have : ∀ (l : List S32) (j : Nat), csum (cntG n) (l.take j) ≤ csum (cntG n) l := by
        intro l
        induction l with
        | nil => intro j; simp [csum]
        | cons b l ihl =>
          intro j
          cases j with
          | zero => simp [csum]
          | succ j => simp only [List.take_succ_cons, csum]; have := ihl j; omega
      have := this y.f4 (i + 1)
      omega
    obtain ⟨r, hr, he⟩ := loop_ev (σ := Int) y.f4.length (fun k s i => spec_l10Left.l0 k s i y.f0 y.f1 y.f2 y.f3 y.f4)
      (fun i s => (0 ≤ s ∧ s = a - 1 - i - csum (cntG n) (y.f4.take i)) ∨ (s < 0 ∧ a < 1 + cntG (n + 1) y))
      (fun r => (0 ≤ r ∧ r = a - 1 - cntG (n + 1) y) ∨ (r < 0 ∧ a < 1 + cntG (n + 1) y))
      (fun i s hi hs => by
        rcases hs with ⟨s0, s1⟩ | ⟨s0, s1⟩
        · obtain ⟨r, ⟨K, hK⟩, hr⟩ := ih (y.f4.getD i z32) (hy.2 _ (getD_mem _ _ _ hi)) s s0 (by omega)
          have ht := csum_take (cntG n) z32 y.f4 i hi
          have hs := hsum i hi
          refine Or.inl ⟨r, ?_, K, fun k hk => ?_⟩
          · rcases hr with ⟨r0, r1⟩ | ⟨r0, r1⟩
            · exact Or.inl ⟨r0, by omega⟩
            · exact Or.inr ⟨r0, by omega⟩
          · have e := hK k hk
            dsimp only at e
            simp only [spec_l10Left.l0]
            rw [if_pos (by omega), if_pos (by omega), if_pos (by omega), rdG, e]
            simp only [Option.bind_some]
            rw [up64 (by omega)]
        · refine Or.inr ⟨s, Or.inr ⟨s0, s1⟩, 0, fun k _ => ?_⟩
          simp only [spec_l10Left.l0]
          rw [if_pos (by omega), if_neg (by omega)])
      (fun s hs => ⟨s, by
        rw [List.take_length] at hs
        simp only [cntG] at hs ⊢
        rcases hs with ⟨s0, s1⟩ | ⟨s0, s1⟩
        · exact Or.inl ⟨s0, by omega⟩
        · exact Or.inr ⟨s0, by omega⟩, 0, fun k _ => by simp only [spec_l10Left.l0]; rw [if_neg (by omega)]⟩)
      y.f4.length 0 (a - 1) (by omega) (by omega) (by
        by_cases c : 0 ≤ a - 1
        · exact Or.inl ⟨c, by simp [csum]⟩
        · exact Or.inr ⟨by omega, by omega⟩)
    exact ⟨r, Ev.next (f := fun k => spec_l10Left.l0 k (a - 1) 0 y.f0 y.f1 y.f2 y.f3 y.f4) ⟨0, fun k _ => by simp only [spec_l10Left.f]; rw [w64 (by omega) (by omega)]⟩ he, hr⟩
theorem ev_size : ∀ (n : Nat) (y : S32), LG n y → cntG n y ≤ 1048576 → Ev (fun k => impl_SizeOf.f k y.f0 y.f1 y.f2 y.f3 y.f4) (1 + cntG n y : Int) := by
  intro n
  induction n with
  | zero => intro y h; exact h.elim
  | succ n ih =>
    intro y hy hc
    have hlen := hy.1
    have hle : ∀ (l : List S32) (j : Nat), csum (cntG n) (l.take j) ≤ csum (cntG n) l := by
      intro l
      induction l with
      | nil => intro j; simp [csum]
      | cons b l ihl =>
        intro j
        cases j with
        | zero => simp [csum]
        | succ j => simp only [List.take_succ_cons, csum]; have := ihl j; omega
    have hcn : y.f4.length + csum (cntG n) y.f4 ≤ 1048576 := by simpa only [cntG] using hc
    have he := loop_is (σ := Int) y.f4.length (fun k s i => impl_SizeOf.l0 k s y.f4 (y.f4.length : Int) i)
      (fun i s => s = 1 + i + csum (cntG n) (y.f4.take i)) (1 + cntG (n + 1) y : Int)
      (fun i s hi hs => by
        have hm := csum_mem (cntG n) y.f4 _ (getD_mem z32 _ _ hi)
        obtain ⟨K, hK⟩ := ih (y.f4.getD i z32) (hy.2 _ (getD_mem _ _ _ hi)) (by omega)
        have ht := csum_take (cntG n) z32 y.f4 i hi
        have h1 := hle y.f4 i
        refine Or.inl ⟨s + (1 + cntG n (y.f4.getD i z32)), by omega, K, fun k hk => ?_⟩
        have e := hK k hk
        dsimp only at e
        simp only [impl_SizeOf.l0]
        rw [if_pos (by omega), if_pos (by omega), if_pos (by omega), rdG, e]
        simp only [Option.bind_some]
        rw [up64 (by omega), w64 (by omega) (by omega)])
      (fun s hs => ⟨0, fun k _ => by
        rw [List.take_length] at hs
        simp only [impl_SizeOf.l0, cntG]
        rw [if_neg (by omega)]
        congr 1
        omega⟩)
      1 (by simp [csum])
    exact Ev.next (f := fun k => impl_SizeOf.l0 k 1 y.f4 (y.f4.length : Int) 0) ⟨0, fun k _ => by simp only [impl_SizeOf.f]⟩ he
def arN (a : Int) : Int := if 1 ≤ a ∧ a ≤ 7 then 0 else if a = 8 ∨ a = 11 ∨ a = 12 then 1 else if a = 9 ∨ a = 10 then 2 else -1
theorem ar_spec (k : Nat) (a : Int) : spec_ArityOf.f (k + 1) a = some (arN a) := by
  unfold spec_ArityOf.f arN
  rw [in_eq]
  simp only [Option.bind_some, spec_ArityOf.j0]
  by_cases c : 1 ≤ a ∧ a ≤ 7
  · rw [if_pos (by simp [c.1, c.2]), if_pos c]
  · rw [if_neg (by simp; omega), if_neg c]
    by_cases c8 : a = 8
    · subst c8; rfl
    by_cases c11 : a = 11
    · subst c11; rfl
    by_cases c12 : a = 12
    · subst c12; rfl
    rw [if_neg c8, if_neg c11, if_neg (by simpa using c12), if_neg (show ¬ (a = 8 ∨ a = 11 ∨ a = 12) by omega)]
    by_cases c9 : a = 9
    · subst c9; rfl
    by_cases c10 : a = 10
    · subst c10; rfl
    rw [if_neg c9, if_neg c10, if_neg (by omega)]
theorem ar_impl (k : Nat) (a : Int) : impl_ArityOf.f (k + 1) a = some (arN a) := by
  unfold impl_ArityOf.f arN
  rw [wi_eq]
  simp only [Option.bind_some, impl_ArityOf.j0]
  by_cases c : 1 ≤ a ∧ a ≤ 7
  · rw [if_pos (by simp [c.1, c.2]), if_pos c]
  · rw [if_neg (by simp; omega), if_neg c]
    by_cases c8 : a = 8
    · subst c8; rfl
    by_cases c11 : a = 11
    · subst c11; rfl
    by_cases c12 : a = 12
    · subst c12; rfl
    rw [if_neg c8, if_neg c11, if_neg (by simpa using c12), if_neg (show ¬ (a = 8 ∨ a = 11 ∨ a = 12) by omega)]
    by_cases c9 : a = 9
    · subst c9; rfl
    by_cases c10 : a = 10
    · subst c10; rfl
    rw [if_neg c9, if_neg c10, if_neg (by omega)]
def ukB (a : Int) : Bool := decide (a = 2 ∨ a = 3)
def uuB (a : Int) : Bool := decide ((2 ≤ a ∧ a ≤ 7) ∨ a = 11 ∨ a = 12)
def uvB (a : Int) : Bool := decide (5 ≤ a ∧ a ≤ 7)
def fieldB (x : Int) (b : Bool) (n : Int) : Bool := if b = true then decide (0 ≤ x ∧ x < n) else decide (x = 0)
def nodeB (v a k u w len : Int) : Bool := decide (len = arN a) && (fieldB k (ukB a) v && (fieldB u (uuB a) 4 && fieldB w (uvB a) 4))
theorem field_eq (x : Int) (b : Bool) (n : Int) (h0 : 0 ≤ n) (h1 : n ≤ 1000000) : impl_isField.f x b n = some (fieldB x b n) := by
  unfold impl_isField.f fieldB
  cases b with
  | false => simp [BEq.beq]
  | true =>
    rw [if_pos rfl, if_pos rfl, wi_eq, w64 (by omega) (by omega)]
    simp only [Option.bind_some]
    by_cases c : 0 ≤ x ∧ x < n
    · rw [if_pos (by simp; omega), decide_eq_true c]
    · rw [if_neg (by simp; omega), decide_eq_false c]
theorem uk_eq (a : Int) : impl_usesK.f a = some (ukB a) := by
  unfold impl_usesK.f ukB
  by_cases c : a = 2
  · rw [if_pos c]; simp [c]
  · rw [if_neg c]; simp [c]; rfl
theorem uu_eq (a : Int) : impl_usesU.f a = some (uuB a) := by
  unfold impl_usesU.f uuB impl_isBinder.f
  rw [wi_eq]
  simp only [Option.bind_some]
  by_cases c : 2 ≤ a ∧ a ≤ 7
  · rw [if_pos (by simp [c.1, c.2]), decide_eq_true (Or.inl c)]
  · rw [if_neg (by simp; omega)]
    by_cases c2 : a = 11
    · rw [if_pos c2]; simp [c2]
    · rw [if_neg c2]
      by_cases c3 : a = 12
      · subst c3; rfl
      · rw [decide_eq_false (by omega)]; simp [c3]
theorem uv_eq (a : Int) : impl_usesV.f a = some (uvB a) := by
  unfold impl_usesV.f uvB
  rw [wi_eq]
  simp only [Option.bind_some]
  by_cases c : 5 ≤ a ∧ a ≤ 7
  · rw [decide_eq_true c, decide_eq_true c.1, decide_eq_true c.2]; rfl
  · rw [decide_eq_false c]; simp; omega
def WF (v : Int) : Nat → S32 → Bool
  | 0, _ => false
  | n + 1, y => nodeB v y.f0 y.f1 y.f2 y.f3 (y.f4.length : Int) && y.f4.all (WF v n)
theorem ev_bad (v : Int) (n : Nat) : ∀ l : List S32, (∀ z ∈ l, Ev (fun k => impl_Formula_isWell.f k z.f0 z.f1 z.f2 z.f3 z.f4 v) (WF v n z)) → Ev (fun k => impl_Formula_isWell.bad (fun x => impl_Formula_isWell.f k x.f0 x.f1 x.f2 x.f3 x.f4 v) l) (!(l.all (WF v n))) := by
  intro l
  induction l with
  | nil => intro _; exact ⟨0, fun k _ => rfl⟩
  | cons z l ih =>
    intro h
    obtain ⟨K1, h1⟩ := h z (List.mem_cons_self ..)
    obtain ⟨K2, h2⟩ := ih (fun x hx => h x (List.mem_cons_of_mem _ hx))
    refine ⟨K1 + K2, fun k hk => ?_⟩
    have e1 := h1 k (by omega)
    have e2 := h2 k (by omega)
    dsimp only at e1 e2
    simp only [impl_Formula_isWell.bad]
    rw [e1]
    simp only [Option.bind_some, List.all_cons]
    cases WF v n z with
    | false => rfl
    | true => rw [if_pos rfl, e2]; rfl
theorem ev_well (v : Int) (v0 : 0 ≤ v) (v1 : v ≤ 1000000) : ∀ (n : Nat) (y : S32), LG n y → Ev (fun k => impl_Formula_isWell.f k y.f0 y.f1 y.f2 y.f3 y.f4 v) (WF v n y) := by
  intro n
  induction n with
  | zero => intro y h; exact h.elim
  | succ n ih =>
    intro y hy
    have hlen := hy.1
    obtain ⟨K, hK⟩ := ev_bad v n y.f4 (fun z hz => ih z (hy.2 z hz))
    refine ⟨K + 2, fun k hk => ?_⟩
    obtain ⟨m, rfl⟩ : ∃ m, k = m + 2 := ⟨k - 2, by omega⟩
    have e := hK (m + 1) (by omega)
    dsimp only at e
    show impl_Formula_isWell.f (m + 1 + 1) _ _ _ _ _ _ = _
    rw [impl_Formula_isWell.f]
    simp only [WF, nodeB]
    rw [if_pos (by omega), ar_impl]
    simp only [Option.bind_some, uk_eq, uu_eq, uv_eq, field_eq _ _ v v0 v1, field_eq _ _ 4 (by omega) (by omega)]
    by_cases c : (y.f4.length : Int) = arN y.f0
    · rw [if_pos c, decide_eq_true c]
      cases fieldB y.f1 (ukB y.f0) v with
      | false => simp
      | true =>
        cases fieldB y.f2 (uuB y.f0) 4 with
        | false => simp
        | true =>
          cases fieldB y.f3 (uvB y.f0) 4 with
          | false => simp
          | true =>
            simp only [if_true]
            have e' : impl_Formula_isWell.bad (fun x => impl_Formula_isWell.f (m + 1) x.f0 x.f1 x.f2 x.f3 x.f4 v) y.f4 = some (!(y.f4.all (WF v n))) := e
            rw [e']
            simp
    · rw [if_neg c, decide_eq_false c]
      rfl
def usN (a : Int) : Int := if a = 2 ∨ a = 3 ∨ a = 4 ∨ a = 11 ∨ a = 12 then 1 else if a = 5 ∨ a = 6 ∨ a = 7 then 2 else 0
theorem us_eq (k : Nat) (a : Int) : spec_l10Uses.f (k + 1) a = some (usN a) := by
  unfold spec_l10Uses.f usN
  simp only [spec_l10Uses.j0]
  by_cases c2 : a = 2
  · subst c2; rfl
  by_cases c3 : a = 3
  · subst c3; rfl
  by_cases c4 : a = 4
  · subst c4; rfl
  by_cases c11 : a = 11
  · subst c11; rfl
  by_cases c12 : a = 12
  · subst c12; rfl
  rw [if_neg c2, if_neg c3, if_neg c4, if_neg c11, if_neg (by simpa using c12), if_neg (show ¬ (a = 2 ∨ a = 3 ∨ a = 4 ∨ a = 11 ∨ a = 12) by omega)]
  by_cases c5 : a = 5
  · subst c5; rfl
  by_cases c6 : a = 6
  · subst c6; rfl
  by_cases c7 : a = 7
  · subst c7; rfl
  rw [if_neg c5, if_neg c6, if_neg c7, if_neg (by omega)]
theorem j2_eq (k : Nat) (b : Bool) (a p u w : Int) (l : List S32) : spec_l10Form.j2 (k + 2) b a p u w l = some (!b && (decide (0 ≤ u ∧ u < 4) && (decide (0 ≤ w ∧ w < 4) && decide ((l.length : Int) = arN a)))) := by
  simp only [spec_l10Form.j2, in_eq, ar_spec, Option.bind_some]
  cases b with
  | true => rfl
  | false =>
    rw [if_neg (by decide)]
    by_cases c : 0 ≤ u ∧ u < 4
    · rw [if_pos (by simp; omega), decide_eq_true c]
      by_cases d : 0 ≤ w ∧ w < 4
      · rw [if_pos (by simp; omega), decide_eq_true d]
        by_cases f : (l.length : Int) = arN a <;> simp [f]
      · rw [if_neg (by simp; omega), decide_eq_false d]; rfl
    · rw [if_neg (by simp; omega), decide_eq_false c]; rfl
theorem node_spec (k : Nat) (v : Int) (v0 : 0 ≤ v) (a p u w : Int) (l : List S32) : ((spec_l10Uses.f (k + 4) a).bind fun t117 => (if a = 2 then (spec_l10Form.j1 (k + 4) v t117 true a p u w l) else (spec_l10Form.j1 (k + 4) v t117 (a == 3) a p u w l))) = some (nodeB v a p u w (l.length : Int)) := by
  rw [us_eq]
  simp only [Option.bind_some]
  have e : (if a = 2 then (spec_l10Form.j1 (k + 4) v (usN a) true a p u w l) else (spec_l10Form.j1 (k + 4) v (usN a) (a == 3) a p u w l)) = spec_l10Form.j1 (k + 4) v (usN a) (ukB a) a p u w l := by
    by_cases c : a = 2
    · rw [if_pos c]; simp [ukB, c]
    · rw [if_neg c]
      congr 1
      by_cases d : a = 3
      · simp [ukB, d]
      · simp [ukB, c, d]
  rw [e]
  simp only [spec_l10Form.j1, j2_eq]
  unfold nodeB fieldB
  have hu : uuB a = decide (¬ usN a < 1) := by
    unfold uuB usN
    by_cases c1 : a = 2 ∨ a = 3 ∨ a = 4 ∨ a = 11 ∨ a = 12
    · rw [if_pos c1]; simp; omega
    · rw [if_neg c1]
      by_cases c2 : a = 5 ∨ a = 6 ∨ a = 7
      · rw [if_pos c2]; simp; omega
      · rw [if_neg c2]; simp; omega
  have hv : uvB a = decide (¬ usN a < 2) := by
    unfold uvB usN
    by_cases c1 : a = 2 ∨ a = 3 ∨ a = 4 ∨ a = 11 ∨ a = 12
    · rw [if_pos c1]; simp; omega
    · rw [if_neg c1]
      by_cases c2 : a = 5 ∨ a = 6 ∨ a = 7
      · rw [if_pos c2]; simp; omega
      · rw [if_neg c2]; simp; omega
  rw [hu, hv]
  generalize decide ((l.length : Int) = arN a) = L
  have hz : decide (0 ≤ (0 : Int) ∧ (0 : Int) < 4) = true := rfl
  cases ukB a with
  | true =>
    by_cases p0 : p < 0
    · have hp : decide (0 ≤ p ∧ p < v) = false := decide_eq_false (by omega)
      by_cases c1 : usN a < 1 <;> by_cases c2 : usN a < 2 <;> by_cases u0 : u = 0 <;> by_cases w0 : w = 0 <;> simp [c1, c2, u0, w0, p0, hp]
    · have hp : decide (0 ≤ p ∧ p < v) = !(decide (v ≤ p)) := by
        by_cases q : v ≤ p
        · rw [decide_eq_true q, decide_eq_false (by omega)]; rfl
        · rw [decide_eq_false q, decide_eq_true (by omega)]; rfl
      by_cases c1 : usN a < 1 <;> by_cases c2 : usN a < 2 <;> by_cases u0 : u = 0 <;> by_cases w0 : w = 0 <;> by_cases q : v ≤ p <;> cases L <;> simp [c1, c2, u0, w0, p0, hp, q]
  | false =>
    by_cases p0 : p = 0 <;> by_cases c1 : usN a < 1 <;> by_cases c2 : usN a < 2 <;> by_cases u0 : u = 0 <;> by_cases w0 : w = 0 <;> cases L <;> simp [c1, c2, u0, w0, p0]
theorem all_at (p : S32 → Bool) (l : List S32) : (∀ i, i < l.length → p (l.getD i z32) = true) ↔ l.all p = true := by
  rw [List.all_eq_true]
  constructor
  · intro h x hx
    obtain ⟨i, hi, rfl⟩ := List.getElem_of_mem hx
    have := h i hi
    rwa [get_rep _ _ _ hi] at this
  · intro h i hi
    exact h _ (getD_mem _ _ _ hi)
theorem ev_form (v : Int) (v0 : 0 ≤ v) : ∀ (n : Nat) (y : S32), LG n y → Ev (fun k => spec_l10Form.f k v y.f0 y.f1 y.f2 y.f3 y.f4) (WF v n y) := by
  intro n
  induction n with
  | zero => intro y h; exact h.elim
  | succ n ih =>
    intro y hy
    have hlen := hy.1
    have hc := all_loop y.f4.length (by omega) (fun i => WF v n (y.f4.getD i z32) = true) (fun k i => spec_l10Form.l0 k v i y.f0 y.f1 y.f2 y.f3 y.f4) (nodeB v y.f0 y.f1 y.f2 y.f3 (y.f4.length : Int)) false
      (fun i hi hT => by
        obtain ⟨K, hK⟩ := ih (y.f4.getD i z32) (hy.2 _ (getD_mem _ _ _ hi))
        refine ⟨K, fun k hk => ?_⟩
        have e := hK k hk
        dsimp only at e
        simp only [spec_l10Form.l0]
        rw [if_pos (by omega), if_pos (by omega), rdG, e]
        simp only [Option.bind_some]
        rw [if_pos hT])
      (fun i hi hT => by
        obtain ⟨K, hK⟩ := ih (y.f4.getD i z32) (hy.2 _ (getD_mem _ _ _ hi))
        refine ⟨K, fun k hk => ?_⟩
        have e := hK k hk
        dsimp only at e
        simp only [spec_l10Form.l0]
        rw [if_pos (by omega), if_pos (by omega), rdG, e]
        simp only [Option.bind_some]
        rw [if_neg hT])
      ⟨4, fun k hk => by
        obtain ⟨m, rfl⟩ : ∃ m, k = m + 4 := ⟨k - 4, by omega⟩
        rw [spec_l10Form.l0, if_neg (by omega)]
        exact node_spec m v v0 _ _ _ _ _⟩
      (WF v (n + 1) y) (by
        simp only [WF]
        by_cases c : y.f4.all (WF v n) = true
        · rw [if_pos ((all_at _ _).mpr c), c, Bool.and_true]
        · have c' : y.f4.all (WF v n) = false := by simpa using c
          rw [if_neg (fun h => c ((all_at _ _).mp h)), c', Bool.and_false])
    exact Ev.next (f := fun k => spec_l10Form.l0 k v 0 y.f0 y.f1 y.f2 y.f3 y.f4) ⟨0, fun k _ => by rw [spec_l10Form.f]⟩ hc
theorem ev_isFormula (v : Int) (v0 : 0 ≤ v) (v1 : v ≤ 1000000) (n : Nat) (y : S32) (hy : LG n y) (hc : cntG n y ≤ 1048576) : ∃ b, Ev (fun k => spec_IsFormula.f k v y.f0 y.f1 y.f2 y.f3 y.f4) b ∧ Ev (fun k => impl_IsFormula.f k v y.f0 y.f1 y.f2 y.f3 y.f4) b ∧ (b = true → WF v n y = true) := by
  obtain ⟨r, e1, hr⟩ := ev_left n y hy 40 (by omega) (by omega)
  have e2 := ev_size n y hy hc
  obtain ⟨d, e3, e4⟩ := ev_DepthOf n y hy
  have e5 := ev_form v v0 n y hy
  have e6 := ev_well v v0 v1 n y hy
  obtain ⟨K, hK⟩ := Evt.and e1 (Evt.and e2 (Evt.and e3 (Evt.and e4 (Evt.and e5 e6))))
  refine ⟨decide (r ≥ 0) && (decide (d ≤ 12) && WF v n y), ⟨K, fun k hk => ?_⟩, ⟨K, fun k hk => ?_⟩, fun h => ?_⟩
  · obtain ⟨h1, h2, h3, h4, h5, h6⟩ := hK k hk
    dsimp only at h1 h2 h3 h4 h5 h6 ⊢
    unfold spec_IsFormula.f
    rw [h1]
    simp only [Option.bind_some]
    by_cases c : r ≥ 0
    · rw [if_pos c, decide_eq_true c, h3]
      simp only [Option.bind_some]
      by_cases c2 : d ≤ 12
      · rw [if_pos c2, decide_eq_true c2, h5]; rfl
      · rw [if_neg c2, decide_eq_false c2]; rfl
    · rw [if_neg c, decide_eq_false c]; rfl
  · obtain ⟨h1, h2, h3, h4, h5, h6⟩ := hK k hk
    dsimp only at h1 h2 h3 h4 h5 h6 ⊢
    unfold impl_IsFormula.f
    rw [h2]
    simp only [Option.bind_some]
    by_cases c : r ≥ 0
    · rw [if_pos (by omega), decide_eq_true c, h4]
      simp only [Option.bind_some]
      by_cases c2 : d ≤ 12
      · rw [if_pos c2, decide_eq_true c2, h6]; rfl
      · rw [if_neg c2, decide_eq_false c2]; rfl
    · rw [if_neg (by omega), decide_eq_false c]; rfl
  · simp only [Bool.and_eq_true] at h
    exact h.2.2
theorem comp_up (d : Array Int) (hs : ∀ i j, i ≤ j → j < d.size → d[i]! ≤ d[j]!) : ∀ m, m ≤ d.size → (Go.Lib.compactUpTo d m).Pairwise (· < ·) ∧ ∀ x, x ∈ Go.Lib.compactUpTo d m ↔ ∃ j, j < m ∧ d[j]! = x := by
  intro m
  induction m with
  | zero =>
    intro _
    refine ⟨by simp [Go.Lib.compactUpTo], fun x => ?_⟩
    simp [Go.Lib.compactUpTo]
  | succ m ih =>
    intro hm
    obtain ⟨h1, h2⟩ := ih (by omega)
    rw [Go.Lib.compactUpTo_succ]
    cases hk : Go.Lib.keeps d m with
    | true =>
      rw [if_pos rfl]
      have hk' : m = 0 ∨ d[m]! ≠ d[m - 1]! := by simpa [Go.Lib.keeps] using hk
      refine ⟨List.pairwise_append.mpr ⟨h1, by simp, fun x hx y hy => ?_⟩, fun x => ?_⟩
      · obtain rfl := List.mem_singleton.mp hy
        obtain ⟨j, hj, rfl⟩ := (h2 x).mp hx
        rcases hk' with rfl | hk'
        · omega
        · have a := hs j (m - 1) (by omega) (by omega)
          have b := hs (m - 1) m (by omega) (by omega)
          omega
      · rw [List.mem_append, List.mem_singleton, h2]
        constructor
        · rintro (⟨j, hj, e⟩ | e)
          · exact ⟨j, by omega, e⟩
          · exact ⟨m, by omega, e.symm⟩
        · rintro ⟨j, hj, e⟩
          by_cases c : j = m
          · subst c; exact Or.inr e.symm
          · exact Or.inl ⟨j, by omega, e⟩
    | false =>
      have hk' : ¬ (m = 0 ∨ d[m]! ≠ d[m - 1]!) := by simpa [Go.Lib.keeps] using hk
      rw [if_neg (by decide), List.append_nil]
      refine ⟨h1, fun x => ?_⟩
      rw [h2]
      constructor
      · rintro ⟨j, hj, e⟩; exact ⟨j, by omega, e⟩
      · rintro ⟨j, hj, e⟩
        by_cases c : j = m
        · subst c
          refine ⟨j - 1, by omega, ?_⟩
          rw [← e]
          by_cases c2 : d[j]! = d[j - 1]!
          · exact c2.symm
          · exact absurd (Or.inr c2) hk'
        · exact ⟨j, by omega, e⟩
theorem sorted_ext : ∀ (l m : List Int), l.Pairwise (· < ·) → m.Pairwise (· < ·) → (∀ x, x ∈ l ↔ x ∈ m) → l = m
  | [], [], _, _, _ => rfl
  | [], b :: m, _, _, h => absurd ((h b).mpr (List.mem_cons_self ..)) (by simp)
  | a :: l, [], _, _, h => absurd ((h a).mp (List.mem_cons_self ..)) (by simp)
  | a :: l, b :: m, hl, hm, h => by
    obtain ⟨hl1, hl2⟩ := List.pairwise_cons.mp hl
    obtain ⟨hm1, hm2⟩ := List.pairwise_cons.mp hm
    have e : a = b := by
      rcases List.mem_cons.mp ((h a).mp (List.mem_cons_self ..)) with e | e
      · exact e
      · rcases List.mem_cons.mp ((h b).mpr (List.mem_cons_self ..)) with e' | e'
        · exact e'.symm
        · have := hm1 a e
          have := hl1 b e'
          omega
    subst e
    refine congrArg _ (sorted_ext l m hl2 hm2 (fun x => ⟨fun hx => ?_, fun hx => ?_⟩))
    · rcases List.mem_cons.mp ((h x).mp (List.mem_cons_of_mem _ hx)) with e | e
      · have := hl1 x hx; omega
      · exact e
    · rcases List.mem_cons.mp ((h x).mpr (List.mem_cons_of_mem _ hx)) with e | e
      · have := hm1 x hx; omega
      · exact e
theorem canon (l : List Int) (P : Int → Bool) (h : ∀ u, 0 ≤ u → u ≤ 3 → (u ∈ l ↔ P u = true)) (hr : ∀ u ∈ l, 0 ≤ u ∧ u ≤ 3) : Go.Lib.compact (l.mergeSort fun x y => decide (x ≤ y)) = ([0, 1, 2, 3] : List Int).filter P := by
  have hsort : (l.mergeSort fun x y => decide (x ≤ y)).Pairwise (fun x y => decide (x ≤ y) = true) := List.pairwise_mergeSort (fun a b c h1 h2 => by simp only [decide_eq_true_eq] at h1 h2 ⊢; omega) (fun a b => by simp only [Bool.or_eq_true, decide_eq_true_eq]; omega) l
  have hmem : ∀ x, x ∈ (l.mergeSort fun x y => decide (x ≤ y)) ↔ x ∈ l := fun x => List.mem_mergeSort
  generalize (l.mergeSort fun x y => decide (x ≤ y)) = zs at hsort hmem ⊢
  have hs : ∀ i j, i ≤ j → j < zs.toArray.size → zs.toArray[i]! ≤ zs.toArray[j]! := fun i j hij hj => by
    have hj' : j < zs.length := by simpa using hj
    by_cases e : i = j
    · subst e; exact Int.le_refl _
    · have := (List.pairwise_iff_getElem.mp hsort) i j (by omega) hj' (by omega)
      simp only [decide_eq_true_eq] at this
      rw [getElem!_pos zs.toArray i (by simp; omega), getElem!_pos zs.toArray j hj]
      simpa using this
  obtain ⟨c1, c2⟩ := comp_up zs.toArray hs zs.length (by simp)
  refine sorted_ext _ _ c1 (List.Pairwise.filter _ (by decide)) (fun x => ?_)
  show x ∈ Go.Lib.compactUpTo zs.toArray zs.length ↔ _
  rw [c2, List.mem_filter]
  have e : (∃ j, j < zs.length ∧ zs.toArray[j]! = x) ↔ x ∈ zs := by
    rw [List.mem_iff_getElem]
    constructor
    · rintro ⟨j, hj, e⟩
      rw [getElem!_pos zs.toArray j (by simpa using hj)] at e
      exact ⟨j, hj, by simpa using e⟩
    · rintro ⟨j, hj, e⟩
      refine ⟨j, hj, ?_⟩
      rw [getElem!_pos zs.toArray j (by simpa using hj)]
      simpa using e
  rw [e, hmem]
  constructor
  · intro hx
    obtain ⟨a, b⟩ := hr x hx
    refine ⟨?_, (h x a b).mp hx⟩
    have : x = 0 ∨ x = 1 ∨ x = 2 ∨ x = 3 := by omega
    rcases this with rfl | rfl | rfl | rfl <;> simp
  · rintro ⟨hx, hp⟩
    have : 0 ≤ x ∧ x ≤ 3 := by
      simp only [List.mem_cons, List.not_mem_nil, or_false] at hx
      omega
    exact (h x this.1 this.2).mpr hp
def FV : Nat → S32 → Int → Bool
  | 0, _, _ => false
  | n + 1, y, u => if y.f0 = 11 ∨ y.f0 = 12 then (y.f4.any fun z => FV n z u) && !(u == y.f2) else (y.f4.any fun z => FV n z u) || (decide (2 ≤ y.f0 ∧ y.f0 ≤ 7) && (u == y.f2)) || (decide (5 ≤ y.f0 ∧ y.f0 ≤ 7) && (u == y.f3))
def CL (n : Nat) (y : S32) : List Int := ([0, 1, 2, 3] : List Int).filter (FV n y)
theorem CL_len (n : Nat) (y : S32) : (CL n y).length ≤ 4 := List.length_filter_le (FV n y) ([0, 1, 2, 3] : List Int)
theorem CL_mem (n : Nat) (y : S32) (u : Int) : u ∈ CL n y ↔ (0 ≤ u ∧ u ≤ 3) ∧ FV n y u = true := by
  unfold CL
  rw [List.mem_filter]
  constructor
  · rintro ⟨hx, hp⟩
    simp only [List.mem_cons, List.not_mem_nil, or_false] at hx
    exact ⟨by omega, hp⟩
  · rintro ⟨hx, hp⟩
    have : u = 0 ∨ u = 1 ∨ u = 2 ∨ u = 3 := by omega
    exact ⟨by rcases this with rfl | rfl | rfl | rfl <;> simp, hp⟩
theorem bi_eq (a : Int) : impl_isBinder.f a = some (decide (a = 11 ∨ a = 12)) := by
  unfold impl_isBinder.f
  by_cases c : a = 11
  · rw [if_pos c]; simp [c]
  · rw [if_neg c]; simp [c]; rfl
theorem wi_eq2 (a b c : Int) : impl_within.f a b c = some (decide (b ≤ a ∧ a ≤ c)) := by
  unfold impl_within.f
  by_cases h1 : b ≤ a <;> by_cases h2 : a ≤ c <;> simp [h1, h2]
theorem uU_eq (a : Int) (h : ¬ (a = 11 ∨ a = 12)) : impl_usesU.f a = some (decide (2 ≤ a ∧ a ≤ 7)) := by
  unfold impl_usesU.f
  rw [wi_eq2, bi_eq]
  simp only [Option.bind_some]
  by_cases c : 2 ≤ a ∧ a ≤ 7
  · rw [if_pos (decide_eq_true c), decide_eq_true c]
  · rw [if_neg (by simpa using c), decide_eq_false c, decide_eq_false h]
theorem uV_eq (a : Int) : impl_usesV.f a = some (decide (5 ≤ a ∧ a ≤ 7)) := by
  unfold impl_usesV.f
  rw [wi_eq2]
  rfl
theorem any_get (l : List S32) (p : S32 → Bool) : (l.any p) = true ↔ ∃ j, j < l.length ∧ p (l.getD j z32) = true := by
  rw [List.any_eq_true]
  constructor
  · rintro ⟨x, hx, hp⟩
    obtain ⟨j, hj, rfl⟩ := List.getElem_of_mem hx
    exact ⟨j, hj, by rw [get_rep _ _ _ hj]; exact hp⟩
  · rintro ⟨j, hj, hp⟩
    exact ⟨_, getD_mem _ _ _ hj, hp⟩
theorem tail_eq (s : List Int) (P : Int → Bool) (hs : s.length ≤ 1000000000) (h : ∀ u, 0 ≤ u → u ≤ 3 → (u ∈ s ↔ P u = true)) : ((slices_DeleteFunc_int_int_FreeLogic_2.f s).bind fun t178 => ((slices_Sort_int_int.f t178).bind fun t181 => ((slices_Compact_int_int.f t181).bind fun t182 => (some t182)))) = some (([0, 1, 2, 3] : List Int).filter P) := by
  unfold slices_DeleteFunc_int_int_FreeLogic_2.f slices_DeleteFunc_int_int_FreeLogic_2.fin slices_Sort_int_int.f slices_Compact_int_int.f
  simp only [Option.bind_some]
  have hl : (s.filter fun x => !(!(decide (0 ≤ x) && decide (x ≤ 3)))).length ≤ s.length := List.length_filter_le _ _
  rw [if_pos (by omega)]
  simp only [Option.bind_some]
  rw [if_pos (by simp only [List.length_mergeSort]; omega)]
  simp only [Option.bind_some]
  rw [canon _ P (fun u h0 h1 => ?_) (fun u hu => ?_)]
  · rw [List.mem_filter]
    have : (!(!(decide (0 ≤ u) && decide (u ≤ 3)))) = true := by simp [h0, h1]
    rw [this, ← h u h0 h1]
    simp
  · have := (List.mem_filter.mp hu).2
    simpa using this
theorem ev_impl : ∀ (n : Nat) (y : S32), LG n y → Ev (fun k => impl_FreeLogic.f k y.f0 y.f1 y.f2 y.f3 y.f4) (CL n y) := by
  intro n
  induction n with
  | zero => intro y h; exact h.elim
  | succ n ih =>
    intro y hy
    have hlen := hy.1
    have hc := loop_is (σ := List Int) y.f4.length (fun k s i => impl_FreeLogic.l0 k s y.f4 (y.f4.length : Int) i y.f0 y.f1 y.f2 y.f3 y.f4)
      (fun i s => s.length ≤ 4 * i ∧ ∀ u, u ∈ s ↔ ∃ j, j < i ∧ u ∈ CL n (y.f4.getD j z32)) (CL (n + 1) y)
      (fun i s hi ⟨h1, h2⟩ => by
        obtain ⟨K, hK⟩ := ih (y.f4.getD i z32) (hy.2 _ (getD_mem _ _ _ hi))
        have hcl := CL_len n (y.f4.getD i z32)
        refine Or.inl ⟨s ++ CL n (y.f4.getD i z32), ⟨by rw [List.length_append]; omega, fun u => ?_⟩, K, fun k hk => ?_⟩
        · rw [List.mem_append, h2]
          constructor
          · rintro (⟨j, hj, e⟩ | e)
            · exact ⟨j, by omega, e⟩
            · exact ⟨i, by omega, e⟩
          · rintro ⟨j, hj, e⟩
            by_cases c : j = i
            · subst c; exact Or.inr e
            · exact Or.inl ⟨j, by omega, e⟩
        · have e := hK k hk
          dsimp only at e
          simp only [impl_FreeLogic.l0]
          rw [if_pos (by omega), if_pos (by omega), if_pos (by omega), rdG, e]
          simp only [Option.bind_some]
          rw [if_pos (by omega), up64 (by omega)])
      (fun s ⟨h1, h2⟩ => by
        have hany : ∀ u, 0 ≤ u → u ≤ 3 → (u ∈ s ↔ (y.f4.any fun z => FV n z u) = true) := fun u u0 u1 => by
          rw [h2, any_get]
          constructor
          · rintro ⟨j, hj, e⟩; exact ⟨j, hj, ((CL_mem _ _ _).mp e).2⟩
          · rintro ⟨j, hj, e⟩; exact ⟨j, hj, (CL_mem _ _ _).mpr ⟨⟨u0, u1⟩, e⟩⟩
        refine ⟨1, fun k hk => ?_⟩
        obtain ⟨m, rfl⟩ : ∃ m, k = m + 1 := ⟨k - 1, by omega⟩
        simp only [impl_FreeLogic.l0]
        rw [if_neg (by omega), bi_eq]
        simp only [Option.bind_some]
        by_cases cb : y.f0 = 11 ∨ y.f0 = 12
        · rw [if_pos (decide_eq_true cb)]
          unfold slices_DeleteFunc_int_int_FreeLogic_1.f slices_DeleteFunc_int_int_FreeLogic_1.fin
          simp only [Option.bind_some, impl_FreeLogic.j1]
          rw [uV_eq]
          simp only [Option.bind_some]
          rw [if_neg (by simp; omega)]
          have hfl : (s.filter fun x => !(x == y.f2)).length ≤ s.length := List.length_filter_le _ _
          refine tail_eq _ (FV (n + 1) y) (by omega) (fun u u0 u1 => ?_)
          rw [List.mem_filter, hany u u0 u1]
          simp only [FV]
          rw [if_pos cb]
          simp
        · rw [if_neg (by simpa using cb), uU_eq _ cb]
          simp only [Option.bind_some]
          by_cases cu : 2 ≤ y.f0 ∧ y.f0 ≤ 7
          · rw [if_pos (decide_eq_true cu), if_pos (by omega)]
            simp only [impl_FreeLogic.j1]
            rw [uV_eq]
            simp only [Option.bind_some]
            by_cases cv : 5 ≤ y.f0 ∧ y.f0 ≤ 7
            · rw [if_pos (decide_eq_true cv), if_pos (by rw [List.length_append]; simp; omega)]
              refine tail_eq _ (FV (n + 1) y) (by simp only [List.length_append, List.length_cons, List.length_nil]; omega) (fun u u0 u1 => ?_)
              simp only [List.mem_append, List.mem_singleton, FV]
              rw [if_neg cb, hany u u0 u1, decide_eq_true cu, decide_eq_true cv]
              simp
            · rw [if_neg (by simpa using cv)]
              refine tail_eq _ (FV (n + 1) y) (by simp only [List.length_append, List.length_cons, List.length_nil]; omega) (fun u u0 u1 => ?_)
              simp only [List.mem_append, List.mem_singleton, FV]
              rw [if_neg cb, hany u u0 u1, decide_eq_true cu, decide_eq_false cv]
              simp
          · rw [if_neg (by simpa using cu)]
            simp only [impl_FreeLogic.j1]
            rw [uV_eq]
            simp only [Option.bind_some]
            rw [if_neg (by simp; omega)]
            refine tail_eq _ (FV (n + 1) y) (by omega) (fun u u0 u1 => ?_)
            simp only [FV]
            rw [if_neg cb, hany u u0 u1, decide_eq_false cu, decide_eq_false (show ¬ (5 ≤ y.f0 ∧ y.f0 ≤ 7) by omega)]
            simp)
      [] ⟨by simp, fun u => by simp⟩
    exact Ev.next (f := fun k => impl_FreeLogic.l0 k [] y.f4 (y.f4.length : Int) 0 y.f0 y.f1 y.f2 y.f3 y.f4) ⟨0, fun k _ => by simp only [impl_FreeLogic.f]⟩ hc
theorem ev_uses (a : Int) : Ev (fun k => spec_l10Uses.f k a) (if a = 2 ∨ a = 3 ∨ a = 4 ∨ a = 11 ∨ a = 12 then 1 else if a = 5 ∨ a = 6 ∨ a = 7 then 2 else 0) := by
  refine ⟨1, fun k hk => ?_⟩
  obtain ⟨m, rfl⟩ : ∃ m, k = m + 1 := ⟨k - 1, by omega⟩
  show spec_l10Uses.f (m + 1) a = _
  unfold spec_l10Uses.f
  simp only [spec_l10Uses.j0]
  by_cases h2 : a = 2
  · subst h2; simp
  · by_cases h3 : a = 3
    · subst h3; simp
    · by_cases h4 : a = 4
      · subst h4; simp
      · by_cases h11 : a = 11
        · subst h11; simp
        · by_cases h12 : a = 12
          · subst h12; simp
          · rw [if_neg h2, if_neg h3, if_neg h4, if_neg h11, if_neg (by simpa using h12), if_neg (show ¬ (a = 2 ∨ a = 3 ∨ a = 4 ∨ a = 11 ∨ a = 12) by omega)]
            by_cases h5 : a = 5
            · subst h5; simp
            · by_cases h6 : a = 6
              · subst h6; simp
              · by_cases h7 : a = 7
                · subst h7; simp
                · rw [if_neg h5, if_neg h6, if_neg h7, if_neg (show ¬ (a = 5 ∨ a = 6 ∨ a = 7) by omega)]
theorem ev_has (b : List Int) (u : Int) (hb : b.length ≤ 1000000000) : Ev (fun k => spec_l7Has.f k b u) (b.contains u) := by
  obtain ⟨r, hr, K, hK⟩ := loop_ev (σ := List Int) b.length (fun k s i => spec_Positions.l0 k b u s i) (fun i s => s.length ≤ i ∧ (0 < s.length ↔ ∃ j, j < i ∧ rd b ((j : Nat) : Int) = u)) (fun r => 0 < r.length ↔ ∃ j, j < b.length ∧ rd b ((j : Nat) : Int) = u)
    (fun i s hi ⟨h1, h2⟩ => by
      by_cases c : rd b (i : Int) = u
      · refine Or.inl ⟨s ++ [(i : Int)], ⟨by simp; omega, ?_⟩, 0, fun k _ => ?_⟩
        · constructor
          · intro _; exact ⟨i, by omega, c⟩
          · intro _; simp
        · simp only [spec_Positions.l0]
          rw [if_pos (by omega), if_pos (by omega), if_pos c, if_pos (by omega), up64 (by omega)]
      · refine Or.inl ⟨s, ⟨by omega, ?_⟩, 0, fun k _ => ?_⟩
        · rw [h2]
          constructor
          · rintro ⟨j, hj, e⟩; exact ⟨j, by omega, e⟩
          · rintro ⟨j, hj, e⟩
            by_cases ej : j = i
            · subst ej; exact absurd e c
            · exact ⟨j, by omega, e⟩
        · simp only [spec_Positions.l0]
          rw [if_pos (by omega), if_pos (by omega), if_neg c, up64 (by omega)])
    (fun s ⟨h1, h2⟩ => ⟨s, h2, 0, fun k _ => by simp only [spec_Positions.l0]; rw [if_neg (by omega)]⟩)
    b.length 0 [] (by omega) (by omega) ⟨by simp, by simp⟩
  refine ⟨K, fun k hk => ?_⟩
  have g := hK k hk
  dsimp only at g
  show spec_l7Has.f k b u = _
  unfold spec_l7Has.f spec_Positions.f
  rw [show (spec_Positions.l0 k b u [] 0) = some r from g]
  simp only [Option.bind_some]
  congr 1
  have e : (0 < r.length) ↔ b.contains u = true := by
    rw [hr, List.contains_iff_mem, List.mem_iff_getElem]
    constructor
    · rintro ⟨j, hj, e⟩; exact ⟨j, hj, by rw [← rd_at _ _ hj]; exact e⟩
    · rintro ⟨j, hj, e⟩; exact ⟨j, hj, by rw [rd_at _ _ hj]; exact e⟩
  rw [Bool.eq_iff_iff, ← e]
  simp
def updP (P : Int → Bool) (o : List Bool) : List Bool := [o.getD 0 false || P 0, o.getD 1 false || P 1, o.getD 2 false || P 2, o.getD 3 false || P 3]
theorem updP_len (P : Int → Bool) (o : List Bool) : (updP P o).length = 4 := rfl
theorem updP_two (P Q : Int → Bool) (o : List Bool) : updP P (updP Q o) = updP (fun u => Q u || P u) o := by
  simp [updP, Bool.or_assoc]
theorem updP_eq {P Q : Int → Bool} (o : List Bool) (h : ∀ u, P u = Q u) : updP P o = updP Q o := by
  simp [updP, h]
theorem four (o : List Bool) (h : o.length = 4) : ∃ a b c d, o = [a, b, c, d] := by
  match o, h with
  | [a, b, c, d], _ => exact ⟨a, b, c, d, rfl⟩
theorem updP_none {P : Int → Bool} {o : List Bool} (ho : o.length = 4) (h : ∀ u, 0 ≤ u → u ≤ 3 → P u = false) : updP P o = o := by
  obtain ⟨a, b, c, d, rfl⟩ := four o ho
  simp [updP, h 0 (by decide) (by decide), h 1 (by decide) (by decide), h 2 (by decide) (by decide), h 3 (by decide) (by decide)]
theorem updP_set {o : List Bool} (ho : o.length = 4) (u : Int) (h0 : 0 ≤ u) (h1 : u ≤ 3) : o.set u.toNat true = updP (fun w => w == u) o := by
  obtain ⟨a, b, c, d, rfl⟩ := four o ho
  have : u = 0 ∨ u = 1 ∨ u = 2 ∨ u = 3 := by omega
  rcases this with rfl | rfl | rfl | rfl <;> simp [updP]
theorem ev_one (n u : Int) (b : List Int) (o : List Bool) (least : Int) (ho : o.length = 4) (hb : b.length ≤ 1000000000) : Ev (fun k => spec_l10Free.one k n u b o least) (updP (fun w => decide (least < n) && (w == u) && !(b.contains u)) o) := by
  by_cases c : least < n ∧ 0 ≤ u ∧ u ≤ 3
  · obtain ⟨K, hK⟩ := ev_has b u hb
    refine ⟨K, fun k hk => ?_⟩
    have g := hK k hk
    dsimp only at g
    show spec_l10Free.one k n u b o least = _
    unfold spec_l10Free.one
    rw [if_pos c, g]
    simp only [Option.bind_some]
    congr 1
    cases hc : b.contains u with
    | true => rw [if_pos rfl]; exact (updP_none ho (fun w _ _ => by simp)).symm
    | false =>
      rw [if_neg (by decide), updP_set ho u c.2.1 c.2.2]
      exact updP_eq o (fun w => by simp [c.1])
  · refine ⟨0, fun k _ => ?_⟩
    show spec_l10Free.one k n u b o least = _
    unfold spec_l10Free.one
    rw [if_neg c, updP_none ho (fun w w0 w1 => ?_)]
    by_cases c1 : least < n
    · have : ¬ (w = u) := fun e => c ⟨c1, by omega, by omega⟩
      simp [this]
    · simp [c1]
theorem ev_l10 : ∀ (n : Nat) (y : S32), LG n y → ∀ (b : List Int) (o : List Bool), o.length = 4 → b.length + n ≤ 1000000000 → Ev (fun k => spec_l10Free.f k y.f0 y.f1 y.f2 y.f3 y.f4 b o) (updP (fun u => FV n y u && !(b.contains u)) o) := by
  intro n
  induction n with
  | zero => intro y h; exact h.elim
  | succ n ih =>
    intro y hy b o ho hb
    have hf : ∀ (b' : List Int), b'.length + n ≤ 1000000000 → ∀ (l : List S32), (∀ z ∈ l, LG n z) → ∀ o : List Bool, o.length = 4 → Ev (fun k => l.foldlM (fun (o : List Bool) (x : S32) => spec_l10Free.f k x.f0 x.f1 x.f2 x.f3 x.f4 b' o) o) (updP (fun u => (l.any fun z => FV n z u) && !(b'.contains u)) o) := by
      intro b' hb' l
      induction l with
      | nil =>
        intro _ o ho
        refine ⟨0, fun k _ => ?_⟩
        show some o = _
        rw [updP_none ho (fun u _ _ => by simp)]
      | cons z l ihl =>
        intro hz o ho
        obtain ⟨K1, hK1⟩ := ih z (hz z (List.mem_cons_self ..)) b' o ho hb'
        obtain ⟨K2, hK2⟩ := ihl (fun x hx => hz x (List.mem_cons_of_mem _ hx)) _ (updP_len (fun u => FV n z u && !(b'.contains u)) o)
        refine ⟨K1 + K2, fun k hk => ?_⟩
        have g1 := hK1 k (by omega)
        have g2 := hK2 k (by omega)
        dsimp only at g1 g2
        simp only [List.foldlM_cons]
        rw [g1]
        simp only [Option.bind_eq_bind, Option.bind_some]
        rw [g2, updP_two]
        congr 1
        refine updP_eq o (fun u => ?_)
        simp only [List.any_cons]
        cases FV n z u <;> cases (l.any fun z => FV n z u) <;> cases b'.contains u <;> rfl
    have hlen := hy.1
    by_cases cb : y.f0 = 11 ∨ y.f0 = 12
    · obtain ⟨K, hK⟩ := hf (b ++ [y.f2]) (by simp; omega) y.f4 hy.2 o ho
      refine Ev.last ⟨K, fun k hk => ?_⟩
      have g := hK k hk
      dsimp only at g
      simp only [spec_l10Free.f]
      rw [if_pos ⟨ho, by omega, by omega⟩, if_pos cb, g]
      congr 1
      refine updP_eq o (fun u => ?_)
      simp only [FV]
      rw [if_pos cb]
      cases (y.f4.any fun z => FV n z u) with
      | false => rfl
      | true =>
        simp only [Bool.true_and]
        rw [Bool.eq_iff_iff]
        simp only [Bool.not_eq_true', Bool.and_eq_true, List.contains_eq_mem, List.mem_append, List.mem_singleton, decide_eq_false_iff_not, beq_eq_false_iff_ne, ne_eq, not_or]
        exact ⟨fun h => ⟨h.2, h.1⟩, fun h => ⟨h.2, h.1⟩⟩
    · obtain ⟨K0, hK0⟩ := ev_uses y.f0
      generalize hu : (if y.f0 = 2 ∨ y.f0 = 3 ∨ y.f0 = 4 ∨ y.f0 = 11 ∨ y.f0 = 12 then (1 : Int) else if y.f0 = 5 ∨ y.f0 = 6 ∨ y.f0 = 7 then 2 else 0) = un at hK0
      have hd1 : decide (0 < un) = decide (2 ≤ y.f0 ∧ y.f0 ≤ 7) := by
        rw [← hu]
        by_cases c1 : y.f0 = 2 ∨ y.f0 = 3 ∨ y.f0 = 4 ∨ y.f0 = 11 ∨ y.f0 = 12
        · rw [if_pos c1, decide_eq_true (show 2 ≤ y.f0 ∧ y.f0 ≤ 7 by omega)]; rfl
        · rw [if_neg c1]
          by_cases c2 : y.f0 = 5 ∨ y.f0 = 6 ∨ y.f0 = 7
          · rw [if_pos c2, decide_eq_true (show 2 ≤ y.f0 ∧ y.f0 ≤ 7 by omega)]; rfl
          · rw [if_neg c2, decide_eq_false (show ¬ (2 ≤ y.f0 ∧ y.f0 ≤ 7) by omega)]; rfl
      have hd2 : decide (1 < un) = decide (5 ≤ y.f0 ∧ y.f0 ≤ 7) := by
        rw [← hu]
        by_cases c1 : y.f0 = 2 ∨ y.f0 = 3 ∨ y.f0 = 4 ∨ y.f0 = 11 ∨ y.f0 = 12
        · rw [if_pos c1, decide_eq_false (show ¬ (5 ≤ y.f0 ∧ y.f0 ≤ 7) by omega)]; rfl
        · rw [if_neg c1]
          by_cases c2 : y.f0 = 5 ∨ y.f0 = 6 ∨ y.f0 = 7
          · rw [if_pos c2, decide_eq_true (show 5 ≤ y.f0 ∧ y.f0 ≤ 7 by omega)]; rfl
          · rw [if_neg c2, decide_eq_false (show ¬ (5 ≤ y.f0 ∧ y.f0 ≤ 7) by omega)]; rfl
      obtain ⟨K1, hK1⟩ := ev_one un y.f2 b o 0 ho (by omega)
      obtain ⟨K2, hK2⟩ := ev_one un y.f3 b _ 1 (updP_len (fun w => decide (0 < un) && (w == y.f2) && !(b.contains y.f2)) o) (by omega)
      obtain ⟨K3, hK3⟩ := hf b (by omega) y.f4 hy.2 _ (updP_len (fun w => decide (1 < un) && (w == y.f3) && !(b.contains y.f3)) (updP (fun w => decide (0 < un) && (w == y.f2) && !(b.contains y.f2)) o))
      refine Ev.last ⟨K0 + K1 + K2 + K3, fun k hk => ?_⟩
      have g0 := hK0 k (by omega)
      have g1 := hK1 k (by omega)
      have g2 := hK2 k (by omega)
      have g3 := hK3 k (by omega)
      dsimp only at g0 g1 g2 g3
      simp only [spec_l10Free.f]
      rw [if_pos ⟨ho, by omega, by omega⟩, if_neg cb, g0]
      simp only [Option.bind_some]
      rw [g1]
      simp only [Option.bind_some]
      rw [g2]
      simp only [Option.bind_some]
      rw [g3, updP_two, updP_two]
      congr 1
      refine updP_eq o (fun u => ?_)
      simp only [FV]
      rw [if_neg cb, hd1, hd2]
      by_cases e2 : u = y.f2 <;> by_cases e3 : u = y.f3
      · subst e2; rw [← e3]; cases (y.f4.any fun z => FV n z y.f2) <;> cases decide (2 ≤ y.f0 ∧ y.f0 ≤ 7) <;> cases decide (5 ≤ y.f0 ∧ y.f0 ≤ 7) <;> cases b.contains y.f2 <;> simp
      · have e3' : (u == y.f3) = false := by simpa using e3
        rw [e3', e2]; cases (y.f4.any fun z => FV n z y.f2) <;> cases decide (2 ≤ y.f0 ∧ y.f0 ≤ 7) <;> cases decide (5 ≤ y.f0 ∧ y.f0 ≤ 7) <;> cases b.contains y.f2 <;> simp
      · have e2' : (u == y.f2) = false := by simpa using e2
        rw [e2', e3]; cases (y.f4.any fun z => FV n z y.f3) <;> cases decide (2 ≤ y.f0 ∧ y.f0 ≤ 7) <;> cases decide (5 ≤ y.f0 ∧ y.f0 ≤ 7) <;> cases b.contains y.f3 <;> simp
      · have e2' : (u == y.f2) = false := by simpa using e2
        have e3' : (u == y.f3) = false := by simpa using e3
        rw [e2', e3']; cases (y.f4.any fun z => FV n z u) <;> cases b.contains u <;> simp
theorem ev_spec (n : Nat) (y : S32) (hy : LG n y) (hn : n ≤ 1000000000) : Ev (fun k => spec_FreeLogic.f k y.f0 y.f1 y.f2 y.f3 y.f4) (CL n y) := by
  obtain ⟨K1, hK1⟩ := ev_l10 n y hy [] (List.replicate 4 false) rfl (by simp; omega)
  have hP : ∀ P : Int → Bool, updP P (List.replicate 4 false) = [P 0, P 1, P 2, P 3] := fun P => by simp [updP, List.replicate]
  have hQ : updP (fun u => FV n y u && !(([] : List Int).contains u)) (List.replicate 4 false) = [FV n y 0, FV n y 1, FV n y 2, FV n y 3] := by rw [hP]; simp
  rw [hQ] at hK1
  obtain ⟨K2, hK2⟩ := loop_is (σ := List Int) 4 (fun k s i => spec_FreeLogic.l0 k [FV n y 0, FV n y 1, FV n y 2, FV n y 3] s i) (fun i s => s.length ≤ i ∧ s = (([0, 1, 2, 3] : List Int).take i).filter (FV n y)) (CL n y)
    (fun i s hi ⟨h1, h2⟩ => by
      have hlen : (([FV n y 0, FV n y 1, FV n y 2, FV n y 3] : List Bool).length : Int) = 4 := rfl
      have hr : rdOf false [FV n y 0, FV n y 1, FV n y 2, FV n y 3] (i : Int) = FV n y (i : Int) := by
        have : i = 0 ∨ i = 1 ∨ i = 2 ∨ i = 3 := by omega
        rcases this with rfl | rfl | rfl | rfl <;> rfl
      have hn : (([0, 1, 2, 3] : List Int).take (i + 1)).filter (FV n y) = if FV n y (i : Int) = true then (([0, 1, 2, 3] : List Int).take i).filter (FV n y) ++ [(i : Int)] else (([0, 1, 2, 3] : List Int).take i).filter (FV n y) := by
        have e : ([0, 1, 2, 3] : List Int).take (i + 1) = ([0, 1, 2, 3] : List Int).take i ++ [(i : Int)] := by
          have : i = 0 ∨ i = 1 ∨ i = 2 ∨ i = 3 := by omega
          rcases this with rfl | rfl | rfl | rfl <;> rfl
        rw [e, List.filter_append]
        by_cases c : FV n y (i : Int) = true
        · rw [if_pos c]; simp [c]
        · rw [if_neg c]; simp [c]
      refine Or.inl ⟨(([0, 1, 2, 3] : List Int).take (i + 1)).filter (FV n y), ⟨?_, rfl⟩, 0, fun k _ => ?_⟩
      · have := List.length_filter_le (FV n y) (([0, 1, 2, 3] : List Int).take (i + 1))
        rw [List.length_take] at this
        omega
      · simp only [spec_FreeLogic.l0]
        rw [if_pos (by rw [hlen]; omega), if_pos (by omega), hr, hn, up64 (by omega)]
        by_cases c : FV n y (i : Int) = true
        · rw [if_pos c, if_pos c, if_pos (by omega), h2]
        · rw [if_neg c, if_neg c, h2])
    (fun s ⟨h1, h2⟩ => ⟨0, fun k _ => by
      simp only [spec_FreeLogic.l0]
      rw [if_neg (by simp), h2]
      rfl⟩) [] ⟨by simp, by simp⟩
  refine ⟨K1 + K2, fun k hk => ?_⟩
  have g1 := hK1 k (by omega)
  have g2 := hK2 k (by omega)
  dsimp only at g1 g2
  show spec_FreeLogic.f k y.f0 y.f1 y.f2 y.f3 y.f4 = _
  unfold spec_FreeLogic.f
  rw [if_pos (by omega), g1]
  simp only [Option.bind_some]
  exact g2
theorem ev_eqBoth : ∀ (n : Nat) (x : S32), LG n x → ∀ y : S32, ∃ r, Ev (fun k => spec_EqualFormula.f k x.f0 x.f1 x.f2 x.f3 x.f4 y.f0 y.f1 y.f2 y.f3 y.f4) r ∧ Ev (fun k => impl_EqualFormula.f k x.f0 x.f1 x.f2 x.f3 x.f4 y.f0 y.f1 y.f2 y.f3 y.f4) r := by
  intro n
  induction n with
  | zero => intro x h; exact h.elim
  | succ n ih =>
    intro x hx y
    by_cases c0 : x.f0 = y.f0 ∧ x.f1 = y.f1 ∧ x.f2 = y.f2 ∧ x.f3 = y.f3 ∧ (x.f4.length : Int) = (y.f4.length : Int)
    · obtain ⟨c1, c2, c3, c4, c5⟩ := c0
      have hlen := hx.1
      obtain ⟨g, hg⟩ := chosen (α := Bool) (p := fun i r => Ev (fun k => spec_EqualFormula.f k (x.f4.getD i z32).f0 (x.f4.getD i z32).f1 (x.f4.getD i z32).f2 (x.f4.getD i z32).f3 (x.f4.getD i z32).f4 (y.f4.getD i z32).f0 (y.f4.getD i z32).f1 (y.f4.getD i z32).f2 (y.f4.getD i z32).f3 (y.f4.getD i z32).f4) r ∧ Ev (fun k => impl_EqualFormula.f k (x.f4.getD i z32).f0 (x.f4.getD i z32).f1 (x.f4.getD i z32).f2 (x.f4.getD i z32).f3 (x.f4.getD i z32).f4 (y.f4.getD i z32).f0 (y.f4.getD i z32).f1 (y.f4.getD i z32).f2 (y.f4.getD i z32).f3 (y.f4.getD i z32).f4) r) (n := x.f4.length) (fun i hi => ih _ (hx.2 _ (getD_mem _ _ _ hi)) _)
      have hs := all_loop x.f4.length (by omega) (fun i => g i = true) (fun k i => spec_EqualFormula.l0 k i x.f0 x.f1 x.f2 x.f3 x.f4 y.f0 y.f1 y.f2 y.f3 y.f4) true false
        (fun i hi hT => by
          obtain ⟨K, hK⟩ := (hg i hi).1
          refine ⟨K, fun k hk => ?_⟩
          have e := hK k hk
          dsimp only at e
          simp only [spec_EqualFormula.l0]
          rw [if_pos (by omega), if_pos (by omega), if_pos (by omega), rdG, rdG, e]
          simp only [Option.bind_some]
          rw [if_pos hT])
        (fun i hi hT => by
          obtain ⟨K, hK⟩ := (hg i hi).1
          refine ⟨K, fun k hk => ?_⟩
          have e := hK k hk
          dsimp only at e
          simp only [spec_EqualFormula.l0]
          rw [if_pos (by omega), if_pos (by omega), if_pos (by omega), rdG, rdG, e]
          simp only [Option.bind_some]
          rw [if_neg hT])
        ⟨0, fun k _ => by simp only [spec_EqualFormula.l0]; rw [if_neg (by omega)]⟩ (decide (∀ i : Nat, i < x.f4.length → g i = true)) (by rw [if_and_false, Bool.and_true])
      have hi := all_loop x.f4.length (by omega) (fun i => g i = true) (fun k i => impl_Formula_EqualFormula.l0 k y.f4 x.f4 (x.f4.length : Int) i) true false
        (fun i hi hT => by
          obtain ⟨K, hK⟩ := (hg i hi).2
          refine ⟨K, fun k hk => ?_⟩
          have e := hK k hk
          dsimp only at e
          simp only [impl_Formula_EqualFormula.l0]
          rw [if_pos (by omega), if_pos (by omega), if_pos (by omega), if_pos (by omega), rdG, rdG, e]
          simp only [Option.bind_some]
          rw [if_pos hT])
        (fun i hi hT => by
          obtain ⟨K, hK⟩ := (hg i hi).2
          refine ⟨K, fun k hk => ?_⟩
          have e := hK k hk
          dsimp only at e
          simp only [impl_Formula_EqualFormula.l0]
          rw [if_pos (by omega), if_pos (by omega), if_pos (by omega), if_pos (by omega), rdG, rdG, e]
          simp only [Option.bind_some]
          rw [if_neg hT])
        ⟨0, fun k _ => by simp only [impl_Formula_EqualFormula.l0]; rw [if_neg (by omega)]⟩ (decide (∀ i : Nat, i < x.f4.length → g i = true)) (by rw [if_and_false, Bool.and_true])
      have e5 : ((x.f4.length : Int) != (y.f4.length : Int)) = false := bne_eq_false_iff_eq.mpr c5
      refine ⟨decide (∀ i : Nat, i < x.f4.length → g i = true), ?_, ?_⟩
      · refine Ev.next (f := fun k => spec_EqualFormula.j0 k false x.f0 x.f1 x.f2 x.f3 x.f4 y.f0 y.f1 y.f2 y.f3 y.f4) ⟨0, fun k _ => ?_⟩ (Ev.next (f := fun k => spec_EqualFormula.l0 k 0 x.f0 x.f1 x.f2 x.f3 x.f4 y.f0 y.f1 y.f2 y.f3 y.f4) ⟨0, fun k _ => ?_⟩ hs)
        · simp only [spec_EqualFormula.f]
          rw [if_pos c1, if_pos c2, if_pos c3, if_pos c4, e5]
        · simp only [spec_EqualFormula.j0]
          rw [if_neg (by decide)]
      · refine Ev.next (f := fun k => (impl_Formula_EqualFormula.f k x.f4 y.f4).bind fun t => some t) ⟨0, fun k _ => ?_⟩ ?_
        · simp only [impl_EqualFormula.f]
          rw [if_pos c1, if_pos c2, if_pos c3, if_pos c4]
        · obtain ⟨K, hK⟩ := Ev.next (g := fun k => impl_Formula_EqualFormula.f k x.f4 y.f4) (f := fun k => impl_Formula_EqualFormula.l0 k y.f4 x.f4 (x.f4.length : Int) 0) ⟨0, fun k _ => by simp only [impl_Formula_EqualFormula.f]; rw [if_pos c5]⟩ hi
          exact ⟨K, fun k hk => by have e := hK k hk; dsimp only at e ⊢; rw [e]; rfl⟩
    · refine ⟨false, ?_, ?_⟩
      · refine Ev.next (f := fun k => spec_EqualFormula.j0 k true x.f0 x.f1 x.f2 x.f3 x.f4 y.f0 y.f1 y.f2 y.f3 y.f4) ⟨0, fun k _ => ?_⟩ (Ev.last ⟨0, fun k _ => by simp only [spec_EqualFormula.j0, if_true]⟩)
        simp only [spec_EqualFormula.f]
        by_cases c1 : x.f0 = y.f0
        · rw [if_pos c1]
          by_cases c2 : x.f1 = y.f1
          · rw [if_pos c2]
            by_cases c3 : x.f2 = y.f2
            · rw [if_pos c3]
              by_cases c4 : x.f3 = y.f3
              · rw [if_pos c4]
                have e5 : ((x.f4.length : Int) != (y.f4.length : Int)) = true := bne_iff_ne.mpr (fun c5 => c0 ⟨c1, c2, c3, c4, c5⟩)
                rw [e5]
              · rw [if_neg c4]
            · rw [if_neg c3]
          · rw [if_neg c2]
        · rw [if_neg c1]
      · refine Ev.last ⟨1, fun k hk => ?_⟩
        simp only [impl_EqualFormula.f]
        by_cases c1 : x.f0 = y.f0
        · rw [if_pos c1]
          by_cases c2 : x.f1 = y.f1
          · rw [if_pos c2]
            by_cases c3 : x.f2 = y.f2
            · rw [if_pos c3]
              by_cases c4 : x.f3 = y.f3
              · rw [if_pos c4]
                obtain ⟨k, rfl⟩ : ∃ m, k = m + 1 := ⟨k - 1, by omega⟩
                simp only [impl_Formula_EqualFormula.f]
                rw [if_neg (fun c5 => c0 ⟨c1, c2, c3, c4, c5⟩)]
                rfl
              · rw [if_neg c4]
            · rw [if_neg c3]
          · rw [if_neg c2]
        · rw [if_neg c1]
theorem ev_sameInts (a b : List Int) (h : a.length ≤ 9223372036854775807) : Ev (fun k => laws_sameInts.f k a b) (decide (a = b)) := by
  by_cases c : (a.length : Int) = (b.length : Int)
  · have hc := all_loop a.length h (fun i => rd a (i : Int) = rd b (i : Int)) (fun k i => laws_sameInts.l0 k a b i) true false
      (fun i hi hT => ⟨0, fun k _ => by simp only [laws_sameInts.l0]; rw [if_pos (by omega), if_pos (by omega), if_pos (by omega), if_pos hT]⟩)
      (fun i hi hT => ⟨0, fun k _ => by simp only [laws_sameInts.l0]; rw [if_pos (by omega), if_pos (by omega), if_pos (by omega), if_neg hT]⟩)
      ⟨0, fun k _ => by simp only [laws_sameInts.l0]; rw [if_neg (by omega)]⟩ (decide (a = b)) (by
        by_cases e : a = b
        · subst e; simp
        · rw [if_neg, decide_eq_false e]
          intro hh
          exact e (ints_ext (by omega) hh))
    refine Ev.congr (fun k => ?_) hc
    unfold laws_sameInts.f
    rw [if_pos c]
  · have e : decide (a = b) = false := decide_eq_false (fun e => c (by rw [e]))
    rw [e]
    exact Ev.one (fun k => by unfold laws_sameInts.f; rw [if_neg c])
theorem csum_app {α : Type} (f : α → Nat) (x : α) : ∀ l : List α, csum f (l ++ [x]) = csum f l + f x
  | [] => by simp [csum]
  | a :: l => by simp only [List.cons_append, csum]; rw [csum_app f x l]; omega
theorem csum_le {α : Type} (f : α → Nat) (C : Nat) : ∀ l : List α, (∀ z ∈ l, f z ≤ C) → csum f l ≤ l.length * C
  | [], _ => by simp [csum]
  | a :: l, h => by
    have h1 := h a (List.mem_cons_self ..)
    have h2 := csum_le f C l (fun z hz => h z (List.mem_cons_of_mem _ hz))
    simp only [csum, List.length_cons, Nat.succ_mul]
    omega
theorem draw_j1 (b : List Int) (hb : b.length ≤ 1048576) (x6 i h f0 f1 f2 f3 : Int) (hi : St i) : ∃ g1 g3 i' h', (∀ k, spec_l10Draw.j1 (k + 1) x6 b i h f0 f1 f2 f3 = some (f0, g1, f2, g3, [], i', h')) ∧ St i' := by
  obtain ⟨r, i1, h1, e1, _, _, _, s1⟩ := l1Below_ok b i h 3 hb hi
  obtain ⟨r2, i2, h2, e2, _, _, _, s2⟩ := l1Below_ok b i1 h1 3 hb s1
  by_cases c : x6 > 1
  · by_cases c2 : f0 = 2
    · exact ⟨r2, r, i2, h2, fun k => by rw [spec_l10Draw.j1, if_pos c, e1]; simp only [Option.bind_some]; rw [if_pos c2, e2]; rfl, s2⟩
    · by_cases c3 : f0 = 3
      · exact ⟨r2, r, i2, h2, fun k => by rw [spec_l10Draw.j1, if_pos c, e1]; simp only [Option.bind_some]; rw [if_neg c2, if_pos c3, e2]; rfl, s2⟩
      · exact ⟨f1, r, i1, h1, fun k => by rw [spec_l10Draw.j1, if_pos c, e1]; simp only [Option.bind_some]; rw [if_neg c2, if_neg c3], s1⟩
  · by_cases c2 : f0 = 2
    · exact ⟨r, f3, i1, h1, fun k => by rw [spec_l10Draw.j1, if_neg c, if_pos c2, e1]; rfl, s1⟩
    · by_cases c3 : f0 = 3
      · exact ⟨r, f3, i1, h1, fun k => by rw [spec_l10Draw.j1, if_neg c, if_neg c2, if_pos c3, e1]; rfl, s1⟩
      · exact ⟨f1, f3, i, h, fun k => by rw [spec_l10Draw.j1, if_neg c, if_neg c2, if_neg c3], hi⟩
theorem draw_leaf (b : List Int) (hb : b.length ≤ 1048576) (x1 i h : Int) (hi : St i) : ∃ f0 f1 f2 f3 i' h', Ev (fun k => spec_l10Draw.j0 k x1 true b i h) (f0, f1, f2, f3, ([] : List S32), i', h') ∧ St i' := by
  obtain ⟨r, i1, h1, e1, _, _, _, s1⟩ := l1Below_ok b i h 7 hb hi
  obtain ⟨r2, i2, h2, e2, _, _, _, s2⟩ := l1Below_ok b i1 h1 2 hb s1
  by_cases c : usN (wrap64 (1 + r)) > 0
  · obtain ⟨g1, g3, i', h', e, s⟩ := draw_j1 b hb (usN (wrap64 (1 + r))) i2 h2 (wrap64 (1 + r)) 0 r2 0 s2
    refine ⟨wrap64 (1 + r), g1, r2, g3, i', h', ⟨2, fun k hk => ?_⟩, s⟩
    obtain ⟨m, rfl⟩ : ∃ m, k = m + 2 := ⟨k - 2, by omega⟩
    show spec_l10Draw.j0 (m + 1 + 1) x1 true b i h = _
    rw [spec_l10Draw.j0, if_pos rfl, e1]
    simp only [Option.bind_some]
    rw [us_eq]
    simp only [Option.bind_some]
    rw [if_pos c, e2]
    simp only [Option.bind_some]
    exact e m
  · obtain ⟨g1, g3, i', h', e, s⟩ := draw_j1 b hb (usN (wrap64 (1 + r))) i1 h1 (wrap64 (1 + r)) 0 0 0 s1
    refine ⟨wrap64 (1 + r), g1, 0, g3, i', h', ⟨2, fun k hk => ?_⟩, s⟩
    obtain ⟨m, rfl⟩ : ∃ m, k = m + 2 := ⟨k - 2, by omega⟩
    show spec_l10Draw.j0 (m + 1 + 1) x1 true b i h = _
    rw [spec_l10Draw.j0, if_pos rfl, e1]
    simp only [Option.bind_some]
    rw [us_eq]
    simp only [Option.bind_some]
    rw [if_neg c]
    exact e m
theorem ev_draw (b : List Int) (hb : b.length ≤ 1048576) : ∀ (d : Nat) (i h : Int), d ≤ 100 → St i → ∃ (y : S32) (i' h' : Int), Ev (fun k => spec_l10Draw.f k b i h (d : Int)) (y.f0, y.f1, y.f2, y.f3, y.f4, i', h') ∧ LG (d + 1) y ∧ cntG (d + 1) y ≤ 4 ^ d ∧ St i' := by
  intro d
  induction d with
  | zero =>
    intro i h _ hi
    obtain ⟨f0, f1, f2, f3, i', h', e, s⟩ := draw_leaf b hb ((0 : Nat) : Int) i h hi
    exact ⟨⟨f0, f1, f2, f3, []⟩, i', h', Ev.next (f := fun k => spec_l10Draw.j0 k ((0 : Nat) : Int) true b i h) ⟨0, fun k _ => by rw [spec_l10Draw.f, if_pos (by decide)]⟩ e, ⟨by simp, by simp⟩, by simp [cntG, csum], s⟩
  | succ d ih =>
    intro i h hd hi
    have hP : 1 ≤ 4 ^ d := Nat.pow_pos (by decide)
    have hPs : 4 ^ (d + 1) = 4 ^ d * 4 := Nat.pow_succ ..
    have leaf : ∀ i h, St i → ∃ (y : S32) (i' h' : Int), Ev (fun k => spec_l10Draw.j0 k ((d + 1 : Nat) : Int) true b i h) (y.f0, y.f1, y.f2, y.f3, y.f4, i', h') ∧ LG (d + 1 + 1) y ∧ cntG (d + 1 + 1) y ≤ 4 ^ (d + 1) ∧ St i' := fun i h hi => by
      obtain ⟨f0, f1, f2, f3, i', h', e, s⟩ := draw_leaf b hb ((d + 1 : Nat) : Int) i h hi
      exact ⟨⟨f0, f1, f2, f3, []⟩, i', h', e, ⟨by simp, by simp⟩, by simp [cntG, csum], s⟩
    by_cases c : ((d + 1 : Nat) : Int) < 2
    · obtain ⟨y, i', h', e, g⟩ := leaf i h hi
      exact ⟨y, i', h', Ev.next (f := fun k => spec_l10Draw.j0 k ((d + 1 : Nat) : Int) true b i h) ⟨0, fun k _ => by rw [spec_l10Draw.f, if_pos c]⟩ e, g⟩
    · obtain ⟨r, i1, h1, e1, _, _, _, s1⟩ := l1Below_ok b i h 4 hb hi
      have hone : spec_l1Once.f b i h 4 = some ((r == 0), i1, h1) := by
        unfold spec_l1Once.f
        rw [e1]
        rfl
      cases cr : (r == 0) with
      | true =>
        rw [cr] at hone
        obtain ⟨y, i', h', e, g⟩ := leaf i1 h1 s1
        exact ⟨y, i', h', Ev.next (f := fun k => spec_l10Draw.j0 k ((d + 1 : Nat) : Int) true b i1 h1) ⟨0, fun k _ => by rw [spec_l10Draw.f, if_neg c, hone]; rfl⟩ e, g⟩
      | false =>
        rw [cr] at hone
        obtain ⟨r2, i2, h2, e2, p2, q2, _, s2⟩ := l1Below_ok b i1 h1 5 hb s1
        have q2' := q2 (by decide)
        obtain ⟨r3, i3, h3, e3, _, _, _, s3⟩ := l1Below_ok b i2 h2 3 hb s2
        have hkd : wrap64 (8 + r2) = 8 + r2 := w64 (by omega) (by omega)
        have hx1 : wrap64 (((d + 1 : Nat) : Int) - 1) = (d : Int) := by rw [w64 (by omega) (by omega)]; omega
        have har : arN (8 + r2) = 1 ∨ arN (8 + r2) = 2 := by
          unfold arN
          rw [if_neg (by omega)]
          by_cases c1 : 8 + r2 = 8 ∨ 8 + r2 = 11 ∨ 8 + r2 = 12
          · rw [if_pos c1]; exact Or.inl rfl
          · rw [if_neg c1, if_pos (by omega)]; exact Or.inr rfl
        obtain ⟨n, hn, hn2⟩ : ∃ n : Nat, arN (8 + r2) = (n : Int) ∧ n ≤ 2 := by
          rcases har with e | e
          · exact ⟨1, e, by decide⟩
          · exact ⟨2, e, by decide⟩
        have inner : ∀ i h u, St i → ∃ ys i' h', Ev (fun k => spec_l10Draw.j3 k ((d + 1 : Nat) : Int) b i h (8 + r2) 0 u 0) (8 + r2, 0, u, 0, ys, i', h') ∧ (ys.length ≤ 2 ∧ ∀ z ∈ ys, LG (d + 1) z ∧ cntG (d + 1) z ≤ 4 ^ d) ∧ St i' := fun i h u hi => by
          obtain ⟨t, ⟨ys, i', h', rfl, hy, s'⟩, K, hK⟩ := loop_ev (σ := List S32 × Int × Int) n (fun k s j => spec_l10Draw.l0 k ((d + 1 : Nat) : Int) (n : Int) j b s.2.1 s.2.2 (8 + r2) 0 u 0 s.1) (fun j s => s.1.length = j ∧ (∀ z ∈ s.1, LG (d + 1) z ∧ cntG (d + 1) z ≤ 4 ^ d) ∧ St s.2.1)
            (fun t => ∃ ys i' h', t = (8 + r2, 0, u, 0, ys, i', h') ∧ (ys.length ≤ 2 ∧ ∀ z ∈ ys, LG (d + 1) z ∧ cntG (d + 1) z ≤ 4 ^ d) ∧ St i')
            (fun j s hj ⟨hl, hz, hs⟩ => by
              obtain ⟨y, i', h', ⟨K, hK⟩, l1, l2, s'⟩ := ih s.2.1 s.2.2 (by omega) hs
              refine Or.inl ⟨(s.1 ++ [y], i', h'), ⟨by simp [hl], fun z hz' => ?_, s'⟩, K, fun k hk => ?_⟩
              · rcases List.mem_append.mp hz' with hz' | hz'
                · exact hz z hz'
                · rw [List.mem_singleton.mp hz']; exact ⟨l1, l2⟩
              · have e := hK k hk
                dsimp only at e
                rw [spec_l10Draw.l0, if_pos (by omega), hx1, e]
                simp only [Option.bind_some]
                rw [if_pos (by omega), up64 (by omega), etaG])
            (fun s ⟨hl, hz, hs⟩ => ⟨_, ⟨s.1, s.2.1, s.2.2, rfl, ⟨by omega, hz⟩, hs⟩, 0, fun k _ => by rw [spec_l10Draw.l0, if_neg (by omega)]⟩)
            n 0 ([], i, h) (by omega) (by omega) ⟨rfl, (fun z hz => by cases hz), hi⟩
          refine ⟨ys, i', h', Ev.next (f := fun k => spec_l10Draw.l0 k ((d + 1 : Nat) : Int) (n : Int) 0 b i h (8 + r2) 0 u 0 []) ⟨1, fun k hk => ?_⟩ ⟨K, hK⟩, hy, s'⟩
          obtain ⟨m, rfl⟩ : ∃ m, k = m + 1 := ⟨k - 1, by omega⟩
          rw [spec_l10Draw.j3, ar_spec, hn]
          rfl
        have fin : ∀ u ys, (ys.length ≤ 2 ∧ ∀ z ∈ ys, LG (d + 1) z ∧ cntG (d + 1) z ≤ 4 ^ d) → LG (d + 1 + 1) (⟨8 + r2, 0, u, 0, ys⟩ : S32) ∧ cntG (d + 1 + 1) (⟨8 + r2, 0, u, 0, ys⟩ : S32) ≤ 4 ^ (d + 1) := fun u ys hy => by
          refine ⟨⟨by have := hy.1; show ys.length ≤ _; omega, fun z hz => (hy.2 z hz).1⟩, ?_⟩
          have h1 := csum_le (cntG (d + 1)) (4 ^ d) ys (fun z hz => (hy.2 z hz).2)
          have h2 : ys.length * 4 ^ d ≤ 2 * 4 ^ d := Nat.mul_le_mul_right _ hy.1
          have h3 := hy.1
          simp only [cntG] at h1 ⊢
          omega
        by_cases cb : 8 + r2 = 11 ∨ 8 + r2 = 12
        · obtain ⟨ys, i', h', e, hy, s'⟩ := inner i3 h3 r3 s3
          refine ⟨⟨8 + r2, 0, r3, 0, ys⟩, i', h', Ev.next (f := fun k => spec_l10Draw.j0 k ((d + 1 : Nat) : Int) false b i1 h1) ⟨0, fun k _ => by rw [spec_l10Draw.f, if_neg c, hone]; rfl⟩ (Ev.next (f := fun k => spec_l10Draw.j2 k ((d + 1 : Nat) : Int) true b i2 h2 (8 + r2) 0 0 0) ⟨0, fun k _ => ?_⟩ (Ev.next (f := fun k => spec_l10Draw.j3 k ((d + 1 : Nat) : Int) b i3 h3 (8 + r2) 0 r3 0) ⟨0, fun k _ => ?_⟩ e)), (fin r3 ys hy).1, (fin r3 ys hy).2, s'⟩
          · rw [spec_l10Draw.j0, if_neg (by decide), e2]
            simp only [Option.bind_some, hkd]
            rcases cb with cb | cb
            · rw [if_pos cb]
            · rw [if_neg (by omega), cb]; rfl
          · rw [spec_l10Draw.j2, if_pos rfl, e3]; rfl
        · obtain ⟨ys, i', h', e, hy, s'⟩ := inner i2 h2 0 s2
          refine ⟨⟨8 + r2, 0, 0, 0, ys⟩, i', h', Ev.next (f := fun k => spec_l10Draw.j0 k ((d + 1 : Nat) : Int) false b i1 h1) ⟨0, fun k _ => by rw [spec_l10Draw.f, if_neg c, hone]; rfl⟩ (Ev.next (f := fun k => spec_l10Draw.j2 k ((d + 1 : Nat) : Int) false b i2 h2 (8 + r2) 0 0 0) ⟨0, fun k _ => ?_⟩ (Ev.next (f := fun k => spec_l10Draw.j3 k ((d + 1 : Nat) : Int) b i2 h2 (8 + r2) 0 0 0) ⟨0, fun k _ => ?_⟩ e)), (fin 0 ys hy).1, (fin 0 ys hy).2, s'⟩
          · rw [spec_l10Draw.j0, if_neg (by decide), e2]
            simp only [Option.bind_some, hkd]
            rw [if_neg (by omega), show (8 + r2 == 12) = false from beq_eq_false_iff_ne.mpr (by omega)]
          · rw [spec_l10Draw.j2, if_neg (by decide)]
theorem ev_bent (b : List Int) (hb : b.length ≤ 1048576) (i h : Int) (hi : St i) : ∃ (y : S32) (i' h' : Int), Ev (fun k => spec_l10Bent.f k b i h) (y.f0, y.f1, y.f2, y.f3, y.f4, i', h') ∧ LG 5 y ∧ cntG 5 y ≤ 300 ∧ St i' := by
  obtain ⟨⟨f0, f1, f2, f3, l⟩, i1, h1, ⟨K, hK⟩, hL, hc, s1⟩ := ev_draw b hb 4 i h (by decide) hi
  have hc' : l.length + csum (cntG 4) l ≤ 256 := hc
  obtain ⟨r, i2, h2, e2, _, _, _, s2⟩ := l1Below_ok b i1 h1 10 hb s1
  have start : ∀ k, K ≤ k → spec_l10Draw.f k b i h 4 = some (f0, f1, f2, f3, l, i1, h1) := hK
  by_cases c0 : r = 0
  · obtain ⟨r3, i3, h3, e3, _, _, _, s3⟩ := l1Below_ok b i2 h2 15 hb s2
    refine ⟨⟨wrap64 (r3 - 1), f1, f2, f3, l⟩, i3, h3, ⟨K, fun k hk => ?_⟩, hL, by show l.length + csum (cntG 4) l ≤ _; omega, s3⟩
    show spec_l10Bent.f k b i h = _
    unfold spec_l10Bent.f
    rw [start k hk]
    simp only [Option.bind_some]
    rw [e2]
    simp only [Option.bind_some]
    rw [if_pos c0, e3]
    rfl
  by_cases c1 : r = 1
  · obtain ⟨r3, i3, h3, e3, _, s3⟩ := l1PickInt_ok b i2 h2 [1, 3, (-1)] hb s2 (by decide)
    refine ⟨⟨f0, r3, f2, f3, l⟩, i3, h3, ⟨K, fun k hk => ?_⟩, hL, by show l.length + csum (cntG 4) l ≤ _; omega, s3⟩
    show spec_l10Bent.f k b i h = _
    unfold spec_l10Bent.f
    rw [start k hk]
    simp only [Option.bind_some]
    rw [e2]
    simp only [Option.bind_some]
    rw [if_neg c0, if_pos c1, e3]
    rfl
  by_cases c2 : r = 2
  · obtain ⟨r3, i3, h3, e3, _, s3⟩ := l1PickInt_ok b i2 h2 [3, 4, (-1)] hb s2 (by decide)
    refine ⟨⟨f0, f1, r3, f3, l⟩, i3, h3, ⟨K, fun k hk => ?_⟩, hL, by show l.length + csum (cntG 4) l ≤ _; omega, s3⟩
    show spec_l10Bent.f k b i h = _
    unfold spec_l10Bent.f
    rw [start k hk]
    simp only [Option.bind_some]
    rw [e2]
    simp only [Option.bind_some]
    rw [if_neg c0, if_neg c1, if_pos c2, e3]
    rfl
  by_cases c3 : r = 3
  · refine ⟨⟨f0, f1, f2, f3, l ++ [⟨1, 0, 0, 0, []⟩]⟩, i2, h2, ⟨K, fun k hk => ?_⟩, ⟨?_, fun z hz => ?_⟩, ?_, s2⟩
    · show spec_l10Bent.f k b i h = _
      unfold spec_l10Bent.f
      rw [start k hk]
      simp only [Option.bind_some]
      rw [e2]
      simp only [Option.bind_some]
      rw [if_neg c0, if_neg c1, if_neg c2, if_pos c3, if_pos (by omega)]
    · show (l ++ [_]).length ≤ _
      rw [List.length_append]
      simp
      omega
    · rcases List.mem_append.mp hz with hz | hz
      · exact hL.2 z hz
      · rw [List.mem_singleton.mp hz]; exact ⟨by simp, by simp⟩
    · show (l ++ [_]).length + csum (cntG 4) (l ++ [_]) ≤ 300
      have e1 : cntG 4 (⟨1, 0, 0, 0, []⟩ : S32) = 0 := by simp [cntG, csum]
      rw [csum_app, List.length_append, e1, List.length_singleton]
      omega
  · refine ⟨⟨f0, f1, f2, f3, l⟩, i2, h2, ⟨K, fun k hk => ?_⟩, hL, by show l.length + csum (cntG 4) l ≤ _; omega, s2⟩
    show spec_l10Bent.f k b i h = _
    unfold spec_l10Bent.f
    rw [start k hk]
    simp only [Option.bind_some]
    rw [e2]
    simp only [Option.bind_some]
    rw [if_neg c0, if_neg c1, if_neg c2, if_neg c3]
theorem ev_drawIs (b : List Int) (hb : b.length ≤ 1048576) : ∃ (v : Int) (y : S32) (n : Nat), Ev (fun k => spec_DrawIsFormula.f k b) (v, y.f0, y.f1, y.f2, y.f3, y.f4) ∧ LG n y ∧ cntG n y ≤ 1000 ∧ n ≤ 1000 ∧ 0 ≤ v ∧ v ≤ 3 := by
  obtain ⟨g, Kg, hg⟩ := ev_l1New b hb
  obtain ⟨y, i1, h1, ⟨K, hK⟩, hL, hc, s1⟩ := ev_bent b hb 0 g st0
  obtain ⟨r, i2, h2, e2, _, _, _, s2⟩ := l1Below_ok b i1 h1 8 hb s1
  have hone : spec_l1Once.f b i1 h1 8 = some ((r == 0), i2, h2) := by
    unfold spec_l1Once.f
    rw [e2]
    rfl
  have hv : ∀ v : Int, v ∈ ([3, 3, 2] : List Int) → 0 ≤ v ∧ v ≤ 3 := by decide
  cases cr : (r == 0) with
  | false =>
    rw [cr] at hone
    obtain ⟨v, i3, h3, e3, m3, s3⟩ := l1PickInt_ok b i2 h2 [3, 3, 2] hb s2 (by decide)
    refine ⟨v, y, 5, ⟨Kg + K, fun k hk => ?_⟩, hL, by omega, by omega, (hv v m3).1, (hv v m3).2⟩
    have a1 := hg k (by omega)
    have a2 := hK k (by omega)
    dsimp only at a1 a2
    show spec_DrawIsFormula.f k b = _
    unfold spec_DrawIsFormula.f
    rw [a1]
    simp only [Option.bind_some]
    rw [a2]
    simp only [Option.bind_some]
    rw [hone]
    simp only [Option.bind_some]
    rw [if_neg (by decide), e3]
    rfl
  | true =>
    rw [cr] at hone
    obtain ⟨q, i3, h3, e3, q0, q1, _, s3⟩ := l1Below_ok b i2 h2 4 hb s2
    have q1' := q1 (by decide)
    obtain ⟨n, hn⟩ : ∃ n : Nat, wrap64 (9 + q) = (n : Int) := ⟨(9 + q).toNat, by rw [w64 (by omega) (by omega)]; omega⟩
    have hn' : (n : Int) = 9 + q := by rw [← hn, w64 (by omega) (by omega)]
    obtain ⟨t, ⟨v, z, m, rfl, z1, z2, z3, z4, z5⟩, K2, hK2⟩ := loop_ev (σ := S32) n (fun k s j => spec_DrawIsFormula.l0 k (n : Int) j b i3 h3 s.f0 s.f1 s.f2 s.f3 s.f4) (fun j s => LG (5 + j) s ∧ cntG (5 + j) s ≤ 300 + j)
      (fun t => ∃ (v : Int) (z : S32) (m : Nat), t = (v, z.f0, z.f1, z.f2, z.f3, z.f4) ∧ LG m z ∧ cntG m z ≤ 1000 ∧ m ≤ 1000 ∧ 0 ≤ v ∧ v ≤ 3)
      (fun j s hj ⟨hl, hc⟩ => by
        refine Or.inl ⟨⟨8, 0, 0, 0, [s]⟩, ⟨⟨by simp, fun z hz => ?_⟩, ?_⟩, 0, fun k _ => ?_⟩
        · rw [List.mem_singleton.mp hz]; exact hl
        · show [s].length + csum (cntG (5 + j)) [s] ≤ _
          simp only [List.length_cons, List.length_nil, csum]
          omega
        · simp only [spec_DrawIsFormula.l0]
          rw [if_pos (by omega), up64 (by omega), etaG])
      (fun s ⟨hl, hc⟩ => by
        obtain ⟨v, i4, h4, e4, m4, s4⟩ := l1PickInt_ok b i3 h3 [3, 3, 2] hb s3 (by decide)
        refine ⟨(v, s.f0, s.f1, s.f2, s.f3, s.f4), ⟨v, s, 5 + n, rfl, hl, by omega, by omega, (hv v m4).1, (hv v m4).2⟩, 0, fun k _ => ?_⟩
        simp only [spec_DrawIsFormula.l0]
        rw [if_neg (by omega), e4]
        rfl)
      n 0 y (by omega) (by omega) ⟨hL, hc⟩
    refine ⟨v, z, m, ⟨Kg + K + K2, fun k hk => ?_⟩, z1, z2, z3, z4, z5⟩
    have a1 := hg k (by omega)
    have a2 := hK k (by omega)
    have a3 := hK2 k (by omega)
    dsimp only at a1 a2 a3
    show spec_DrawIsFormula.f k b = _
    unfold spec_DrawIsFormula.f
    rw [a1]
    simp only [Option.bind_some]
    rw [a2]
    simp only [Option.bind_some]
    rw [hone]
    simp only [Option.bind_some]
    rw [if_pos trivial, e3]
    simp only [Option.bind_some, hn]
    exact a3
theorem ev_copy : ∀ (n : Nat) (y : S32), LG n y → Ev (fun k => spec_l10Copy.f k y.f0 y.f1 y.f2 y.f3 y.f4) (y.f0, y.f1, y.f2, y.f3, y.f4) := by
  intro n
  induction n with
  | zero => intro y h; exact h.elim
  | succ n ih =>
    intro y hy
    have hlen := hy.1
    have hc := loop_is (σ := List S32) y.f4.length (fun k s i => spec_l10Copy.l0 k i y.f0 y.f1 y.f2 y.f3 y.f4 y.f0 y.f1 y.f2 y.f3 s) (fun i s => s = y.f4.take i) (y.f0, y.f1, y.f2, y.f3, y.f4)
      (fun i s hi hs => by
        obtain ⟨K, hK⟩ := ih (y.f4.getD i z32) (hy.2 _ (getD_mem _ _ _ hi))
        refine Or.inl ⟨y.f4.take (i + 1), rfl, K, fun k hk => ?_⟩
        have e := hK k hk
        dsimp only at e
        rw [spec_l10Copy.l0, if_pos (by omega), if_pos (by omega), rdG, e]
        simp only [Option.bind_some]
        rw [if_pos (by rw [hs, List.length_take]; omega), up64 (by omega), hs, etaG]
        congr 1
        rw [List.take_add_one, List.getElem?_eq_getElem (by omega), get_rep _ _ _ hi]
        rfl)
      (fun s hs => ⟨0, fun k _ => by
        rw [spec_l10Copy.l0, if_neg (by omega), hs, List.take_length]⟩)
      [] (by simp)
    exact Ev.next (f := fun k => spec_l10Copy.l0 k 0 y.f0 y.f1 y.f2 y.f3 y.f4 y.f0 y.f1 y.f2 y.f3 []) ⟨0, fun k _ => by rw [spec_l10Copy.f]⟩ hc
theorem ev_drawEq (b : List Int) (hb : b.length ≤ 1048576) : ∃ y z : S32, Ev (fun k => spec_DrawEqualFormula.f k b) (y.f0, y.f1, y.f2, y.f3, y.f4, z.f0, z.f1, z.f2, z.f3, z.f4) ∧ LG 5 y := by
  obtain ⟨g, Kg, hg⟩ := ev_l1New b hb
  obtain ⟨y, i1, h1, ⟨K, hK⟩, hL, hc, s1⟩ := ev_bent b hb 0 g st0
  obtain ⟨r, i2, h2, e2, _, _, _, s2⟩ := l1Below_ok b i1 h1 2 hb s1
  have hone : spec_l1Once.f b i1 h1 2 = some ((r == 0), i2, h2) := by
    unfold spec_l1Once.f
    rw [e2]
    rfl
  cases cr : (r == 0) with
  | true =>
    rw [cr] at hone
    obtain ⟨K2, hK2⟩ := ev_copy 5 y hL
    refine ⟨y, y, ⟨Kg + K + K2, fun k hk => ?_⟩, hL⟩
    have a1 := hg k (by omega)
    have a2 := hK k (by omega)
    have a3 := hK2 k (by omega)
    dsimp only at a1 a2 a3
    show spec_DrawEqualFormula.f k b = _
    unfold spec_DrawEqualFormula.f
    rw [a1]
    simp only [Option.bind_some]
    rw [a2]
    simp only [Option.bind_some]
    rw [hone]
    simp only [Option.bind_some]
    rw [if_pos trivial, a3]
    rfl
  | false =>
    rw [cr] at hone
    obtain ⟨z, i3, h3, ⟨K2, hK2⟩, _, _, s3⟩ := ev_bent b hb i2 h2 s2
    refine ⟨y, z, ⟨Kg + K + K2, fun k hk => ?_⟩, hL⟩
    have a1 := hg k (by omega)
    have a2 := hK k (by omega)
    have a3 := hK2 k (by omega)
    dsimp only at a1 a2 a3
    show spec_DrawEqualFormula.f k b = _
    unfold spec_DrawEqualFormula.f
    rw [a1]
    simp only [Option.bind_some]
    rw [a2]
    simp only [Option.bind_some]
    rw [hone]
    simp only [Option.bind_some]
    rw [if_neg (by decide), a3]
    rfl
theorem ev_drawFree (b : List Int) (hb : b.length ≤ 1048576) : ∃ y : S32, Ev (fun k => spec_DrawFreeLogic.f k b) (y.f0, y.f1, y.f2, y.f3, y.f4) ∧ LG 5 y := by
  obtain ⟨g, Kg, hg⟩ := ev_l1New b hb
  obtain ⟨y, i1, h1, ⟨K, hK⟩, hL, hc, s1⟩ := ev_bent b hb 0 g st0
  refine ⟨y, ⟨Kg + K, fun k hk => ?_⟩, hL⟩
  have a1 := hg k (by omega)
  have a2 := hK k (by omega)
  dsimp only at a1 a2
  show spec_DrawFreeLogic.f k b = _
  unfold spec_DrawFreeLogic.f
  rw [a1]
  simp only [Option.bind_some]
  rw [a2]
  rfl
theorem ev_drawArity (b : List Int) (hb : b.length ≤ 1048576) : ∃ a : Int, Ev (fun k => spec_DrawArityOf.f k b) a := by
  obtain ⟨g, Kg, hg⟩ := ev_l1New b hb
  obtain ⟨r, i2, h2, e2, _, _, _, s2⟩ := l1Below_ok b 0 g 16 hb st0
  refine ⟨wrap64 (r - 1), ⟨Kg, fun k hk => ?_⟩⟩
  have a1 := hg k (by omega)
  dsimp only at a1
  show spec_DrawArityOf.f k b = _
  unfold spec_DrawArityOf.f
  rw [a1]
  simp only [Option.bind_some]
  rw [e2]
  rfl
def fm (s : Nat → Int) : Nat → Int
  | 0 => 0
  | i + 1 => mx (fm s i) (s i)
theorem ev_depthTop (n : Nat) (y : S32) (hy : LG (n + 1) y) (s : Nat → Int) (hs : ∀ i, i < y.f4.length → Ev (fun k => impl_DepthOf.f k (y.f4.getD i z32).f0 (y.f4.getD i z32).f1 (y.f4.getD i z32).f2 (y.f4.getD i z32).f3 (y.f4.getD i z32).f4) (s i)) :
    Ev (fun k => impl_DepthOf.f k y.f0 y.f1 y.f2 y.f3 y.f4) (wrap64 (fm s y.f4.length + 1)) := by
  have hlen := hy.1
  have hc := loop_is (σ := Int) y.f4.length (fun k t i => impl_DepthOf.l0 k t y.f4 (y.f4.length : Int) i) (fun i t => t = fm s i) (wrap64 (fm s y.f4.length + 1))
    (fun i t hi ht => by
      obtain ⟨K, hK⟩ := hs i hi
      refine Or.inl ⟨mx t (s i), by rw [ht]; rfl, K, fun k hk => ?_⟩
      have e := hK k hk
      dsimp only at e
      rw [impl_DepthOf.l0, if_pos (by omega), if_pos (by omega), if_pos (by omega), rdG, e]
      simp only [Option.bind_some]
      rw [up64 (by omega)])
    (fun t ht => ⟨0, fun k _ => by rw [impl_DepthOf.l0, if_neg (by omega), ht]⟩)
    0 rfl
  exact Ev.next (f := fun k => impl_DepthOf.l0 k 0 y.f4 (y.f4.length : Int) 0) ⟨0, fun k _ => by rw [impl_DepthOf.f]⟩ hc
theorem mx_pos (a b : Int) (h : b > a) : mx a b = b := by unfold mx; split <;> omega
theorem mx_neg (a b : Int) (h : ¬ b > a) : mx a b = a := by unfold mx; split <;> omega
theorem FnFormulas : laws_FnFormulas.Pure := by
  intro b hB
  by_cases cb : (b.length : Int) > 1048576
  · refine ⟨0, ?_⟩
    unfold laws_FnFormulas.f laws_big.f
    simp only [Option.bind_some]
    rw [if_pos (decide_eq_true cb)]
  have hb : b.length ≤ 1048576 := by omega
  obtain ⟨v, y, n, e1, hL, hc, hn, v0, v3⟩ := ev_drawIs b hb
  obtain ⟨p, q, e2, hp⟩ := ev_drawEq b hb
  obtain ⟨w, e3, hw⟩ := ev_drawFree b hb
  obtain ⟨a, e4⟩ := ev_drawArity b hb
  obtain ⟨fb, f1, f2, _⟩ := ev_isFormula v v0 (by omega) n y hL (by omega)
  obtain ⟨eb, g1, g2⟩ := ev_eqBoth 5 p hp q
  have l1 := ev_spec 5 w hw (by decide)
  have l2 := ev_impl 5 w hw
  have hcl := CL_len 5 w
  generalize CL 5 w = cl at l1 l2 hcl
  have l3 := ev_sameInts cl cl (by omega)
  cases n with
  | zero => exact hL.elim
  | succ n =>
    have hlen := hL.1
    obtain ⟨s, hs⟩ := chosen (α := Int) (p := fun i r => Ev (fun k => impl_DepthOf.f k (y.f4.getD i z32).f0 (y.f4.getD i z32).f1 (y.f4.getD i z32).f2 (y.f4.getD i z32).f3 (y.f4.getD i z32).f4) r) (n := y.f4.length) (fun i hi => by
      obtain ⟨r, _, h⟩ := ev_DepthOf n _ (hL.2 _ (getD_mem z32 _ _ hi))
      exact ⟨r, h⟩)
    have d1 := ev_depthTop n y hL s hs
    have z1 := ev_size (n + 1) y hL (by omega)
    have hcn : y.f4.length + csum (cntG n) y.f4 ≤ 1000 := by simpa only [cntG] using hc
    have hle : ∀ (l : List S32) (j : Nat), csum (cntG n) (l.take j) ≤ csum (cntG n) l := by
      intro l
      induction l with
      | nil => intro j; simp [csum]
      | cons x l ihl =>
        intro j
        cases j with
        | zero => simp [csum]
        | succ j => simp only [List.take_succ_cons, csum]; have := ihl j; omega
    obtain ⟨K, hK⟩ := Evt.and e2 (Evt.and e3 (Evt.and e4 (Evt.and f1 (Evt.and f2 (Evt.and g1 (Evt.and g2 (Evt.and l1 (Evt.and l2 (Evt.and l3 (Evt.and d1 z1))))))))))
    have he := loop_is (σ := Int × Int) y.f4.length (fun k t i => laws_FnFormulas.l0 k b v t.1 t.2 i y.f0 y.f1 y.f2 y.f3 y.f4) (fun i t => t.1 = 1 + i + csum (cntG n) (y.f4.take i) ∧ t.2 = fm s i) true
      (fun i t hi ⟨t1, t2⟩ => by
        obtain ⟨K1, hK1⟩ := ev_size n (y.f4.getD i z32) (hL.2 _ (getD_mem _ _ _ hi)) (by have := csum_mem (cntG n) y.f4 _ (getD_mem z32 _ _ hi); omega)
        obtain ⟨K2, hK2⟩ := hs i hi
        have ht := csum_take (cntG n) z32 y.f4 i hi
        have h1 := hle y.f4 i
        have hm := csum_mem (cntG n) y.f4 _ (getD_mem z32 _ _ hi)
        refine Or.inl ⟨(t.1 + (1 + cntG n (y.f4.getD i z32)), fm s (i + 1)), ⟨by simp only [t1]; omega, rfl⟩, K1 + K2, fun k hk => ?_⟩
        have a1 := hK1 k (by omega)
        have a2 := hK2 k (by omega)
        dsimp only at a1 a2
        simp only [laws_FnFormulas.l0]
        rw [if_pos (by omega), if_pos (by omega), rdG, a1]
        simp only [Option.bind_some]
        rw [a2]
        simp only [Option.bind_some]
        rw [up64 (by omega), w64 (by omega) (by omega)]
        by_cases c : s i > t.2
        · rw [if_pos c]
          simp only [fm]
          rw [← t2, mx_pos _ _ c]
        · rw [if_neg c]
          simp only [fm]
          rw [← t2, mx_neg _ _ c])
      (fun t ⟨t1, t2⟩ => ⟨K + 1, fun k hk => by
        obtain ⟨k, rfl⟩ : ∃ m, k = m + 1 := ⟨k - 1, by omega⟩
        obtain ⟨h2, h3, h4, h5, h6, h7, h8, h9, h10, h11, h12, h13⟩ := hK (k + 1) (by omega)
        dsimp only at h2 h3 h4 h5 h6 h7 h8 h9 h10 h11 h12 h13
        rw [List.take_length] at t1
        simp only [laws_FnFormulas.l0]
        rw [if_neg (by omega), h2]
        simp only [Option.bind_some]
        rw [h3]
        simp only [Option.bind_some]
        rw [h4]
        simp only [Option.bind_some]
        rw [h13]
        simp only [Option.bind_some]
        rw [if_pos (by simp only [cntG]; omega), h12]
        simp only [Option.bind_some]
        rw [if_pos (by rw [t2]), h6]
        simp only [Option.bind_some]
        rw [h5]
        simp only [Option.bind_some]
        rw [if_pos (by simp), h8]
        simp only [Option.bind_some]
        rw [h7]
        simp only [Option.bind_some]
        rw [if_pos (by simp), h10]
        simp only [Option.bind_some]
        rw [h9]
        simp only [Option.bind_some]
        rw [h11]
        simp only [Option.bind_some]
        rw [if_pos (by simp), ar_impl, ar_spec]
        simp⟩)
      (1, 0) ⟨by simp [csum], rfl⟩
    obtain ⟨k, h1, h2⟩ := (Evt.and e1 he).ex
    dsimp only at h1 h2
    refine ⟨k, ?_⟩
    unfold laws_FnFormulas.f laws_big.f
    simp only [Option.bind_some]
    rw [if_neg (by simpa using cb), h1]
    simp only [Option.bind_some]
    exact h2
end Go.Proofs.Ytoljagpjejpmpaa.Pure.LFnFormulas
namespace Go.Proofs.Ytoljagpjejpmpaa.Pure
open Go.Proofs.Ytoljagpjejpmpaa.PFnFormulas
theorem FnFormulas : laws_FnFormulas.Pure := LFnFormulas.FnFormulas
end Go.Proofs.Ytoljagpjejpmpaa.Pure
