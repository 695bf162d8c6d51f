/-
  The pure statement of laws.FnExactFollowed: what the printed functions compute makes the law answer true, for every argument of its kinds (no further condition).
-/
import Derived.Test.YtfmepkfigdobaaaPFnExactFollowedx3
import Derived.Test.YtfmepkfigdobaaaXPure
namespace Go.Proofs.Ytfmepkfigdobaaa.Pure.LFnExactFollowed
open Go.RowKit Go.Proofs.Ytfmepkfigdobaaa.PFnExactFollowed Go.Proofs.YtfmepkfigdobaaaW.PrintWords Go.Proofs.YtfmepkfigdobaaaW.PrintLast Go.Proofs.YtfmepkfigdobaaaX
set_option linter.unusedVariables false
set_option linter.unusedSimpArgs false

theorem in_eq (a b c : Int) : spec_l1In.f a b c = some (decide (b ≤ a) && decide (a ≤ c)) := by
  unfold spec_l1In.f
  by_cases h : b ≤ a <;> simp [h]


theorem wi_eq (a b c : Int) : impl_within.f a b c = some (decide (b ≤ a) && decide (a ≤ c)) := by
  unfold impl_within.f
  by_cases h : b ≤ a <;> simp [h]


theorem szIntS_eq (l : List Int) (a : Int) (h0 : 0 ≤ a) (h1 : a ≤ 1048576) (hl : l.length ≤ 9223372036854775807) : laws_szIntS.f l a = some (if (l.length : Int) ≤ a then a - l.length else -1) := by
  unfold laws_szIntS.f
  rw [w64 (by omega) (by omega)]
  by_cases c : (l.length : Int) ≤ a
  · rw [if_neg (by omega), if_pos c]
  · rw [if_pos (by omega), if_neg c]


theorem ev_toIntS (l : List Int) (h : l.length ≤ 35184372088832) : Ev (fun k => laws_toIntS.f k l) l := by
  have hc := copy_loop l.length (by omega) (fun i => rd l (i : Int)) 0 (fun k ys i => laws_toIntS.l0 k l ys i)
    (fun i ys hi hl => ⟨0, fun k _ => by simp only [laws_toIntS.l0]; rw [if_pos (by omega), if_pos (by omega), if_pos (by omega), Int.toNat_natCast]⟩)
    (fun ys hl => ⟨0, fun k _ => by simp only [laws_toIntS.l0]; rw [if_neg (by omega)]⟩)
  have e : ((List.range l.length).map fun i => rd l ((i : Nat) : Int)) = l := by
    have := map_range_id 0 l
    simpa [rd] using this
  rw [e] at hc
  refine Ev.congr (fun k => ?_) hc
  unfold laws_toIntS.f
  rw [if_pos (by omega), if_pos (by rw [Int.toNat_natCast]; omega), Int.toNat_natCast]


theorem ev_eqIntS (l : List Int) (h : l.length ≤ 9223372036854775807) : Ev (fun k => laws_eqIntS.f k l l) true := by
  have hc := all_true l.length h (fun k i => laws_eqIntS.l0 k l l i) true
    (fun i hi => ⟨0, fun k _ => by simp only [laws_eqIntS.l0]; rw [if_pos (by omega), if_pos (by omega), if_pos (by omega)]; simp only [if_true]⟩)
    ⟨0, fun k _ => by simp only [laws_eqIntS.l0]; rw [if_neg (by omega)]⟩
  refine Ev.congr (fun k => ?_) hc
  unfold laws_eqIntS.f
  rw [if_pos rfl]


theorem ev_markIntS (l : List Int) (h : l.length ≤ 4611686018427387904) : Ev (fun k => laws_markIntS.f k l 1) ((1 + l.length : Int), marks l.length) := by
  have hc := loop_is (σ := List Int × Int) l.length (fun k s i => laws_markIntS.l0 k s.1 s.2 i) (fun i s => s.1.length = l.length ∧ s.2 = 1 + i ∧ ∀ j, j < i → s.1[j]? = some (1 + j : Int)) ((1 + l.length : Int), marks l.length)
    (fun i s hi ⟨hl, hs, hy⟩ => Or.inl ⟨(s.1.set i s.2, s.2 + 1), ⟨by simp [hl], by simp only [hs]; omega, fun j hj => by
      by_cases e : j = i
      · subst e; rw [List.getElem?_set_self (by omega), hs]
      · rw [List.getElem?_set_ne (by omega)]; exact hy j (by omega)⟩, 0, fun k _ => by
      simp only [laws_markIntS.l0]; rw [if_pos (by omega), if_pos (by omega), Int.toNat_natCast, up64 (by omega), w64 (by omega) (by omega)]⟩)
    (fun s ⟨hl, hs, hy⟩ => ⟨0, fun k _ => by
      simp only [laws_markIntS.l0]; rw [if_neg (by omega), hs]
      have e : s.1 = marks l.length := by
        apply List.ext_getElem?
        intro j
        by_cases hj : j < l.length
        · rw [hy j hj]; simp [marks, hj]
        · rw [List.getElem?_eq_none (by omega), List.getElem?_eq_none (by rw [marks_length]; omega)]
      rw [e]⟩)
    (l, 1) ⟨rfl, by omega, fun j hj => by omega⟩
  exact Ev.congr (fun k => by unfold laws_markIntS.f; rfl) hc


theorem ev_markAny (l : List Int) (a : Int) (h0 : 0 ≤ a) (h1 : a + l.length ≤ 4611686018427387904) : ∃ l', Ev (fun k => laws_markIntS.f k l a) (a + l.length, l') := by
  obtain ⟨r, ⟨l', hr⟩, he⟩ := loop_ev (σ := List Int × Int) l.length (fun k s i => laws_markIntS.l0 k s.1 s.2 i) (fun i s => s.1.length = l.length ∧ s.2 = a + i) (fun r => ∃ l', r = (a + l.length, l'))
    (fun i s hi ⟨hl, hs⟩ => Or.inl ⟨(s.1.set i s.2, s.2 + 1), ⟨by simp [hl], by simp only [hs]; omega⟩, 0, fun k _ => by
      simp only [laws_markIntS.l0]; rw [if_pos (by omega), if_pos (by omega), Int.toNat_natCast, up64 (by omega), w64 (by omega) (by omega)]⟩)
    (fun s ⟨hl, hs⟩ => ⟨_, ⟨s.1, rfl⟩, 0, fun k _ => by simp only [laws_markIntS.l0]; rw [if_neg (by omega), hs]⟩)
    l.length 0 (l, a) (by omega) (by omega) ⟨rfl, by omega⟩
  subst hr
  exact ⟨l', Ev.congr (fun k => by unfold laws_markIntS.f; rfl) he⟩

theorem ev_markHeap (v n : List Int) (hv : v.length ≤ 1048576) (hn : n.length ≤ 1048576) : ∃ z, 0 ≤ z ∧ ∃ v' n', Ev (fun k => laws_markHeap.f k v n 1) (z, v', n') := by
  obtain ⟨v', K, hK⟩ := ev_markAny v 1 (by omega) (by omega)
  obtain ⟨n', K', hK'⟩ := ev_markAny n (1 + v.length) (by omega) (by omega)
  refine ⟨1 + v.length + n.length, by omega, v', n', K + K', fun k hk => ?_⟩
  have g1 := hK k (by omega)
  have g2 := hK' k (by omega)
  dsimp only at g1 g2 ⊢
  unfold laws_markHeap.f
  rw [g1]
  simp only [Option.bind_some]
  rw [g2]
  rfl


theorem ev_heldIntS (n : Nat) (h : n ≤ 4611686018427387904) : Ev (fun k => laws_heldIntS.f k (marks n) 1) (1 + n : Int) := by
  have hc := loop_is (σ := Int) n (fun k s i => laws_heldIntS.l0 k (marks n) s i) (fun i s => s = 1 + i) (1 + n : Int)
    (fun i s hi hs => Or.inl ⟨s + 1, by omega, 0, fun k _ => by
      simp only [laws_heldIntS.l0]; rw [if_pos (by rw [marks_length]; omega), if_pos (by omega), marks_at _ _ hi, if_pos hs.symm, up64 (by omega), w64 (by omega) (by omega)]⟩)
    (fun s hs => ⟨0, fun k _ => by simp only [laws_heldIntS.l0]; rw [if_neg (by rw [marks_length]; omega), hs]⟩) 1 (by omega)
  exact Ev.congr (fun k => by unfold laws_heldIntS.f; rfl) hc


theorem szHeap_eq (v n : List Int) (a : Int) (h0 : 0 ≤ a) (h1 : a ≤ 1048576) (hv : v.length ≤ 9223372036854775807) (hn : n.length ≤ 9223372036854775807) :
    ∃ r, laws_szHeap.f v n a = some r ∧ (r < 0 ∨ (0 ≤ r ∧ r ≤ a ∧ (v.length : Int) ≤ a ∧ (n.length : Int) ≤ a)) := by
  unfold laws_szHeap.f
  rw [szIntS_eq v a h0 h1 hv]
  simp only [Option.bind_some]
  by_cases c : (v.length : Int) ≤ a
  · rw [if_pos c, if_neg (by omega), szIntS_eq n _ (by omega) (by omega) hn]
    simp only [Option.bind_some]
    by_cases c2 : (n.length : Int) ≤ a - v.length
    · rw [if_pos c2, if_neg (by omega)]
      exact ⟨_, rfl, Or.inr (by omega)⟩
    · rw [if_neg c2, if_pos (by omega)]
      exact ⟨_, rfl, Or.inl (by omega)⟩
  · rw [if_neg c, if_pos (by omega)]
    exact ⟨_, rfl, Or.inl (by omega)⟩

theorem ev_toHeap (v n : List Int) (hv : v.length ≤ 1048576) (hn : n.length ≤ 1048576) : Ev (fun k => laws_toHeap.f k v n) (v, n) := by
  obtain ⟨K, hK⟩ := Evt.and (ev_toIntS v (by omega)) (ev_toIntS n (by omega))
  refine ⟨K, fun k hk => ?_⟩
  obtain ⟨h1, h2⟩ := hK k hk
  dsimp only at h1 h2
  unfold laws_toHeap.f
  simp only [h1, h2, Option.bind_some]

theorem ev_eqHeap (v n : List Int) (hv : v.length ≤ 1048576) (hn : n.length ≤ 1048576) : Ev (fun k => laws_eqHeap.f k v n v n) true := by
  obtain ⟨K, hK⟩ := Evt.and (ev_eqIntS v (by omega)) (ev_eqIntS n (by omega))
  refine ⟨K, fun k hk => ?_⟩
  obtain ⟨h1, h2⟩ := hK k hk
  dsimp only at h1 h2
  unfold laws_eqHeap.f
  simp only [h1, h2, Option.bind_some, if_true]



/-- the places of a number -/
def places (l : List Int) (n : Int) (i : Nat) : List Int := ((List.range i).filter fun j => decide (rd l ((j : Nat) : Int) = n)).map fun (j : Nat) => (j : Int)

theorem places_succ (l : List Int) (n : Int) (i : Nat) : places l n (i + 1) = if rd l (i : Int) = n then places l n i ++ [(i : Int)] else places l n i := by
  unfold places
  rw [List.range_succ, List.filter_append]
  by_cases c : rd l (i : Int) = n
  · rw [if_pos c]; simp [c]
  · rw [if_neg c]; simp [c]

theorem places_len (l : List Int) (n : Int) (i : Nat) : (places l n i).length ≤ i := by
  unfold places
  rw [List.length_map]
  have := List.length_filter_le (fun j => decide (rd l ((j : Nat) : Int) = n)) (List.range i)
  rw [List.length_range] at this
  exact this

theorem ev_specPositions (l : List Int) (n : Int) (h : l.length ≤ 1048576) : Ev (fun k => spec_Positions.f k l n) (places l n l.length) := by
  have hc := loop_is (σ := List Int) l.length (fun k s i => spec_Positions.l0 k l n s i) (fun i s => s = places l n i) (places l n l.length)
    (fun i s hi hs => by
      have hp := places_len l n i
      refine Or.inl ⟨places l n (i + 1), rfl, 0, fun k _ => ?_⟩
      subst hs
      simp only [spec_Positions.l0]
      rw [if_pos (by omega), if_pos (by omega), places_succ, up64 (by omega)]
      by_cases c : rd l (i : Int) = n
      · rw [if_pos c, if_pos c, if_pos (by omega)]
      · rw [if_neg c, if_neg c])
    (fun s hs => ⟨0, fun k _ => by simp only [spec_Positions.l0]; rw [if_neg (by omega), hs]⟩) [] rfl
  exact Ev.congr (fun k => rfl) hc


theorem places_ne (l : List Int) (n : Int) : (0 < (places l n l.length).length) ↔ n ∈ l := by
  unfold places
  rw [List.length_map]
  constructor
  · intro h
    obtain ⟨j, hj⟩ := List.exists_mem_of_length_pos h
    rw [List.mem_filter, List.mem_range] at hj
    have := of_decide_eq_true hj.2
    rw [rd_at _ _ hj.1] at this
    rw [← this]
    exact List.getElem_mem _
  · intro h
    obtain ⟨j, hj, rfl⟩ := List.getElem_of_mem h
    apply List.length_pos_of_mem (a := j)
    rw [List.mem_filter, List.mem_range]
    exact ⟨hj, decide_eq_true (rd_at _ _ hj)⟩

theorem ev_l7Has (l : List Int) (n : Int) (h : l.length ≤ 1048576) : Ev (fun k => spec_l7Has.f k l n) (decide (n ∈ l)) := by
  obtain ⟨K, hK⟩ := ev_specPositions l n h
  refine ⟨K, fun k hk => ?_⟩
  have h1 := hK k hk
  dsimp only at h1 ⊢
  unfold spec_l7Has.f
  rw [h1]
  simp only [Option.bind_some]
  congr 1
  rw [decide_eq_decide, ← places_ne]
  omega


theorem ev_contains (l : List Int) (n : Int) (h : l.length ≤ 1048576) : Ev (fun k => slices_Contains_int_int.f k l n) (decide (n ∈ l)) := by
  obtain ⟨r, hr, K, hK⟩ := loop_ev (σ := Unit) l.length (fun k _ i => slices_Index_int_int.l0 k l n (l.length : Int) i) (fun i _ => ∀ j, j < i → ∀ hj : j < l.length, l[j] ≠ n) (fun r => (0 ≤ r ↔ n ∈ l))
    (fun i _ hi hI => by
      by_cases c : n = l[i]
      · refine Or.inr ⟨(i : Int), ⟨fun _ => c ▸ List.getElem_mem _, fun _ => by omega⟩, 0, fun k _ => ?_⟩
        simp only [slices_Index_int_int.l0]
        rw [if_pos (by omega), if_pos (by omega), if_pos (by omega), rd_at _ _ hi, if_pos c]
      · refine Or.inl ⟨(), fun j hj hj' => ?_, 0, fun k _ => ?_⟩
        · by_cases e : j = i
          · subst e; exact fun e => c e.symm
          · exact hI j (by omega) hj'
        · simp only [slices_Index_int_int.l0]
          rw [if_pos (by omega), if_pos (by omega), if_pos (by omega), rd_at _ _ hi, if_neg c, up64 (by omega)])
    (fun _ hI => ⟨-1, ⟨fun h => by omega, fun h => by
      obtain ⟨j, hj, e⟩ := List.getElem_of_mem h
      exact absurd e (hI j hj hj)⟩, 0, fun k _ => by simp only [slices_Index_int_int.l0]; rw [if_neg (by omega)]⟩)
    l.length 0 () (by omega) (by omega) (fun j hj => by omega)
  refine ⟨K, fun k hk => ?_⟩
  have h1 := hK k hk
  dsimp only at h1 ⊢
  unfold slices_Contains_int_int.f slices_Index_int_int.f
  have h1' : slices_Index_int_int.l0 k l n (l.length : Int) 0 = some r := h1
  rw [h1']
  simp only [Option.bind_some]
  congr 1
  rw [decide_eq_decide]
  exact hr


/-- how many places are not yet met -/
def rest (n : Nat) (out : List Int) : Nat := ((List.range n).filter fun j => decide (((j : Nat) : Int) ∉ out)).length

theorem filter_lt {l : List Nat} {p q : Nat → Bool} (hpq : ∀ x, q x = true → p x = true) {a : Nat} (ha : a ∈ l) (h1 : p a = true) (h2 : q a = false) : (l.filter q).length < (l.filter p).length := by
  induction l with
  | nil => cases ha
  | cons x l ih =>
    have hle : (l.filter q).length ≤ (l.filter p).length := by
      clear ih ha
      induction l with
      | nil => simp
      | cons y l ih2 =>
        cases hq : q y with
        | true => rw [List.filter_cons_of_pos hq, List.filter_cons_of_pos (hpq y hq)]; simp only [List.length_cons]; omega
        | false =>
          rw [List.filter_cons_of_neg (by rw [hq]; decide)]
          cases hp : p y with
          | true => rw [List.filter_cons_of_pos hp]; simp only [List.length_cons]; omega
          | false => rw [List.filter_cons_of_neg (by rw [hp]; decide)]; exact ih2
    rcases List.mem_cons.mp ha with rfl | ha'
    · rw [List.filter_cons_of_neg (by rw [h2]; decide), List.filter_cons_of_pos h1]
      simp only [List.length_cons]
      omega
    · have := ih ha'
      cases hq : q x with
      | true => rw [List.filter_cons_of_pos hq, List.filter_cons_of_pos (hpq x hq)]; simp only [List.length_cons]; omega
      | false =>
        rw [List.filter_cons_of_neg (by rw [hq]; decide)]
        cases hp : p x with
        | true => rw [List.filter_cons_of_pos hp]; simp only [List.length_cons]; omega
        | false => rw [List.filter_cons_of_neg (by rw [hp]; decide)]; exact this

theorem rest_lt (n : Nat) (out : List Int) (c : Int) (h0 : 0 ≤ c) (h1 : c < n) (hc : c ∉ out) : rest n (out ++ [c]) < rest n out := by
  unfold rest
  obtain ⟨m, rfl⟩ := Int.eq_ofNat_of_zero_le h0
  refine filter_lt (a := m) ?_ (List.mem_range.mpr (by omega)) (decide_eq_true hc) (decide_eq_false (fun h => h (by simp)))
  intro x hx
  refine decide_eq_true (fun h => of_decide_eq_true hx (by simp [h]))

theorem step_of (v n : List Int) (cell : Int) (hn : n.length ≤ 1048576) (m : Nat) (out : List Int) (c : Int)
    (ih : ∀ out' c', rest n.length out' < m → out'.length + rest n.length out' ≤ 1048576 → (∀ x ∈ out', 0 ≤ x ∧ x < n.length) → (out' = [] ∧ c' = cell ∨ cell ≠ -1) → ∃ r, Ev (fun k => spec_Followed.l0 k c' out' v n) r ∧ Ev (fun k => impl_Followed.l0 k cell out' c' v n) r ∧ r.length ≤ 1048576)
    (hm : rest n.length out ≤ m) (hb : out.length + rest n.length out ≤ 1048576) (ho : ∀ x ∈ out, 0 ≤ x ∧ x < n.length) (hc : out = [] ∧ c = cell ∨ cell ≠ -1) :
    ∃ r, Ev (fun k => spec_Followed.l0 k c out v n) r ∧ Ev (fun k => impl_Followed.l0 k cell out c v n) r ∧ r.length ≤ 1048576 := by
  have hw : wrap64 ((n.length : Int) - 1) = n.length - 1 := w64 (by omega) (by omega)
  by_cases c1 : c = -1
  · subst c1
    refine ⟨out, ?_, ?_, by omega⟩
    · refine Ev.next (f := fun k => spec_Followed.j1 k (-1) out false v n) ⟨0, fun k _ => by simp only [spec_Followed.l0, if_true]⟩ (Ev.last ⟨0, fun k _ => by simp only [spec_Followed.j1]; rw [if_neg (by decide)]⟩)
    · by_cases c2 : cell = -1
      · have hout : out = [] := by
          rcases hc with ⟨h, _⟩ | h
          · exact h
          · exact absurd c2 h
        subst hout
        refine Ev.next (f := fun k => impl_Followed.j1 k cell [] (-1) true v n) ⟨0, fun k _ => by simp only [impl_Followed.l0, if_true]; rw [c2]; rfl⟩ (Ev.last ⟨0, fun k _ => ?_⟩)
        simp only [impl_Followed.j1, if_true, impl_Heap_isCell.f, wi_eq, Option.bind_some]
        rw [if_neg (by simp)]
      · have e : (cell == -1) = false := beq_eq_false_iff_ne.mpr c2
        refine Ev.next (f := fun k => impl_Followed.j1 k cell out (-1) false v n) ⟨0, fun k _ => by simp only [impl_Followed.l0, if_true]; rw [e]⟩ (Ev.last ⟨0, fun k _ => by simp only [impl_Followed.j1]; rw [if_neg (by decide)]⟩)
  · obtain ⟨K, hK⟩ := Evt.and (ev_l7Has out c (by omega)) (ev_contains out c (by omega))
    by_cases c3 : 0 ≤ c ∧ c < (n.length : Int)
    · by_cases c4 : c ∈ out
      · refine ⟨out, ?_, ?_, by omega⟩
        · refine Ev.next (f := fun k => spec_Followed.j1 k c out false v n) ⟨K, fun k hk => ?_⟩ (Ev.last ⟨0, fun k _ => by simp only [spec_Followed.j1]; rw [if_neg (by decide)]⟩)
          have h1 := (hK k hk).1
          dsimp only at h1
          simp only [spec_Followed.l0]
          rw [if_neg c1, h1, decide_eq_true c4]
          rfl
        · refine Ev.next (f := fun k => impl_Followed.j1 k cell out c true v n) ⟨0, fun k _ => by simp only [impl_Followed.l0]; rw [if_neg c1]⟩ (Ev.last ⟨K, fun k hk => ?_⟩)
          have h1 := (hK k hk).2
          dsimp only at h1
          simp only [impl_Followed.j1, if_true, impl_Heap_isCell.f, wi_eq, hw, Option.bind_some]
          rw [if_pos (by simp; omega), h1, decide_eq_true c4]
          rfl
      · have hlt := rest_lt n.length out c c3.1 c3.2 c4
        obtain ⟨r, e1, e2, hr⟩ := ih (out ++ [c]) (rd n c) (by omega) (by simp only [List.length_append, List.length_singleton]; omega) (fun x hx => by
          rcases List.mem_append.mp hx with h | h
          · exact ho x h
          · rw [List.mem_singleton.mp h]; exact c3) (Or.inr (by
          rcases hc with ⟨_, h⟩ | h
          · omega
          · exact h))
        refine ⟨r, ?_, ?_, hr⟩
        · refine Ev.next (f := fun k => spec_Followed.j1 k c out true v n) ⟨K, fun k hk => ?_⟩ (Ev.next (f := fun k => spec_Followed.l0 k (rd n c) (out ++ [c]) v n) ⟨0, fun k _ => ?_⟩ e1)
          · have h1 := (hK k hk).1
            dsimp only at h1
            simp only [spec_Followed.l0]
            rw [if_neg c1, h1, decide_eq_false c4]
            rfl
          · simp only [spec_Followed.j1, if_true, in_eq, hw, Option.bind_some]
            rw [if_pos (by simp; omega), if_pos (by omega), if_pos c3.1, if_pos c3.2]
        · refine Ev.next (f := fun k => impl_Followed.j1 k cell out c true v n) ⟨0, fun k _ => by simp only [impl_Followed.l0]; rw [if_neg c1]⟩ (Ev.next (f := fun k => impl_Followed.l0 k cell (out ++ [c]) (rd n c) v n) ⟨K, fun k hk => ?_⟩ e2)
          have h1 := (hK k hk).2
          dsimp only at h1
          simp only [impl_Followed.j1, if_true, impl_Heap_isCell.f, wi_eq, hw, Option.bind_some]
          rw [if_pos (by simp; omega), h1, decide_eq_false c4]
          simp only [Option.bind_some]
          rw [if_neg (by decide), if_pos (by omega), if_pos c3.1, if_pos c3.2]
    · have c4 : c ∉ out := fun h => c3 (ho c h)
      refine ⟨[], ?_, ?_, by simp⟩
      · refine Ev.next (f := fun k => spec_Followed.j1 k c out true v n) ⟨K, fun k hk => ?_⟩ (Ev.last ⟨0, fun k _ => ?_⟩)
        · have h1 := (hK k hk).1
          dsimp only at h1
          simp only [spec_Followed.l0]
          rw [if_neg c1, h1, decide_eq_false c4]
          rfl
        · simp only [spec_Followed.j1, if_true, in_eq, hw, Option.bind_some]
          rw [if_neg (by simp; omega)]
      · refine Ev.next (f := fun k => impl_Followed.j1 k cell out c true v n) ⟨0, fun k _ => by simp only [impl_Followed.l0]; rw [if_neg c1]⟩ (Ev.last ⟨0, fun k hk => ?_⟩)
        simp only [impl_Followed.j1, if_true, impl_Heap_isCell.f, wi_eq, hw, Option.bind_some]
        rw [if_neg (by simp; omega)]

/-- one step and all behind it: both go the same way -/
theorem follow (v n : List Int) (cell : Int) (hn : n.length ≤ 1048576) : ∀ (m : Nat) (out : List Int) (c : Int), rest n.length out ≤ m → out.length + rest n.length out ≤ 1048576 → (∀ x ∈ out, 0 ≤ x ∧ x < n.length) → (out = [] ∧ c = cell ∨ cell ≠ -1) →
    ∃ r, Ev (fun k => spec_Followed.l0 k c out v n) r ∧ Ev (fun k => impl_Followed.l0 k cell out c v n) r ∧ r.length ≤ 1048576 := by
  intro m
  induction m with
  | zero =>
    intro out c hm hb ho hc
    exact step_of v n cell hn 0 out c (fun out' c' h => absurd h (by omega)) hm hb ho hc
  | succ m ih =>
    intro out c hm hb ho hc
    exact step_of v n cell hn (m + 1) out c (fun out' c' h => ih out' c' (by omega)) hm hb ho hc

theorem FnExactFollowed : laws_FnExactFollowed.Pure := by
  intro v n c hB _
  have hm : maxLen = 9223372036854775807 := rfl
  obtain ⟨r, e1, hr⟩ := szHeap_eq v n 1048576 (by omega) (by omega) (by have := hB.1.1; dsimp only at this; omega) (by have := hB.2.1; dsimp only at this; omega)
  rcases hr with hr | ⟨hr0, hra, hv, hn⟩
  · exact ⟨0, by unfold laws_FnExactFollowed.f; rw [e1]; simp only [Option.bind_some]; rw [if_pos hr]⟩
  have hrest : rest n.length [] ≤ n.length := by
    unfold rest
    have := List.length_filter_le (fun j => decide (((j : Nat) : Int) ∉ ([] : List Int))) (List.range n.length)
    rwa [List.length_range] at this
  obtain ⟨o, f1, f2, ho⟩ := follow v n c (by omega) (rest n.length []) [] c (Nat.le_refl _) (by simp only [List.length_nil]; omega) (fun x hx => by cases hx) (Or.inl ⟨rfl, rfl⟩)
  have g1 : Ev (fun k => spec_Followed.f k v n c) o := Ev.congr (fun k => rfl) f1
  have g2 : Ev (fun k => impl_Followed.f k v n c) o := Ev.congr (fun k => rfl) f2
  obtain ⟨z, hz0, mv, mn', g3⟩ := ev_markHeap v n (by omega) (by omega)
  obtain ⟨k, h1, h2, h3, h4, h5, h6, h7, h8⟩ := (Evt.and (ev_toHeap v n (by omega) (by omega)) (Evt.and g1 (Evt.and g2 (Evt.and (ev_eqIntS o (by omega)) (Evt.and (ev_eqHeap v n (by omega) (by omega)) (Evt.and g3 (Evt.and (ev_markIntS o (by omega)) (ev_heldIntS o.length (by omega))))))))).ex
  dsimp only at h1 h2 h3 h4 h5 h6 h7 h8
  refine ⟨k + 1, ?_⟩
  have m1 := laws_toHeap.mono v n k _ h1
  have m2 := spec_Followed.mono v n c k _ h2
  have m3 := impl_Followed.mono v n c k _ h3
  have m4 := laws_eqIntS.mono o o k _ h4
  have m5 := laws_eqHeap.mono v n v n k _ h5
  have m6 := laws_markHeap.mono v n 1 k _ h6
  have hneg : ¬ ((1 : Int) + (o.length : Int) < 0) := by omega
  have j : laws_FnExactFollowed.j0 (k + 1) c o o false v n = some true := by
    simp only [laws_FnExactFollowed.j0]
    rw [if_neg (by decide), h7]
    simp only [Option.bind_some]
    rw [h8]
    simp only [Option.bind_some, hneg, if_false, if_true, h1, h3, h4]
  unfold laws_FnExactFollowed.f
  rw [e1]
  simp only [Option.bind_some]
  rw [if_neg (by omega)]
  simp only [m1, m2, m3, m4, m5, m6, Option.bind_some, if_true]
  rw [if_neg (by omega)]
  exact j

end Go.Proofs.Ytfmepkfigdobaaa.Pure.LFnExactFollowed
namespace Go.Proofs.Ytfmepkfigdobaaa.Pure
open Go.Proofs.Ytfmepkfigdobaaa.PFnExactFollowed
theorem FnExactFollowed : laws_FnExactFollowed.Pure := LFnExactFollowed.FnExactFollowed
end Go.Proofs.Ytfmepkfigdobaaa.Pure
