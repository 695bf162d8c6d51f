/-
  The pure statement of laws.FnExactEqualState: what the printed functions compute makes the law answer true, for every argument of its kinds (no further condition).
-/
import Derived.Test.YtnckhddciedceaaPFnExactEqualStatex3
import Derived.Test.YtnckhddciedceaaXPure
namespace Go.Proofs.Ytnckhddciedceaa.Pure.LFnExactEqualState
open Go.RowKit Go.Proofs.Ytnckhddciedceaa.PFnExactEqualState Go.Proofs.YtnckhddciedceaaW.PrintWords Go.Proofs.YtnckhddciedceaaW.PrintLast Go.Proofs.YtnckhddciedceaaX
set_option linter.unusedVariables false
set_option linter.unusedSimpArgs false

theorem szIntS_eq (l : List Int) (a : Int) (h0 : 0 ≤ a) (h1 : a ≤ 1048576) (hl : l.length ≤ 9223372036854775807) : laws_szIntS.f l a = some (if (l.length : Int) ≤ a then a - l.length else -1) := by
  unfold laws_szIntS.f
  rw [w64 (by omega) (by omega)]
  by_cases c : (l.length : Int) ≤ a
  · rw [if_neg (by omega), if_pos c]
  · rw [if_pos (by omega), if_neg c]


theorem ev_toIntS (l : List Int) (h : l.length ≤ 35184372088832) : Ev (fun k => laws_toIntS.f k l) l := by
  have hc := copy_loop l.length (by omega) (fun i => rd l (i : Int)) 0 (fun k ys i => laws_toIntS.l0 k l ys i)
    (fun i ys hi hl => ⟨0, fun k _ => by simp only [laws_toIntS.l0]; rw [if_pos (by omega), if_pos (by omega), if_pos (by omega), Int.toNat_natCast]⟩)
    (fun ys hl => ⟨0, fun k _ => by simp only [laws_toIntS.l0]; rw [if_neg (by omega)]⟩)
  have e : ((List.range l.length).map fun i => rd l ((i : Nat) : Int)) = l := by
    have := map_range_id 0 l
    simpa [rd] using this
  rw [e] at hc
  refine Ev.congr (fun k => ?_) hc
  unfold laws_toIntS.f
  rw [if_pos (by omega), if_pos (by rw [Int.toNat_natCast]; omega), Int.toNat_natCast]


theorem ev_eqIntS (l : List Int) (h : l.length ≤ 9223372036854775807) : Ev (fun k => laws_eqIntS.f k l l) true := by
  have hc := all_true l.length h (fun k i => laws_eqIntS.l0 k l l i) true
    (fun i hi => ⟨0, fun k _ => by simp only [laws_eqIntS.l0]; rw [if_pos (by omega), if_pos (by omega), if_pos (by omega)]; simp only [if_true]⟩)
    ⟨0, fun k _ => by simp only [laws_eqIntS.l0]; rw [if_neg (by omega)]⟩
  refine Ev.congr (fun k => ?_) hc
  unfold laws_eqIntS.f
  rw [if_pos rfl]


theorem ev_l7Same (a b : List Int) (h : a.length ≤ 9223372036854775807) : Ev (fun k => spec_l7Same.f k a b) (decide (a = b)) := by
  by_cases c : (a.length : Int) = (b.length : Int)
  · have hc := all_loop a.length h (fun i => rd a (i : Int) = rd b (i : Int)) (fun k i => spec_l7Same.l0 k a b i) true false
      (fun i hi hT => ⟨0, fun k _ => by simp only [spec_l7Same.l0]; rw [if_pos (by omega), if_pos (by omega), if_pos (by omega), if_pos hT]⟩)
      (fun i hi hT => ⟨0, fun k _ => by simp only [spec_l7Same.l0]; rw [if_pos (by omega), if_pos (by omega), if_pos (by omega), if_neg hT]⟩)
      ⟨0, fun k _ => by simp only [spec_l7Same.l0]; rw [if_neg (by omega)]⟩ (decide (a = b)) (by
        by_cases e : a = b
        · subst e; simp
        · rw [if_neg, decide_eq_false e]
          intro hh
          exact e (ints_ext (by omega) hh))
    refine Ev.congr (fun k => ?_) hc
    unfold spec_l7Same.f
    rw [if_pos c]
  · have e : decide (a = b) = false := decide_eq_false (fun e => c (by rw [e]))
    rw [e]
    exact Ev.one (fun k => by unfold spec_l7Same.f; rw [if_neg c])


theorem ev_slicesEqualInt (a b : List Int) (h : a.length ≤ 9223372036854775807) : Ev (fun k => slices_Equal_int_int.f k a b) (decide (a = b)) := by
  by_cases c : (a.length : Int) = (b.length : Int)
  · have hc := all_loop a.length h (fun i => rd a (i : Int) = rd b (i : Int)) (fun k i => slices_Equal_int_int.l0 k a b (a.length : Int) i) true false
      (fun i hi hT => ⟨0, fun k _ => by simp only [slices_Equal_int_int.l0]; rw [if_pos (by omega), if_pos (by omega), if_pos (by omega), if_pos (by omega), if_pos hT]⟩)
      (fun i hi hT => ⟨0, fun k _ => by simp only [slices_Equal_int_int.l0]; rw [if_pos (by omega), if_pos (by omega), if_pos (by omega), if_pos (by omega), if_neg hT]⟩)
      ⟨0, fun k _ => by simp only [slices_Equal_int_int.l0]; rw [if_neg (by omega)]⟩ (decide (a = b)) (by
        by_cases e : a = b
        · subst e; simp
        · rw [if_neg, decide_eq_false e]
          intro hh
          exact e (ints_ext (by omega) hh))
    refine Ev.congr (fun k => ?_) hc
    unfold slices_Equal_int_int.f
    rw [if_pos c]
  · have e : decide (a = b) = false := decide_eq_false (fun e => c (by rw [e]))
    rw [e]
    exact Ev.one (fun k => by unfold slices_Equal_int_int.f; rw [if_neg c])


theorem szHeap_eq (v n : List Int) (a : Int) (h0 : 0 ≤ a) (h1 : a ≤ 1048576) (hv : v.length ≤ 9223372036854775807) (hn : n.length ≤ 9223372036854775807) :
    ∃ r, laws_szHeap.f v n a = some r ∧ (r < 0 ∨ (0 ≤ r ∧ r ≤ a ∧ (v.length : Int) ≤ a ∧ (n.length : Int) ≤ a)) := by
  unfold laws_szHeap.f
  rw [szIntS_eq v a h0 h1 hv]
  simp only [Option.bind_some]
  by_cases c : (v.length : Int) ≤ a
  · rw [if_pos c, if_neg (by omega), szIntS_eq n _ (by omega) (by omega) hn]
    simp only [Option.bind_some]
    by_cases c2 : (n.length : Int) ≤ a - v.length
    · rw [if_pos c2, if_neg (by omega)]
      exact ⟨_, rfl, Or.inr (by omega)⟩
    · rw [if_neg c2, if_pos (by omega)]
      exact ⟨_, rfl, Or.inl (by omega)⟩
  · rw [if_neg c, if_pos (by omega)]
    exact ⟨_, rfl, Or.inl (by omega)⟩

theorem ev_toHeap (v n : List Int) (hv : v.length ≤ 1048576) (hn : n.length ≤ 1048576) : Ev (fun k => laws_toHeap.f k v n) (v, n) := by
  obtain ⟨K, hK⟩ := Evt.and (ev_toIntS v (by omega)) (ev_toIntS n (by omega))
  refine ⟨K, fun k hk => ?_⟩
  obtain ⟨h1, h2⟩ := hK k hk
  dsimp only at h1 h2
  unfold laws_toHeap.f
  simp only [h1, h2, Option.bind_some]

theorem ev_eqHeap (v n : List Int) (hv : v.length ≤ 1048576) (hn : n.length ≤ 1048576) : Ev (fun k => laws_eqHeap.f k v n v n) true := by
  obtain ⟨K, hK⟩ := Evt.and (ev_eqIntS v (by omega)) (ev_eqIntS n (by omega))
  refine ⟨K, fun k hk => ?_⟩
  obtain ⟨h1, h2⟩ := hK k hk
  dsimp only at h1 h2
  unfold laws_eqHeap.f
  simp only [h1, h2, Option.bind_some, if_true]

theorem ev_specEqualHeap (v n v' n' : List Int) (hv : v.length ≤ 1048576) (hn : n.length ≤ 1048576) : Ev (fun k => spec_EqualHeap.f k v n v' n') (if v = v' then decide (n = n') else false) := by
  obtain ⟨K, hK⟩ := Evt.and (ev_l7Same v v' (by omega)) (ev_l7Same n n' (by omega))
  refine ⟨K, fun k hk => ?_⟩
  obtain ⟨h1, h2⟩ := hK k hk
  dsimp only at h1 h2
  unfold spec_EqualHeap.f
  simp only [h1, h2, Option.bind_some, decide_eq_true_eq]
  split <;> rfl

theorem ev_implEqualHeap (v n v' n' : List Int) (hv : v.length ≤ 1048576) (hn : n.length ≤ 1048576) : Ev (fun k => impl_EqualHeap.f k v n v' n') (if v = v' then decide (n = n') else false) := by
  obtain ⟨K, hK⟩ := Evt.and (ev_slicesEqualInt v v' (by omega)) (ev_slicesEqualInt n n' (by omega))
  refine ⟨K, fun k hk => ?_⟩
  obtain ⟨h1, h2⟩ := hK k hk
  dsimp only at h1 h2
  unfold impl_EqualHeap.f
  simp only [h1, h2, Option.bind_some, decide_eq_true_eq]
  split <;> rfl

theorem szState_eq (p : Int) (v n : List Int) (a : Int) (h0 : 0 ≤ a) (h1 : a ≤ 1048576) (hv : v.length ≤ 9223372036854775807) (hn : n.length ≤ 9223372036854775807) :
    ∃ r, laws_szState.f p v n a = some r ∧ (r < 0 ∨ (0 ≤ r ∧ r ≤ a ∧ (v.length : Int) ≤ a ∧ (n.length : Int) ≤ a)) := by
  obtain ⟨r, e, hr⟩ := szHeap_eq v n a h0 h1 hv hn
  unfold laws_szState.f
  rw [e]
  simp only [Option.bind_some]
  by_cases c : r < 0
  · rw [if_pos c]; exact ⟨_, rfl, Or.inl (by omega)⟩
  · rw [if_neg c]; exact ⟨_, rfl, hr⟩

theorem ev_toState (p : Int) (v n : List Int) (hv : v.length ≤ 1048576) (hn : n.length ≤ 1048576) : Ev (fun k => laws_toState.f k p v n) (p, v, n) := by
  obtain ⟨K, hK⟩ := ev_toHeap v n hv hn
  refine ⟨K, fun k hk => ?_⟩
  have h1 := hK k hk
  dsimp only at h1 ⊢
  unfold laws_toState.f
  rw [h1]
  rfl

theorem ev_eqState (p : Int) (v n : List Int) (hv : v.length ≤ 1048576) (hn : n.length ≤ 1048576) : Ev (fun k => laws_eqState.f k p v n p v n) true := by
  obtain ⟨K, hK⟩ := ev_eqHeap v n hv hn
  refine ⟨K, fun k hk => ?_⟩
  have h1 := hK k hk
  dsimp only at h1 ⊢
  unfold laws_eqState.f
  simp only [h1, Option.bind_some, if_true]

theorem both (p p' : Int) (v n v' n' : List Int) (hv : v.length ≤ 1048576) (hn : n.length ≤ 1048576) :
    Evt (fun k => ∃ r, spec_EqualState.f k p v n p' v' n' = some r ∧ impl_EqualState.f k p v n p' v' n' = some r) := by
  obtain ⟨K, hK⟩ := Evt.and (ev_specEqualHeap v n v' n' hv hn) (ev_implEqualHeap v n v' n' hv hn)
  refine ⟨K, fun k hk => ?_⟩
  obtain ⟨h1, h2⟩ := hK k hk
  dsimp only at h1 h2
  unfold spec_EqualState.f impl_EqualState.f
  simp only [h1, h2, Option.bind_some]
  split
  · exact ⟨_, rfl, rfl⟩
  · exact ⟨_, rfl, rfl⟩

theorem FnExactEqualState : laws_FnExactEqualState.Pure := by
  intro p v n p' v' n' hB hB'
  have hm : maxLen = 9223372036854775807 := rfl
  obtain ⟨r, e1, hr⟩ := szState_eq p v n 1048576 (by omega) (by omega) (by have := hB.2.1.1; dsimp only at this; omega) (by have := hB.2.2.1; dsimp only at this; omega)
  rcases hr with hr | ⟨hr0, hra, hv, hn⟩
  · exact ⟨0, by unfold laws_FnExactEqualState.f; rw [e1]; simp only [Option.bind_some]; rw [if_pos hr]⟩
  obtain ⟨r', e2, hr'⟩ := szState_eq p' v' n' r (by omega) (by omega) (by have := hB'.2.1.1; dsimp only at this; omega) (by have := hB'.2.2.1; dsimp only at this; omega)
  rcases hr' with hr' | ⟨hr0', hra', hv', hn'⟩
  · exact ⟨0, by unfold laws_FnExactEqualState.f; rw [e1]; simp only [Option.bind_some]; rw [if_neg (by omega), e2]; simp only [Option.bind_some]; rw [if_pos hr']⟩
  obtain ⟨k, h1, h2, ⟨q, h3, h4⟩, h5, h6⟩ := (Evt.and (ev_toState p v n (by omega) (by omega)) (Evt.and (ev_toState p' v' n' (by omega) (by omega)) (Evt.and (both p p' v n v' n' (by omega) (by omega)) (Evt.and (ev_eqState p v n (by omega) (by omega)) (ev_eqState p' v' n' (by omega) (by omega)))))).ex
  dsimp only at h1 h2 h5 h6
  refine ⟨k, ?_⟩
  unfold laws_FnExactEqualState.f
  rw [e1]
  simp only [Option.bind_some]
  rw [if_neg (by omega), e2]
  simp only [Option.bind_some]
  rw [if_neg (by omega)]
  simp only [h1, h2, h3, h4, h5, h6, Option.bind_some, if_true]
  simp

end Go.Proofs.Ytnckhddciedceaa.Pure.LFnExactEqualState
namespace Go.Proofs.Ytnckhddciedceaa.Pure
open Go.Proofs.Ytnckhddciedceaa.PFnExactEqualState
theorem FnExactEqualState : laws_FnExactEqualState.Pure := LFnExactEqualState.FnExactEqualState
end Go.Proofs.Ytnckhddciedceaa.Pure
