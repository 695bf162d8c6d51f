/-
  The pure statement of laws.FnExactPositions: what the printed functions compute makes the law answer true, for every argument of its kinds (no further condition).
-/
import Derived.Test.YtnckhddciedceaaPFnExactPositionsx2
import Derived.Test.YtnckhddciedceaaXPure
namespace Go.Proofs.Ytnckhddciedceaa.Pure.LFnExactPositions
open Go.RowKit Go.Proofs.Ytnckhddciedceaa.PFnExactPositions Go.Proofs.YtnckhddciedceaaW.PrintWords Go.Proofs.YtnckhddciedceaaW.PrintLast Go.Proofs.YtnckhddciedceaaX
set_option linter.unusedVariables false
set_option linter.unusedSimpArgs false

theorem ev_toIntS (l : List Int) (h : l.length ≤ 35184372088832) : Ev (fun k => laws_toIntS.f k l) l := by
  have hc := copy_loop l.length (by omega) (fun i => rd l (i : Int)) 0 (fun k ys i => laws_toIntS.l0 k l ys i)
    (fun i ys hi hl => ⟨0, fun k _ => by simp only [laws_toIntS.l0]; rw [if_pos (by omega), if_pos (by omega), if_pos (by omega), Int.toNat_natCast]⟩)
    (fun ys hl => ⟨0, fun k _ => by simp only [laws_toIntS.l0]; rw [if_neg (by omega)]⟩)
  have e : ((List.range l.length).map fun i => rd l ((i : Nat) : Int)) = l := by
    have := map_range_id 0 l
    simpa [rd] using this
  rw [e] at hc
  refine Ev.congr (fun k => ?_) hc
  unfold laws_toIntS.f
  rw [if_pos (by omega), if_pos (by rw [Int.toNat_natCast]; omega), Int.toNat_natCast]


theorem ev_eqIntS (l : List Int) (h : l.length ≤ 9223372036854775807) : Ev (fun k => laws_eqIntS.f k l l) true := by
  have hc := all_true l.length h (fun k i => laws_eqIntS.l0 k l l i) true
    (fun i hi => ⟨0, fun k _ => by simp only [laws_eqIntS.l0]; rw [if_pos (by omega), if_pos (by omega), if_pos (by omega)]; simp only [if_true]⟩)
    ⟨0, fun k _ => by simp only [laws_eqIntS.l0]; rw [if_neg (by omega)]⟩
  refine Ev.congr (fun k => ?_) hc
  unfold laws_eqIntS.f
  rw [if_pos rfl]


theorem ev_markIntS (l : List Int) (h : l.length ≤ 4611686018427387904) : Ev (fun k => laws_markIntS.f k l 1) ((1 + l.length : Int), marks l.length) := by
  have hc := loop_is (σ := List Int × Int) l.length (fun k s i => laws_markIntS.l0 k s.1 s.2 i) (fun i s => s.1.length = l.length ∧ s.2 = 1 + i ∧ ∀ j, j < i → s.1[j]? = some (1 + j : Int)) ((1 + l.length : Int), marks l.length)
    (fun i s hi ⟨hl, hs, hy⟩ => Or.inl ⟨(s.1.set i s.2, s.2 + 1), ⟨by simp [hl], by simp only [hs]; omega, fun j hj => by
      by_cases e : j = i
      · subst e; rw [List.getElem?_set_self (by omega), hs]
      · rw [List.getElem?_set_ne (by omega)]; exact hy j (by omega)⟩, 0, fun k _ => by
      simp only [laws_markIntS.l0]; rw [if_pos (by omega), if_pos (by omega), Int.toNat_natCast, up64 (by omega), w64 (by omega) (by omega)]⟩)
    (fun s ⟨hl, hs, hy⟩ => ⟨0, fun k _ => by
      simp only [laws_markIntS.l0]; rw [if_neg (by omega), hs]
      have e : s.1 = marks l.length := by
        apply List.ext_getElem?
        intro j
        by_cases hj : j < l.length
        · rw [hy j hj]; simp [marks, hj]
        · rw [List.getElem?_eq_none (by omega), List.getElem?_eq_none (by rw [marks_length]; omega)]
      rw [e]⟩)
    (l, 1) ⟨rfl, by omega, fun j hj => by omega⟩
  exact Ev.congr (fun k => by unfold laws_markIntS.f; rfl) hc


theorem ev_heldIntS (n : Nat) (h : n ≤ 4611686018427387904) : Ev (fun k => laws_heldIntS.f k (marks n) 1) (1 + n : Int) := by
  have hc := loop_is (σ := Int) n (fun k s i => laws_heldIntS.l0 k (marks n) s i) (fun i s => s = 1 + i) (1 + n : Int)
    (fun i s hi hs => Or.inl ⟨s + 1, by omega, 0, fun k _ => by
      simp only [laws_heldIntS.l0]; rw [if_pos (by rw [marks_length]; omega), if_pos (by omega), marks_at _ _ hi, if_pos hs.symm, up64 (by omega), w64 (by omega) (by omega)]⟩)
    (fun s hs => ⟨0, fun k _ => by simp only [laws_heldIntS.l0]; rw [if_neg (by rw [marks_length]; omega), hs]⟩) 1 (by omega)
  exact Ev.congr (fun k => by unfold laws_heldIntS.f; rfl) hc


/-- the places of a number -/
def places (l : List Int) (n : Int) (i : Nat) : List Int := ((List.range i).filter fun j => decide (rd l ((j : Nat) : Int) = n)).map fun (j : Nat) => (j : Int)

theorem places_succ (l : List Int) (n : Int) (i : Nat) : places l n (i + 1) = if rd l (i : Int) = n then places l n i ++ [(i : Int)] else places l n i := by
  unfold places
  rw [List.range_succ, List.filter_append]
  by_cases c : rd l (i : Int) = n
  · rw [if_pos c]; simp [c]
  · rw [if_neg c]; simp [c]

theorem places_len (l : List Int) (n : Int) (i : Nat) : (places l n i).length ≤ i := by
  unfold places
  rw [List.length_map]
  have := List.length_filter_le (fun j => decide (rd l ((j : Nat) : Int) = n)) (List.range i)
  rw [List.length_range] at this
  exact this

theorem ev_specPositions (l : List Int) (n : Int) (h : l.length ≤ 1048576) : Ev (fun k => spec_Positions.f k l n) (places l n l.length) := by
  have hc := loop_is (σ := List Int) l.length (fun k s i => spec_Positions.l0 k l n s i) (fun i s => s = places l n i) (places l n l.length)
    (fun i s hi hs => by
      have hp := places_len l n i
      refine Or.inl ⟨places l n (i + 1), rfl, 0, fun k _ => ?_⟩
      subst hs
      simp only [spec_Positions.l0]
      rw [if_pos (by omega), if_pos (by omega), places_succ, up64 (by omega)]
      by_cases c : rd l (i : Int) = n
      · rw [if_pos c, if_pos c, if_pos (by omega)]
      · rw [if_neg c, if_neg c])
    (fun s hs => ⟨0, fun k _ => by simp only [spec_Positions.l0]; rw [if_neg (by omega), hs]⟩) [] rfl
  exact Ev.congr (fun k => rfl) hc

theorem ev_implPositions (l : List Int) (n : Int) (h : l.length ≤ 1048576) : Ev (fun k => impl_Positions.f k l n) (places l n l.length) := by
  have hc := loop_is (σ := List Int) l.length (fun k s i => impl_Positions.l0 k n s l (l.length : Int) i) (fun i s => s = places l n i) (places l n l.length)
    (fun i s hi hs => by
      have hp := places_len l n i
      refine Or.inl ⟨places l n (i + 1), rfl, 0, fun k _ => ?_⟩
      subst hs
      simp only [impl_Positions.l0]
      rw [if_pos (by omega), if_pos (by omega), if_pos (by omega), places_succ, up64 (by omega)]
      by_cases c : rd l (i : Int) = n
      · rw [if_pos c, if_pos c, if_pos (by omega)]
      · rw [if_neg c, if_neg c])
    (fun s hs => ⟨0, fun k _ => by simp only [impl_Positions.l0]; rw [if_neg (by omega), hs]⟩) [] rfl
  exact Ev.congr (fun k => rfl) hc

theorem FnExactPositions : laws_FnExactPositions.Pure := by
  intro l n _ _
  by_cases c0 : (l.length : Int) > 1048576
  · exact ⟨0, by unfold laws_FnExactPositions.f; rw [if_pos c0]⟩
  have hp := places_len l n l.length
  obtain ⟨k, h1, h2, h3, h4, h5, h6, h7, h8⟩ := (Evt.and (ev_toIntS l (by omega)) (Evt.and (ev_specPositions l n (by omega)) (Evt.and (ev_implPositions l n (by omega)) (Evt.and (ev_eqIntS l (by omega)) (Evt.and (ev_eqIntS (places l n l.length) (by omega)) (Evt.and (ev_markIntS l (by omega)) (Evt.and (ev_markIntS (places l n l.length) (by omega)) (ev_heldIntS (places l n l.length).length (by omega))))))))).ex
  dsimp only at h1 h2 h3 h4 h5 h6 h7 h8
  refine ⟨k + 1, ?_⟩
  have m1 := laws_toIntS.mono l k _ h1
  have m2 := spec_Positions.mono l n k _ h2
  have m3 := impl_Positions.mono l n k _ h3
  have m4 := laws_eqIntS.mono l l k _ h4
  have m5 := laws_eqIntS.mono (places l n l.length) (places l n l.length) k _ h5
  have m6 := laws_markIntS.mono l 1 k _ h6
  have j : laws_FnExactPositions.j0 (k + 1) l n (places l n l.length) (places l n l.length) false = some true := by
    simp only [laws_FnExactPositions.j0]
    rw [if_neg (by decide), h7]
    simp only [Option.bind_some]
    rw [h8]
    simp only [Option.bind_some]
    have hneg : ¬ ((1 : Int) + ((places l n l.length).length : Int) < 0) := by omega
    simp only [hneg, if_false, if_true, h1, h3, h5, Option.bind_some]
  unfold laws_FnExactPositions.f
  rw [if_neg c0]
  simp only [m1, m2, m3, m4, m5, m6, Option.bind_some, if_true]
  rw [if_neg (by omega)]
  exact j

end Go.Proofs.Ytnckhddciedceaa.Pure.LFnExactPositions
namespace Go.Proofs.Ytnckhddciedceaa.Pure
open Go.Proofs.Ytnckhddciedceaa.PFnExactPositions
theorem FnExactPositions : laws_FnExactPositions.Pure := LFnExactPositions.FnExactPositions
end Go.Proofs.Ytnckhddciedceaa.Pure
