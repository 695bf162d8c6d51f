/-
  The pure statement of laws.FnExactDepthOf: what the printed functions compute makes the law answer true, for every argument of its kinds (no further condition).
-/
import Derived.Test.YtnckhddciedceaaPFnExactDepthOfx3
import Derived.Test.YtnckhddciedceaaXPure
namespace Go.Proofs.Ytnckhddciedceaa.Pure.LFnExactDepthOf
open Go.RowKit Go.Proofs.Ytnckhddciedceaa.PFnExactDepthOf Go.Proofs.YtnckhddciedceaaW.PrintWords Go.Proofs.YtnckhddciedceaaW.PrintLast Go.Proofs.YtnckhddciedceaaX
set_option linter.unusedVariables false
set_option linter.unusedSimpArgs false

theorem rdF (l : List S49) (i : Nat) : rd_T49 l (i : Int) = l.getD i z49 := by unfold rd_T49; rw [Int.toNat_natCast]
theorem rdG (l : List S54) (i : Nat) : rd_T54 l (i : Int) = l.getD i z54 := by unfold rd_T54; rw [Int.toNat_natCast]

theorem etaG (y : S54) : (⟨y.f0, y.f1, y.f2, y.f3, y.f4⟩ : S54) = y := by cases y; rfl

/-- all lists inside are short, so many levels deep -/
def LF : Nat → S49 → Prop
  | 0, _ => False
  | n + 1, x => x.f4.length ≤ 1048576 ∧ ∀ y ∈ x.f4, LF n y
def LG : Nat → S54 → Prop
  | 0, _ => False
  | n + 1, x => x.f4.length ≤ 1048576 ∧ ∀ y ∈ x.f4, LG n y

theorem ev_szFormula : ∀ (n : Nat) (x : S49), B49n n x → ∀ a : Int, 0 ≤ a → a ≤ 1048576 →
    ∃ r, Ev (fun k => laws_szFormula.f k x.f0 x.f1 x.f2 x.f3 x.f4 a) r ∧ (r < 0 ∨ (0 ≤ r ∧ r ≤ a ∧ LF n x)) := by
  intro n
  induction n with
  | zero => intro x h; exact h.elim
  | succ n ih =>
    intro x hx a h0 h1
    have hm : maxLen = 9223372036854775807 := rfl
    have hl : x.f4.length ≤ maxLen ∧ ∀ y ∈ x.f4, B49n n y := hx.2.2.2.2
    have hw : wrap64 (a - (x.f4.length : Int)) = a - x.f4.length := w64 (by omega) (by omega)
    have key : ∃ r, Ev (fun k => laws_szFormulaS.f k x.f4 a) r ∧ (r < 0 ∨ (0 ≤ r ∧ r ≤ a ∧ LF (n + 1) x)) := by
      by_cases c : a - (x.f4.length : Int) < 0
      · exact ⟨-1, Ev.last ⟨0, fun k _ => by simp only [laws_szFormulaS.f]; rw [hw, if_pos c]⟩, Or.inl (by omega)⟩
      · obtain ⟨r, hr, he⟩ := loop_ev (σ := Int) x.f4.length (fun k s i => laws_szFormulaS.l0 k x.f4 s i) (fun i s => 0 ≤ s ∧ s ≤ a ∧ ∀ j, j < i → LF n (x.f4.getD j z49))
          (fun r => r < 0 ∨ (0 ≤ r ∧ r ≤ a ∧ LF (n + 1) x))
          (fun i s hi ⟨s0, s1, hj⟩ => by
            obtain ⟨r, ⟨K, hK⟩, hr⟩ := ih (x.f4.getD i z49) (hl.2 _ (getD_mem _ _ _ hi)) s s0 (by omega)
            rcases hr with hr | ⟨g0, g1, g2⟩
            · refine Or.inr ⟨-1, Or.inl (by omega), K, fun k hk => ?_⟩
              have e := hK k hk
              dsimp only at e
              simp only [laws_szFormulaS.l0]
              rw [if_pos (by omega), if_pos (by omega), rdF, e]
              simp only [Option.bind_some]
              rw [if_pos hr]
            · refine Or.inl ⟨r, ⟨g0, by omega, fun j hj' => ?_⟩, K, fun k hk => ?_⟩
              · by_cases ej : j = i
                · subst ej; exact g2
                · exact hj j (by omega)
              · have e := hK k hk
                dsimp only at e
                simp only [laws_szFormulaS.l0]
                rw [if_pos (by omega), if_pos (by omega), rdF, e]
                simp only [Option.bind_some]
                rw [if_neg (by omega), up64 (by omega)])
          (fun s ⟨s0, s1, hj⟩ => ⟨s, Or.inr ⟨s0, s1, by omega, fun y hy => by
            obtain ⟨j, hj1, rfl⟩ := List.getElem_of_mem hy
            have := hj j hj1
            rwa [get_rep _ _ _ hj1] at this⟩, 0, fun k _ => by simp only [laws_szFormulaS.l0]; rw [if_neg (by omega)]⟩)
          x.f4.length 0 (a - x.f4.length) (by omega) (by omega) ⟨by omega, by omega, fun j hj => by omega⟩
        refine ⟨r, Ev.next (f := fun k => laws_szFormulaS.l0 k x.f4 (a - x.f4.length) 0) ⟨0, fun k _ => by simp only [laws_szFormulaS.f]; rw [hw, if_neg c]⟩ he, hr⟩
    obtain ⟨r, ⟨K, hK⟩, hr⟩ := key
    rcases hr with hr | hr
    · refine ⟨-1, Ev.last ⟨K, fun k hk => ?_⟩, Or.inl (by omega)⟩
      have e := hK k hk
      dsimp only at e
      simp only [laws_szFormula.f]
      rw [e]
      simp only [Option.bind_some]
      rw [if_pos hr]
    · refine ⟨r, Ev.last ⟨K, fun k hk => ?_⟩, Or.inr hr⟩
      have e := hK k hk
      dsimp only at e
      simp only [laws_szFormula.f]
      rw [e]
      simp only [Option.bind_some]
      rw [if_neg (by omega)]

instance : Inhabited S54 := ⟨z54⟩

theorem ev_toFormula : ∀ (n : Nat) (x : S49), LF n x → ∃ y : S54, LG n y ∧ Ev (fun k => laws_toFormula.f k x.f0 x.f1 x.f2 x.f3 x.f4) (y.f0, y.f1, y.f2, y.f3, y.f4) := by
  intro n
  induction n with
  | zero => intro x h; exact h.elim
  | succ n ih =>
    intro x hx
    obtain ⟨g, hg⟩ := chosen (α := S54) (p := fun i y => LG n y ∧ Ev (fun k => laws_toFormula.f k (x.f4.getD i z49).f0 (x.f4.getD i z49).f1 (x.f4.getD i z49).f2 (x.f4.getD i z49).f3 (x.f4.getD i z49).f4) (y.f0, y.f1, y.f2, y.f3, y.f4)) (n := x.f4.length) (fun i hi => ih _ (hx.2 _ (getD_mem _ _ _ hi)))
    obtain ⟨K, hc⟩ := copy_loop x.f4.length (by have := hx.1; omega) g z54 (fun k ys i => laws_toFormulaS.l0 k x.f4 ys i)
      (fun i ys hi hl => by
        obtain ⟨K, hK⟩ := (hg i hi).2
        refine ⟨K, fun k hk => ?_⟩
        have e := hK k hk
        dsimp only at e
        simp only [laws_toFormulaS.l0]
        rw [if_pos (by omega), if_pos (by omega), rdF, e]
        simp only [Option.bind_some]
        rw [if_pos (by omega), Int.toNat_natCast, etaG])
      (fun ys hl => ⟨0, fun k _ => by simp only [laws_toFormulaS.l0]; rw [if_neg (by omega)]⟩)
    refine ⟨⟨x.f0, x.f1, x.f2, x.f3, (List.range x.f4.length).map g⟩, ⟨by simpa using hx.1, fun y hy => ?_⟩, Ev.next (f := fun k => (laws_toFormulaS.f k x.f4).bind fun t => some (x.f0, x.f1, x.f2, x.f3, t)) ⟨0, fun k _ => by simp only [laws_toFormula.f]⟩ (Ev.last ⟨K, fun k hk => ?_⟩)⟩
    · obtain ⟨i, hi, rfl⟩ := List.mem_map.mp hy
      exact (hg i (List.mem_range.mp hi)).1
    · have e := hc k hk
      dsimp only at e ⊢
      simp only [laws_toFormulaS.f]
      rw [if_pos (by omega), if_pos (by have := hx.1; rw [Int.toNat_natCast]; omega), Int.toNat_natCast, e]
      rfl

theorem ev_eqFormula : ∀ (n : Nat) (x : S54), LG n x → Ev (fun k => laws_eqFormula.f k x.f0 x.f1 x.f2 x.f3 x.f4 x.f0 x.f1 x.f2 x.f3 x.f4) true := by
  intro n
  induction n with
  | zero => intro x h; exact h.elim
  | succ n ih =>
    intro x hx
    have hc := all_true x.f4.length (by have := hx.1; omega) (fun k i => laws_eqFormulaS.l0 k x.f4 x.f4 i) true
      (fun i hi => by
        obtain ⟨K, hK⟩ := ih (x.f4.getD i z54) (hx.2 _ (getD_mem _ _ _ hi))
        refine ⟨K, fun k hk => ?_⟩
        have e := hK k hk
        dsimp only at e
        simp only [laws_eqFormulaS.l0]
        rw [if_pos (by omega), if_pos (by omega), if_pos (by omega), rdG, e]
        simp only [Option.bind_some, if_true])
      ⟨0, fun k _ => by simp only [laws_eqFormulaS.l0]; rw [if_neg (by omega)]⟩
    obtain ⟨K, hK⟩ : Ev (fun k => laws_eqFormulaS.f k x.f4 x.f4) true := Ev.next (f := fun k => laws_eqFormulaS.l0 k x.f4 x.f4 0) ⟨0, fun k _ => by simp only [laws_eqFormulaS.f, if_true]⟩ hc
    refine Ev.last ⟨K, fun k hk => ?_⟩
    have e := hK k hk
    dsimp only at e
    simp only [laws_eqFormula.f, if_true]
    rw [e]
    rfl


theorem max_eq (a b : Int) : spec_l1Max.f a b = some (mx a b) := by
  unfold spec_l1Max.f mx
  split <;> congr 1 <;> omega

theorem ev_DepthOf : ∀ (n : Nat) (x : S54), LG n x → ∃ r, Ev (fun k => spec_DepthOf.f k x.f0 x.f1 x.f2 x.f3 x.f4) r ∧ Ev (fun k => impl_DepthOf.f k x.f0 x.f1 x.f2 x.f3 x.f4) r := by
  intro n
  induction n with
  | zero => intro x h; exact h.elim
  | succ n ih =>
    intro x hx
    obtain ⟨s, hs⟩ := chosen (α := Int) (p := fun i r => Ev (fun k => spec_DepthOf.f k (x.f4.getD i z54).f0 (x.f4.getD i z54).f1 (x.f4.getD i z54).f2 (x.f4.getD i z54).f3 (x.f4.getD i z54).f4) r ∧ Ev (fun k => impl_DepthOf.f k (x.f4.getD i z54).f0 (x.f4.getD i z54).f1 (x.f4.getD i z54).f2 (x.f4.getD i z54).f3 (x.f4.getD i z54).f4) r) (n := x.f4.length) (fun i hi => ih _ (hx.2 _ (getD_mem _ _ _ hi)))
    obtain ⟨r, h1, h2⟩ := two_loops (σ := Int) (τ := Int) x.f4.length (fun k s i => spec_DepthOf.l0 k s i x.f0 x.f1 x.f2 x.f3 x.f4) (fun k s i => impl_DepthOf.l0 k s x.f4 (x.f4.length : Int) i) (fun _ s t => s = t)
      (fun i a b hi hab => by
        subst hab
        obtain ⟨⟨K, hK⟩, ⟨K', hK'⟩⟩ := hs i hi
        have hl := hx.1
        refine Or.inl ⟨mx a (s i), mx a (s i), rfl, ⟨K, fun k hk => ?_⟩, ⟨K', fun k hk => ?_⟩⟩
        · have e := hK k hk
          dsimp only at e
          simp only [spec_DepthOf.l0]
          rw [if_pos (by omega), if_pos (by omega), rdG, e]
          simp only [Option.bind_some, max_eq]
          rw [up64 (by omega)]
        · have e := hK' k hk
          dsimp only at e
          simp only [impl_DepthOf.l0]
          rw [if_pos (by omega), if_pos (by omega), if_pos (by omega), rdG, e]
          simp only [Option.bind_some]
          rw [up64 (by omega)])
      (fun a b hab => by
        subst hab
        exact ⟨wrap64 (a + 1), ⟨0, fun k _ => by simp only [spec_DepthOf.l0]; rw [if_neg (by omega)]⟩, ⟨0, fun k _ => by simp only [impl_DepthOf.l0]; rw [if_neg (by omega)]⟩⟩)
      x.f4.length 0 0 0 (by omega) (by omega) rfl
    exact ⟨r, Ev.next (f := fun k => spec_DepthOf.l0 k 0 0 x.f0 x.f1 x.f2 x.f3 x.f4) ⟨0, fun k _ => by simp only [spec_DepthOf.f]⟩ h1, Ev.next (f := fun k => impl_DepthOf.l0 k 0 x.f4 (x.f4.length : Int) 0) ⟨0, fun k _ => by simp only [impl_DepthOf.f]⟩ h2⟩


theorem FnExactDepthOf : laws_FnExactDepthOf.Pure := by
  intro a0 a1 a2 a3 l hB
  obtain ⟨n, hn⟩ := hB
  obtain ⟨r, e1, hr⟩ := ev_szFormula n _ hn 1048576 (by omega) (by omega)
  rcases hr with hr | ⟨_, _, hL⟩
  · obtain ⟨k, h1⟩ := Evt.ex e1
    dsimp only at h1
    exact ⟨k, by unfold laws_FnExactDepthOf.f; rw [h1]; simp only [Option.bind_some]; rw [if_pos hr]⟩
  · obtain ⟨y, hy, e2⟩ := ev_toFormula n _ hL
    obtain ⟨s, e3, e4⟩ := ev_DepthOf n y hy
    obtain ⟨k, h1, h2, h3, h4, h5⟩ := (Evt.and e1 (Evt.and e2 (Evt.and e3 (Evt.and e4 (ev_eqFormula n y hy))))).ex
    dsimp only at h1 h2 h3 h4 h5
    refine ⟨k, ?_⟩
    unfold laws_FnExactDepthOf.f
    rw [h1]
    simp only [Option.bind_some]
    rw [if_neg (by omega)]
    simp only [h2, h3, h4, h5, Option.bind_some, if_true]

end Go.Proofs.Ytnckhddciedceaa.Pure.LFnExactDepthOf
namespace Go.Proofs.Ytnckhddciedceaa.Pure
open Go.Proofs.Ytnckhddciedceaa.PFnExactDepthOf
theorem FnExactDepthOf : laws_FnExactDepthOf.Pure := LFnExactDepthOf.FnExactDepthOf
end Go.Proofs.Ytnckhddciedceaa.Pure
