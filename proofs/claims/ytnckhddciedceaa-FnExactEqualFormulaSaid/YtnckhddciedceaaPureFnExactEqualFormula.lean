/-
  The pure statement of laws.FnExactEqualFormula: what the printed functions compute makes the law answer true, for every argument of its kinds (no further condition).
-/
import Derived.Test.YtnckhddciedceaaPFnExactEqualFormulax5
import Derived.Test.YtnckhddciedceaaXPure
namespace Go.Proofs.Ytnckhddciedceaa.Pure.LFnExactEqualFormula
open Go.RowKit Go.Proofs.Ytnckhddciedceaa.PFnExactEqualFormula Go.Proofs.YtnckhddciedceaaW.PrintWords Go.Proofs.YtnckhddciedceaaW.PrintLast Go.Proofs.YtnckhddciedceaaX
set_option linter.unusedVariables false
set_option linter.unusedSimpArgs false

theorem rdF (l : List S49) (i : Nat) : rd_T49 l (i : Int) = l.getD i z49 := by unfold rd_T49; rw [Int.toNat_natCast]
theorem rdG (l : List S54) (i : Nat) : rd_T54 l (i : Int) = l.getD i z54 := by unfold rd_T54; rw [Int.toNat_natCast]

theorem etaG (y : S54) : (⟨y.f0, y.f1, y.f2, y.f3, y.f4⟩ : S54) = y := by cases y; rfl

/-- all lists inside are short, so many levels deep -/
def LF : Nat → S49 → Prop
  | 0, _ => False
  | n + 1, x => x.f4.length ≤ 1048576 ∧ ∀ y ∈ x.f4, LF n y
def LG : Nat → S54 → Prop
  | 0, _ => False
  | n + 1, x => x.f4.length ≤ 1048576 ∧ ∀ y ∈ x.f4, LG n y

theorem ev_szFormula : ∀ (n : Nat) (x : S49), B49n n x → ∀ a : Int, 0 ≤ a → a ≤ 1048576 →
    ∃ r, Ev (fun k => laws_szFormula.f k x.f0 x.f1 x.f2 x.f3 x.f4 a) r ∧ (r < 0 ∨ (0 ≤ r ∧ r ≤ a ∧ LF n x)) := by
  intro n
  induction n with
  | zero => intro x h; exact h.elim
  | succ n ih =>
    intro x hx a h0 h1
    have hm : maxLen = 9223372036854775807 := rfl
    have hl : x.f4.length ≤ maxLen ∧ ∀ y ∈ x.f4, B49n n y := hx.2.2.2.2
    have hw : wrap64 (a - (x.f4.length : Int)) = a - x.f4.length := w64 (by omega) (by omega)
    have key : ∃ r, Ev (fun k => laws_szFormulaS.f k x.f4 a) r ∧ (r < 0 ∨ (0 ≤ r ∧ r ≤ a ∧ LF (n + 1) x)) := by
      by_cases c : a - (x.f4.length : Int) < 0
      · exact ⟨-1, Ev.last ⟨0, fun k _ => by simp only [laws_szFormulaS.f]; rw [hw, if_pos c]⟩, Or.inl (by omega)⟩
      · obtain ⟨r, hr, he⟩ := loop_ev (σ := Int) x.f4.length (fun k s i => laws_szFormulaS.l0 k x.f4 s i) (fun i s => 0 ≤ s ∧ s ≤ a ∧ ∀ j, j < i → LF n (x.f4.getD j z49))
          (fun r => r < 0 ∨ (0 ≤ r ∧ r ≤ a ∧ LF (n + 1) x))
          (fun i s hi ⟨s0, s1, hj⟩ => by
            obtain ⟨r, ⟨K, hK⟩, hr⟩ := ih (x.f4.getD i z49) (hl.2 _ (getD_mem _ _ _ hi)) s s0 (by omega)
            rcases hr with hr | ⟨g0, g1, g2⟩
            · refine Or.inr ⟨-1, Or.inl (by omega), K, fun k hk => ?_⟩
              have e := hK k hk
              dsimp only at e
              simp only [laws_szFormulaS.l0]
              rw [if_pos (by omega), if_pos (by omega), rdF, e]
              simp only [Option.bind_some]
              rw [if_pos hr]
            · refine Or.inl ⟨r, ⟨g0, by omega, fun j hj' => ?_⟩, K, fun k hk => ?_⟩
              · by_cases ej : j = i
                · subst ej; exact g2
                · exact hj j (by omega)
              · have e := hK k hk
                dsimp only at e
                simp only [laws_szFormulaS.l0]
                rw [if_pos (by omega), if_pos (by omega), rdF, e]
                simp only [Option.bind_some]
                rw [if_neg (by omega), up64 (by omega)])
          (fun s ⟨s0, s1, hj⟩ => ⟨s, Or.inr ⟨s0, s1, by omega, fun y hy => by
            obtain ⟨j, hj1, rfl⟩ := List.getElem_of_mem hy
            have := hj j hj1
            rwa [get_rep _ _ _ hj1] at this⟩, 0, fun k _ => by simp only [laws_szFormulaS.l0]; rw [if_neg (by omega)]⟩)
          x.f4.length 0 (a - x.f4.length) (by omega) (by omega) ⟨by omega, by omega, fun j hj => by omega⟩
        refine ⟨r, Ev.next (f := fun k => laws_szFormulaS.l0 k x.f4 (a - x.f4.length) 0) ⟨0, fun k _ => by simp only [laws_szFormulaS.f]; rw [hw, if_neg c]⟩ he, hr⟩
    obtain ⟨r, ⟨K, hK⟩, hr⟩ := key
    rcases hr with hr | hr
    · refine ⟨-1, Ev.last ⟨K, fun k hk => ?_⟩, Or.inl (by omega)⟩
      have e := hK k hk
      dsimp only at e
      simp only [laws_szFormula.f]
      rw [e]
      simp only [Option.bind_some]
      rw [if_pos hr]
    · refine ⟨r, Ev.last ⟨K, fun k hk => ?_⟩, Or.inr hr⟩
      have e := hK k hk
      dsimp only at e
      simp only [laws_szFormula.f]
      rw [e]
      simp only [Option.bind_some]
      rw [if_neg (by omega)]

instance : Inhabited S54 := ⟨z54⟩

theorem ev_toFormula : ∀ (n : Nat) (x : S49), LF n x → ∃ y : S54, LG n y ∧ Ev (fun k => laws_toFormula.f k x.f0 x.f1 x.f2 x.f3 x.f4) (y.f0, y.f1, y.f2, y.f3, y.f4) := by
  intro n
  induction n with
  | zero => intro x h; exact h.elim
  | succ n ih =>
    intro x hx
    obtain ⟨g, hg⟩ := chosen (α := S54) (p := fun i y => LG n y ∧ Ev (fun k => laws_toFormula.f k (x.f4.getD i z49).f0 (x.f4.getD i z49).f1 (x.f4.getD i z49).f2 (x.f4.getD i z49).f3 (x.f4.getD i z49).f4) (y.f0, y.f1, y.f2, y.f3, y.f4)) (n := x.f4.length) (fun i hi => ih _ (hx.2 _ (getD_mem _ _ _ hi)))
    obtain ⟨K, hc⟩ := copy_loop x.f4.length (by have := hx.1; omega) g z54 (fun k ys i => laws_toFormulaS.l0 k x.f4 ys i)
      (fun i ys hi hl => by
        obtain ⟨K, hK⟩ := (hg i hi).2
        refine ⟨K, fun k hk => ?_⟩
        have e := hK k hk
        dsimp only at e
        simp only [laws_toFormulaS.l0]
        rw [if_pos (by omega), if_pos (by omega), rdF, e]
        simp only [Option.bind_some]
        rw [if_pos (by omega), Int.toNat_natCast, etaG])
      (fun ys hl => ⟨0, fun k _ => by simp only [laws_toFormulaS.l0]; rw [if_neg (by omega)]⟩)
    refine ⟨⟨x.f0, x.f1, x.f2, x.f3, (List.range x.f4.length).map g⟩, ⟨by simpa using hx.1, fun y hy => ?_⟩, Ev.next (f := fun k => (laws_toFormulaS.f k x.f4).bind fun t => some (x.f0, x.f1, x.f2, x.f3, t)) ⟨0, fun k _ => by simp only [laws_toFormula.f]⟩ (Ev.last ⟨K, fun k hk => ?_⟩)⟩
    · obtain ⟨i, hi, rfl⟩ := List.mem_map.mp hy
      exact (hg i (List.mem_range.mp hi)).1
    · have e := hc k hk
      dsimp only at e ⊢
      simp only [laws_toFormulaS.f]
      rw [if_pos (by omega), if_pos (by have := hx.1; rw [Int.toNat_natCast]; omega), Int.toNat_natCast, e]
      rfl

theorem ev_eqFormula : ∀ (n : Nat) (x : S54), LG n x → Ev (fun k => laws_eqFormula.f k x.f0 x.f1 x.f2 x.f3 x.f4 x.f0 x.f1 x.f2 x.f3 x.f4) true := by
  intro n
  induction n with
  | zero => intro x h; exact h.elim
  | succ n ih =>
    intro x hx
    have hc := all_true x.f4.length (by have := hx.1; omega) (fun k i => laws_eqFormulaS.l0 k x.f4 x.f4 i) true
      (fun i hi => by
        obtain ⟨K, hK⟩ := ih (x.f4.getD i z54) (hx.2 _ (getD_mem _ _ _ hi))
        refine ⟨K, fun k hk => ?_⟩
        have e := hK k hk
        dsimp only at e
        simp only [laws_eqFormulaS.l0]
        rw [if_pos (by omega), if_pos (by omega), if_pos (by omega), rdG, e]
        simp only [Option.bind_some, if_true])
      ⟨0, fun k _ => by simp only [laws_eqFormulaS.l0]; rw [if_neg (by omega)]⟩
    obtain ⟨K, hK⟩ : Ev (fun k => laws_eqFormulaS.f k x.f4 x.f4) true := Ev.next (f := fun k => laws_eqFormulaS.l0 k x.f4 x.f4 0) ⟨0, fun k _ => by simp only [laws_eqFormulaS.f, if_true]⟩ hc
    refine Ev.last ⟨K, fun k hk => ?_⟩
    have e := hK k hk
    dsimp only at e
    simp only [laws_eqFormula.f, if_true]
    rw [e]
    rfl


theorem ev_both : ∀ (n : Nat) (x : S54), LG n x → ∀ y : S54, ∃ r, Ev (fun k => spec_EqualFormula.f k x.f0 x.f1 x.f2 x.f3 x.f4 y.f0 y.f1 y.f2 y.f3 y.f4) r ∧ Ev (fun k => impl_EqualFormula.f k x.f0 x.f1 x.f2 x.f3 x.f4 y.f0 y.f1 y.f2 y.f3 y.f4) r := by
  intro n
  induction n with
  | zero => intro x h; exact h.elim
  | succ n ih =>
    intro x hx y
    by_cases c0 : x.f0 = y.f0 ∧ x.f1 = y.f1 ∧ x.f2 = y.f2 ∧ x.f3 = y.f3 ∧ (x.f4.length : Int) = (y.f4.length : Int)
    · obtain ⟨c1, c2, c3, c4, c5⟩ := c0
      have hlen := hx.1
      obtain ⟨g, hg⟩ := chosen (α := Bool) (p := fun i r => Ev (fun k => spec_EqualFormula.f k (x.f4.getD i z54).f0 (x.f4.getD i z54).f1 (x.f4.getD i z54).f2 (x.f4.getD i z54).f3 (x.f4.getD i z54).f4 (y.f4.getD i z54).f0 (y.f4.getD i z54).f1 (y.f4.getD i z54).f2 (y.f4.getD i z54).f3 (y.f4.getD i z54).f4) r ∧ Ev (fun k => impl_EqualFormula.f k (x.f4.getD i z54).f0 (x.f4.getD i z54).f1 (x.f4.getD i z54).f2 (x.f4.getD i z54).f3 (x.f4.getD i z54).f4 (y.f4.getD i z54).f0 (y.f4.getD i z54).f1 (y.f4.getD i z54).f2 (y.f4.getD i z54).f3 (y.f4.getD i z54).f4) r) (n := x.f4.length) (fun i hi => ih _ (hx.2 _ (getD_mem _ _ _ hi)) _)
      have hs := all_loop x.f4.length (by omega) (fun i => g i = true) (fun k i => spec_EqualFormula.l0 k i x.f0 x.f1 x.f2 x.f3 x.f4 y.f0 y.f1 y.f2 y.f3 y.f4) true false
        (fun i hi hT => by
          obtain ⟨K, hK⟩ := (hg i hi).1
          refine ⟨K, fun k hk => ?_⟩
          have e := hK k hk
          dsimp only at e
          simp only [spec_EqualFormula.l0]
          rw [if_pos (by omega), if_pos (by omega), if_pos (by omega), rdG, rdG, e]
          simp only [Option.bind_some]
          rw [if_pos hT])
        (fun i hi hT => by
          obtain ⟨K, hK⟩ := (hg i hi).1
          refine ⟨K, fun k hk => ?_⟩
          have e := hK k hk
          dsimp only at e
          simp only [spec_EqualFormula.l0]
          rw [if_pos (by omega), if_pos (by omega), if_pos (by omega), rdG, rdG, e]
          simp only [Option.bind_some]
          rw [if_neg hT])
        ⟨0, fun k _ => by simp only [spec_EqualFormula.l0]; rw [if_neg (by omega)]⟩ (decide (∀ i : Nat, i < x.f4.length → g i = true)) (by rw [if_and_false, Bool.and_true])
      have hi := all_loop x.f4.length (by omega) (fun i => g i = true) (fun k i => impl_Formula_EqualFormula.l0 k y.f4 x.f4 (x.f4.length : Int) i) true false
        (fun i hi hT => by
          obtain ⟨K, hK⟩ := (hg i hi).2
          refine ⟨K, fun k hk => ?_⟩
          have e := hK k hk
          dsimp only at e
          simp only [impl_Formula_EqualFormula.l0]
          rw [if_pos (by omega), if_pos (by omega), if_pos (by omega), if_pos (by omega), rdG, rdG, e]
          simp only [Option.bind_some]
          rw [if_pos hT])
        (fun i hi hT => by
          obtain ⟨K, hK⟩ := (hg i hi).2
          refine ⟨K, fun k hk => ?_⟩
          have e := hK k hk
          dsimp only at e
          simp only [impl_Formula_EqualFormula.l0]
          rw [if_pos (by omega), if_pos (by omega), if_pos (by omega), if_pos (by omega), rdG, rdG, e]
          simp only [Option.bind_some]
          rw [if_neg hT])
        ⟨0, fun k _ => by simp only [impl_Formula_EqualFormula.l0]; rw [if_neg (by omega)]⟩ (decide (∀ i : Nat, i < x.f4.length → g i = true)) (by rw [if_and_false, Bool.and_true])
      have e5 : ((x.f4.length : Int) != (y.f4.length : Int)) = false := bne_eq_false_iff_eq.mpr c5
      refine ⟨decide (∀ i : Nat, i < x.f4.length → g i = true), ?_, ?_⟩
      · refine Ev.next (f := fun k => spec_EqualFormula.j0 k false x.f0 x.f1 x.f2 x.f3 x.f4 y.f0 y.f1 y.f2 y.f3 y.f4) ⟨0, fun k _ => ?_⟩ (Ev.next (f := fun k => spec_EqualFormula.l0 k 0 x.f0 x.f1 x.f2 x.f3 x.f4 y.f0 y.f1 y.f2 y.f3 y.f4) ⟨0, fun k _ => ?_⟩ hs)
        · simp only [spec_EqualFormula.f]
          rw [if_pos c1, if_pos c2, if_pos c3, if_pos c4, e5]
        · simp only [spec_EqualFormula.j0]
          rw [if_neg (by decide)]
      · refine Ev.next (f := fun k => (impl_Formula_EqualFormula.f k x.f4 y.f4).bind fun t => some t) ⟨0, fun k _ => ?_⟩ ?_
        · simp only [impl_EqualFormula.f]
          rw [if_pos c1, if_pos c2, if_pos c3, if_pos c4]
        · obtain ⟨K, hK⟩ := Ev.next (g := fun k => impl_Formula_EqualFormula.f k x.f4 y.f4) (f := fun k => impl_Formula_EqualFormula.l0 k y.f4 x.f4 (x.f4.length : Int) 0) ⟨0, fun k _ => by simp only [impl_Formula_EqualFormula.f]; rw [if_pos c5]⟩ hi
          exact ⟨K, fun k hk => by have e := hK k hk; dsimp only at e ⊢; rw [e]; rfl⟩
    · refine ⟨false, ?_, ?_⟩
      · refine Ev.next (f := fun k => spec_EqualFormula.j0 k true x.f0 x.f1 x.f2 x.f3 x.f4 y.f0 y.f1 y.f2 y.f3 y.f4) ⟨0, fun k _ => ?_⟩ (Ev.last ⟨0, fun k _ => by simp only [spec_EqualFormula.j0, if_true]⟩)
        simp only [spec_EqualFormula.f]
        by_cases c1 : x.f0 = y.f0
        · rw [if_pos c1]
          by_cases c2 : x.f1 = y.f1
          · rw [if_pos c2]
            by_cases c3 : x.f2 = y.f2
            · rw [if_pos c3]
              by_cases c4 : x.f3 = y.f3
              · rw [if_pos c4]
                have e5 : ((x.f4.length : Int) != (y.f4.length : Int)) = true := bne_iff_ne.mpr (fun c5 => c0 ⟨c1, c2, c3, c4, c5⟩)
                rw [e5]
              · rw [if_neg c4]
            · rw [if_neg c3]
          · rw [if_neg c2]
        · rw [if_neg c1]
      · refine Ev.last ⟨1, fun k hk => ?_⟩
        simp only [impl_EqualFormula.f]
        by_cases c1 : x.f0 = y.f0
        · rw [if_pos c1]
          by_cases c2 : x.f1 = y.f1
          · rw [if_pos c2]
            by_cases c3 : x.f2 = y.f2
            · rw [if_pos c3]
              by_cases c4 : x.f3 = y.f3
              · rw [if_pos c4]
                obtain ⟨k, rfl⟩ : ∃ m, k = m + 1 := ⟨k - 1, by omega⟩
                simp only [impl_Formula_EqualFormula.f]
                rw [if_neg (fun c5 => c0 ⟨c1, c2, c3, c4, c5⟩)]
                rfl
              · rw [if_neg c4]
            · rw [if_neg c3]
          · rw [if_neg c2]
        · rw [if_neg c1]

theorem FnExactEqualFormula : laws_FnExactEqualFormula.Pure := by
  intro a0 a1 a2 a3 l b0 b1 b2 b3 m hB hB'
  obtain ⟨n, hn⟩ := hB
  obtain ⟨n', hn'⟩ := hB'
  obtain ⟨r, e1, hr⟩ := ev_szFormula n ⟨a0, a1, a2, a3, l⟩ hn 1048576 (by omega) (by omega)
  dsimp only at e1
  rcases hr with hr | ⟨r0, r1, hL⟩
  · obtain ⟨k, h1⟩ := Evt.ex e1
    dsimp only at h1
    exact ⟨k, by unfold laws_FnExactEqualFormula.f; rw [h1]; simp only [Option.bind_some]; rw [if_pos hr]⟩
  obtain ⟨r', e2, hr'⟩ := ev_szFormula n' ⟨b0, b1, b2, b3, m⟩ hn' r (by omega) (by omega)
  dsimp only at e2
  rcases hr' with hr' | ⟨r0', r1', hL'⟩
  · obtain ⟨k, h1, h2⟩ := (Evt.and e1 e2).ex
    dsimp only at h1 h2
    exact ⟨k, by unfold laws_FnExactEqualFormula.f; rw [h1]; simp only [Option.bind_some]; rw [if_neg (by omega), h2]; simp only [Option.bind_some]; rw [if_pos hr']⟩
  obtain ⟨x, hx, e3⟩ := ev_toFormula n ⟨a0, a1, a2, a3, l⟩ hL
  obtain ⟨y, hy, e4⟩ := ev_toFormula n' ⟨b0, b1, b2, b3, m⟩ hL'
  dsimp only at e3 e4
  obtain ⟨q, e5, e6⟩ := ev_both n x hx y
  obtain ⟨k, h1, h2, h3, h4, h5, h6, h7, h8⟩ := (Evt.and e1 (Evt.and e2 (Evt.and e3 (Evt.and e4 (Evt.and e5 (Evt.and e6 (Evt.and (ev_eqFormula n x hx) (ev_eqFormula n' y hy)))))))).ex
  dsimp only at h1 h2 h3 h4 h5 h6 h7 h8
  refine ⟨k, ?_⟩
  unfold laws_FnExactEqualFormula.f
  rw [h1]
  simp only [Option.bind_some]
  rw [if_neg (by omega), h2]
  simp only [Option.bind_some]
  rw [if_neg (by omega)]
  simp only [h3, h4, h5, h6, h7, h8, Option.bind_some, if_true]
  simp

end Go.Proofs.Ytnckhddciedceaa.Pure.LFnExactEqualFormula
namespace Go.Proofs.Ytnckhddciedceaa.Pure
open Go.Proofs.Ytnckhddciedceaa.PFnExactEqualFormula
theorem FnExactEqualFormula : laws_FnExactEqualFormula.Pure := LFnExactEqualFormula.FnExactEqualFormula
end Go.Proofs.Ytnckhddciedceaa.Pure
