/- A part of the walk through the printed functions; no condition. -/
import Derived.Test.YtoljagpjejpmpaaXAuto
import Derived.Test.YtoljagpjejpmpaaPFnExactParseFormulax0
namespace Go.Proofs.Ytoljagpjejpmpaa.PFnExactParseFormula
open Go.RowKit Go.Proofs.YtoljagpjejpmpaaW.PrintWords Go.Proofs.YtoljagpjejpmpaaW.PrintLast Go.Proofs.YtoljagpjejpmpaaW.PrintMore
attribute [local go_sem] max2_int min2_int max_two min_two max_three min_three max_four min_four
set_option maxHeartbeats 32000000
set_option maxRecDepth 100000
attribute [local irreducible] Go.World.setCell
set_option linter.unusedVariables false
set_option linter.unusedSimpArgs false
open Go.Proofs.YtoljagpjejpmpaaW.PrintWords.Aside0 renaming mk → Qa
open Go.RowKit renaming wrap64 → Qg
open Go.Proofs.YtoljagpjejpmpaaW.PrintWords.Drawn0 renaming refl → Qi, step → Qj
mutual
def laws_heldFormulaS.l0 : Nat → List (S32) → Int → Int → Option (Int)
 | 0, _, _, _ => none
 | k + 1, x0, x1, x5 => if x5 < (x0.length : Int) then (if 0 ≤ x5 then (if ((rd_T32 x0 x5).f0) = x1 then (if ((rd_T32 x0 x5).f1) = (Qg (x1 + 1)) then (if ((rd_T32 x0 x5).f2) = (Qg ((Qg (x1 + 1)) + 1)) then (if ((rd_T32 x0 x5).f3) = (Qg ((Qg ((Qg (x1 + 1)) + 1)) + 1)) then ((laws_heldFormulaS.f k ((rd_T32 x0 x5).f4) (Qg ((Qg ((Qg ((Qg (x1 + 1)) + 1)) + 1)) + 1))).bind fun t18 => (if t18 < 0 then (some (-1)) else (laws_heldFormulaS.l0 k x0 t18 (Qg (x5 + 1))))) else (some (-1))) else (some (-1))) else (some (-1))) else (some (-1))) else (none)) else (some x1)
def laws_heldFormulaS.f : Nat → List (S32) → Int → Option (Int)
 | 0, _, _ => none
 | k + 1, l0, a1 => laws_heldFormulaS.l0 k l0 a1 0
end
theorem laws_heldFormulaS.mono_l : ∀ k, (∀ y0 y1, LeO (laws_heldFormulaS.f k y0 y1) (laws_heldFormulaS.f (k + 1) y0 y1)) ∧ (∀ y0 y1 y2, LeO (laws_heldFormulaS.l0 k y0 y1 y2) (laws_heldFormulaS.l0 (k + 1) y0 y1 y2))
 | 0 => ⟨fun _ _ r h => by simp [laws_heldFormulaS.f] at h, fun _ _ _ r h => by simp [laws_heldFormulaS.l0] at h⟩
 | k + 1 => by
  obtain ⟨ih0, ih1⟩ := laws_heldFormulaS.mono_l k; refine ⟨?_, ?_⟩
  ·intro y0 y1; unfold laws_heldFormulaS.f; exact Lm2 ih0 ih1
  ·intro y0 y1 y2; unfold laws_heldFormulaS.l0; exact Lm2 ih0 ih1
theorem laws_heldFormulaS.mono : ∀ a0 a1 k, LeO (laws_heldFormulaS.f k a0 a1) (laws_heldFormulaS.f (k + 1) a0 a1) := by
 intro a0 a1 k
 obtain ⟨ih0, ih1⟩ := laws_heldFormulaS.mono_l k
 exact ih0 a0 a1
theorem laws_heldFormulaS.calls (k : Nat) : ∀ (A0 : Option Addr) (c0 : Nat) (l0 : List (S32)) (a1 : Int) (r : Int) (w : World) (hr0 : Kd.C k32 w A0 l0.length l0) (hc0 : l0.length ≤ c0) (h : laws_heldFormulaS.f k l0 a1 = some r),
  Calls Try.prog 58 #[.slice A0 l0.length c0, .int .i64 a1] w fun e w' => e = .returned (.int .i64 r) ∧ Drawn0 w w' := by
 induction k using Nat.strongRecOn with
 | _ k ih =>
 intro A0 c0 l0 a1 r w hr0 hc0 h
 cases k with
 | zero => exact absurd h (by simp [laws_heldFormulaS.f])
 | succ k =>
 simp only [laws_heldFormulaS.f] at h
 have HR0 := Qa hr0
 have HC0 := Qa hc0
 clear hr0 hc0
 have H : (laws_heldFormulaS.l0 k l0 a1 0) = some r := h
 clear h
 have H' := Qa H
 clear H
 go_enter Try.func58, Try.ntmps58
 go_wp2
 go_loopg [1, 5] k (fun kq v1 v5 w' => ∃ (x1_1 : Int) (x5_1 : Int), v1 = .int .i64 x1_1 ∧ v5 = .int .i64 x5_1 ∧ Aside0 (laws_heldFormulaS.l0 kq l0 x1_1 x5_1 = some r) ∧ Aside0 (kq ≤ k) ∧ Drawn0 w w')
 case atStart => exact ⟨(a1), (0), Zf, Zf, H', ⟨Nat.le_refl _⟩, by repeat (first | exact Qi _ | apply Qj)⟩
 case round =>
  clear H'; (try clear p2)
  obtain ⟨x1_1, x5_1, rfl, rfl, HA, HK1, ⟨m1, rfl⟩⟩ := hrel; cases gk with
  | zero => exact absurd HA.out (by simp [laws_heldFormulaS.l0])
  | succ k1 =>
   have H := HA.out; clear HA; simp only [laws_heldFormulaS.l0] at H; by_cases c3 : x5_1 < (l0.length : Int)
   ·rw [if_pos c3] at H; replace c3 := decide_eq_true c3; by_cases c4 : 0 ≤ x5_1
    ·rw [if_pos c4] at H; replace c4 := decide_eq_true c4; by_cases c5 : ((rd_T32 l0 x5_1).f0) = x1_1
     ·rw [if_pos c5] at H; have c5b0 := beq_iff_eq.mpr c5; have c5b1 := bne_eq_false_iff_eq.mpr c5; clear c5; by_cases c6 : ((rd_T32 l0 x5_1).f1) = (Qg (x1_1 + 1))
      ·rw [if_pos c6] at H; have c6b0 := beq_iff_eq.mpr c6; have c6b1 := bne_eq_false_iff_eq.mpr c6; clear c6; by_cases c7 : ((rd_T32 l0 x5_1).f2) = (Qg ((Qg (x1_1 + 1)) + 1))
       ·rw [if_pos c7] at H; have c7b0 := beq_iff_eq.mpr c7; have c7b1 := bne_eq_false_iff_eq.mpr c7; clear c7; by_cases c8 : ((rd_T32 l0 x5_1).f3) = (Qg ((Qg ((Qg (x1_1 + 1)) + 1)) + 1))
        ·rw [if_pos c8] at H; have c8b0 := beq_iff_eq.mpr c8; have c8b1 := bne_eq_false_iff_eq.mpr c8; clear c8; obtain ⟨t18, A9, H⟩ := Ob H; (try dsimp only at H)
         by_cases c10 : t18 < 0
         ·rw [if_pos c10] at H; replace c10 := decide_eq_true c10; obtain rfl := Option.some.inj H; have p11 : 0 ≤ (x5_1 : Int) := Da; have q11 : x5_1 < (l0.length : Int) := Da; obtain ⟨ad11, A11_4, c589_4, e11, hx11_0, hx11_1, hx11_2, hx11_3, hx11_4, hl589_4, hi589_4⟩ := at_T32 HR0.out x5_1 p11 q11; cases e11
          have HR11_4 := Qa hi589_4; have HC589_4 := Qa hl589_4; clear hi589_4 hl589_4; replace p11 := eq_true p11; replace q11 := eq_true q11; have p12 : 0 ≤ (x5_1 : Int) := Da; have q12 : x5_1 < (l0.length : Int) := Da; obtain ⟨ad12, A12_4, c590_4, e12, hx12_0, hx12_1, hx12_2, hx12_3, hx12_4, hl590_4, hi590_4⟩ := at_T32 HR0.out x5_1 p12 q12; obtain rfl : ad11 = ad12 := (by injection e12); have HR12_4 := Qa hi590_4; have HC590_4 := Qa hl590_4; clear hi590_4 hl590_4; replace p12 := eq_true p12; replace q12 := eq_true q12; have ea_ := Option.some.inj (hx11_4.symm.trans hx12_4); injection ea_ with ea_ en_ ec_; subst ea_; subst ec_; clear en_; have p13 : 0 ≤ (x5_1 : Int) := Da; have q13 : x5_1 < (l0.length : Int) := Da; obtain ⟨ad13, A13_4, c591_4, e13, hx13_0, hx13_1, hx13_2, hx13_3, hx13_4, hl591_4, hi591_4⟩ := at_T32 HR0.out x5_1 p13 q13; obtain rfl : ad11 = ad13 := (by injection e13); have HR13_4 := Qa hi591_4; have HC591_4 := Qa hl591_4; clear hi591_4 hl591_4; replace p13 := eq_true p13; replace q13 := eq_true q13; have ea_ := Option.some.inj (hx11_4.symm.trans hx13_4); injection ea_ with ea_ en_ ec_; subst ea_; subst ec_; clear en_; have p14 : 0 ≤ (x5_1 : Int) := Da; have q14 : x5_1 < (l0.length : Int) := Da; obtain ⟨ad14, A14_4, c592_4, e14, hx14_0, hx14_1, hx14_2, hx14_3, hx14_4, hl592_4, hi592_4⟩ := at_T32 HR0.out x5_1 p14 q14; obtain rfl : ad11 = ad14 := (by injection e14); have HR14_4 := Qa hi592_4; have HC592_4 := Qa hl592_4; clear hi592_4 hl592_4; replace p14 := eq_true p14; replace q14 := eq_true q14; have ea_ := Option.some.inj (hx11_4.symm.trans hx14_4); injection ea_ with ea_ en_ ec_; subst ea_; subst ec_; clear en_; have p15 : 0 ≤ (x5_1 : Int) := Da; have q15 : x5_1 < (l0.length : Int) := Da; obtain ⟨ad15, A15_4, c593_4, e15, hx15_0, hx15_1, hx15_2, hx15_3, hx15_4, hl593_4, hi593_4⟩ := at_T32 HR0.out x5_1 p15 q15; obtain rfl : ad11 = ad15 := (by injection e15); have HR15_4 := Qa hi593_4; have HC593_4 := Qa hl593_4; clear hi593_4 hl593_4; replace p15 := eq_true p15; replace q15 := eq_true q15; have ea_ := Option.some.inj (hx11_4.symm.trans hx15_4); injection ea_ with ea_ en_ ec_; subst ea_; subst ec_; clear en_; go_wp2_with (first | ((with_reducible refine gate_callee (f := 58) rfl ?_); refine Gl 54 Try.func58 #[.slice A11_4 ((rd_T32 l0 x5_1).f4).length c589_4, .int .i64 (Qg ((Qg ((Qg ((Qg (x1_1 + 1)) + 1)) + 1)) + 1))] ?_; (with_reducible refine (ih k1 (by have := HK1.out; omega) _ _ ((rd_T32 l0 x5_1).f4) (Qg ((Qg ((Qg ((Qg (x1_1 + 1)) + 1)) + 1)) + 1)) t18 _ ?_ ?_ A9.out).mono ?_); exact Bc HR15_4.out; exact HC593_4.out; rintro e w' ⟨rfl, ⟨nd, rfl⟩⟩; refine ⟨_, rfl, ?_⟩)); go_ret; exact ⟨by first | rfl | (simp; done) | (simp [*]; done), by repeat (first | exact Qi _ | apply Qj)⟩
         ·rw [if_neg c10] at H; replace c10 := decide_eq_false c10; have H' := Qa H; clear H; have p11 : 0 ≤ (x5_1 : Int) := Da; have q11 : x5_1 < (l0.length : Int) := Da; obtain ⟨ad11, A11_4, c589_4, e11, hx11_0, hx11_1, hx11_2, hx11_3, hx11_4, hl589_4, hi589_4⟩ := at_T32 HR0.out x5_1 p11 q11; cases e11
          have HR11_4 := Qa hi589_4; have HC589_4 := Qa hl589_4; clear hi589_4 hl589_4; replace p11 := eq_true p11; replace q11 := eq_true q11; have p12 : 0 ≤ (x5_1 : Int) := Da; have q12 : x5_1 < (l0.length : Int) := Da; obtain ⟨ad12, A12_4, c590_4, e12, hx12_0, hx12_1, hx12_2, hx12_3, hx12_4, hl590_4, hi590_4⟩ := at_T32 HR0.out x5_1 p12 q12; obtain rfl : ad11 = ad12 := (by injection e12); have HR12_4 := Qa hi590_4; have HC590_4 := Qa hl590_4; clear hi590_4 hl590_4; replace p12 := eq_true p12; replace q12 := eq_true q12; have ea_ := Option.some.inj (hx11_4.symm.trans hx12_4); injection ea_ with ea_ en_ ec_; subst ea_; subst ec_; clear en_; have p13 : 0 ≤ (x5_1 : Int) := Da; have q13 : x5_1 < (l0.length : Int) := Da; obtain ⟨ad13, A13_4, c591_4, e13, hx13_0, hx13_1, hx13_2, hx13_3, hx13_4, hl591_4, hi591_4⟩ := at_T32 HR0.out x5_1 p13 q13; obtain rfl : ad11 = ad13 := (by injection e13); have HR13_4 := Qa hi591_4; have HC591_4 := Qa hl591_4; clear hi591_4 hl591_4; replace p13 := eq_true p13; replace q13 := eq_true q13; have ea_ := Option.some.inj (hx11_4.symm.trans hx13_4); injection ea_ with ea_ en_ ec_; subst ea_; subst ec_; clear en_; have p14 : 0 ≤ (x5_1 : Int) := Da; have q14 : x5_1 < (l0.length : Int) := Da; obtain ⟨ad14, A14_4, c592_4, e14, hx14_0, hx14_1, hx14_2, hx14_3, hx14_4, hl592_4, hi592_4⟩ := at_T32 HR0.out x5_1 p14 q14; obtain rfl : ad11 = ad14 := (by injection e14); have HR14_4 := Qa hi592_4; have HC592_4 := Qa hl592_4; clear hi592_4 hl592_4; replace p14 := eq_true p14; replace q14 := eq_true q14; have ea_ := Option.some.inj (hx11_4.symm.trans hx14_4); injection ea_ with ea_ en_ ec_; subst ea_; subst ec_; clear en_; have p15 : 0 ≤ (x5_1 : Int) := Da; have q15 : x5_1 < (l0.length : Int) := Da; obtain ⟨ad15, A15_4, c593_4, e15, hx15_0, hx15_1, hx15_2, hx15_3, hx15_4, hl593_4, hi593_4⟩ := at_T32 HR0.out x5_1 p15 q15; obtain rfl : ad11 = ad15 := (by injection e15); have HR15_4 := Qa hi593_4; have HC593_4 := Qa hl593_4; clear hi593_4 hl593_4; replace p15 := eq_true p15; replace q15 := eq_true q15; have ea_ := Option.some.inj (hx11_4.symm.trans hx15_4); injection ea_ with ea_ en_ ec_; subst ea_; subst ec_; clear en_; go_wp2_with (first | ((with_reducible refine gate_callee (f := 58) rfl ?_); refine Gl 54 Try.func58 #[.slice A11_4 ((rd_T32 l0 x5_1).f4).length c589_4, .int .i64 (Qg ((Qg ((Qg ((Qg (x1_1 + 1)) + 1)) + 1)) + 1))] ?_; (with_reducible refine (ih k1 (by have := HK1.out; omega) _ _ ((rd_T32 l0 x5_1).f4) (Qg ((Qg ((Qg ((Qg (x1_1 + 1)) + 1)) + 1)) + 1)) t18 _ ?_ ?_ A9.out).mono ?_); exact Bc HR15_4.out; exact HC593_4.out; rintro e w' ⟨rfl, ⟨nd, rfl⟩⟩; refine ⟨_, rfl, ?_⟩)); go_roundg k1
          case measure => have := HK1.out; omega
          case rel => exact ⟨(t18), (Qg (x5_1 + 1)), Zf, Zf, H', ⟨by have := HK1.out; omega⟩, by repeat (first | exact Qi _ | apply Qj)⟩
        ·rw [if_neg c8] at H; have c8b0 := beq_eq_false_iff_ne.mpr c8; have c8b1 := bne_iff_ne.mpr c8; obtain rfl := Option.some.inj H; have p11 : 0 ≤ (x5_1 : Int) := Da; have q11 : x5_1 < (l0.length : Int) := Da; obtain ⟨ad11, A11_4, c589_4, e11, hx11_0, hx11_1, hx11_2, hx11_3, hx11_4, hl589_4, hi589_4⟩ := at_T32 HR0.out x5_1 p11 q11; cases e11
         have HR11_4 := Qa hi589_4; have HC589_4 := Qa hl589_4; clear hi589_4 hl589_4; replace p11 := eq_true p11; replace q11 := eq_true q11; have p12 : 0 ≤ (x5_1 : Int) := Da; have q12 : x5_1 < (l0.length : Int) := Da; obtain ⟨ad12, A12_4, c590_4, e12, hx12_0, hx12_1, hx12_2, hx12_3, hx12_4, hl590_4, hi590_4⟩ := at_T32 HR0.out x5_1 p12 q12; obtain rfl : ad11 = ad12 := (by injection e12); have HR12_4 := Qa hi590_4; have HC590_4 := Qa hl590_4; clear hi590_4 hl590_4; replace p12 := eq_true p12; replace q12 := eq_true q12; have ea_ := Option.some.inj (hx11_4.symm.trans hx12_4); injection ea_ with ea_ en_ ec_; subst ea_; subst ec_; clear en_; have p13 : 0 ≤ (x5_1 : Int) := Da; have q13 : x5_1 < (l0.length : Int) := Da; obtain ⟨ad13, A13_4, c591_4, e13, hx13_0, hx13_1, hx13_2, hx13_3, hx13_4, hl591_4, hi591_4⟩ := at_T32 HR0.out x5_1 p13 q13; obtain rfl : ad11 = ad13 := (by injection e13); have HR13_4 := Qa hi591_4; have HC591_4 := Qa hl591_4; clear hi591_4 hl591_4; replace p13 := eq_true p13; replace q13 := eq_true q13; have ea_ := Option.some.inj (hx11_4.symm.trans hx13_4); injection ea_ with ea_ en_ ec_; subst ea_; subst ec_; clear en_; have p14 : 0 ≤ (x5_1 : Int) := Da; have q14 : x5_1 < (l0.length : Int) := Da; obtain ⟨ad14, A14_4, c592_4, e14, hx14_0, hx14_1, hx14_2, hx14_3, hx14_4, hl592_4, hi592_4⟩ := at_T32 HR0.out x5_1 p14 q14; obtain rfl : ad11 = ad14 := (by injection e14); have HR14_4 := Qa hi592_4; have HC592_4 := Qa hl592_4; clear hi592_4 hl592_4; replace p14 := eq_true p14; replace q14 := eq_true q14; have ea_ := Option.some.inj (hx11_4.symm.trans hx14_4); injection ea_ with ea_ en_ ec_; subst ea_; subst ec_; clear en_; go_wp2; go_ret; exact ⟨by first | rfl | (simp; done) | (simp [*]; done), by repeat (first | exact Qi _ | apply Qj)⟩
       ·rw [if_neg c7] at H; have c7b0 := beq_eq_false_iff_ne.mpr c7; have c7b1 := bne_iff_ne.mpr c7; obtain rfl := Option.some.inj H; have p11 : 0 ≤ (x5_1 : Int) := Da; have q11 : x5_1 < (l0.length : Int) := Da; obtain ⟨ad11, A11_4, c589_4, e11, hx11_0, hx11_1, hx11_2, hx11_3, hx11_4, hl589_4, hi589_4⟩ := at_T32 HR0.out x5_1 p11 q11; cases e11
        have HR11_4 := Qa hi589_4; have HC589_4 := Qa hl589_4; clear hi589_4 hl589_4; replace p11 := eq_true p11; replace q11 := eq_true q11; have p12 : 0 ≤ (x5_1 : Int) := Da; have q12 : x5_1 < (l0.length : Int) := Da; obtain ⟨ad12, A12_4, c590_4, e12, hx12_0, hx12_1, hx12_2, hx12_3, hx12_4, hl590_4, hi590_4⟩ := at_T32 HR0.out x5_1 p12 q12; obtain rfl : ad11 = ad12 := (by injection e12); have HR12_4 := Qa hi590_4; have HC590_4 := Qa hl590_4; clear hi590_4 hl590_4; replace p12 := eq_true p12; replace q12 := eq_true q12; have ea_ := Option.some.inj (hx11_4.symm.trans hx12_4); injection ea_ with ea_ en_ ec_; subst ea_; subst ec_; clear en_; have p13 : 0 ≤ (x5_1 : Int) := Da; have q13 : x5_1 < (l0.length : Int) := Da; obtain ⟨ad13, A13_4, c591_4, e13, hx13_0, hx13_1, hx13_2, hx13_3, hx13_4, hl591_4, hi591_4⟩ := at_T32 HR0.out x5_1 p13 q13; obtain rfl : ad11 = ad13 := (by injection e13); have HR13_4 := Qa hi591_4; have HC591_4 := Qa hl591_4; clear hi591_4 hl591_4; replace p13 := eq_true p13; replace q13 := eq_true q13; have ea_ := Option.some.inj (hx11_4.symm.trans hx13_4); injection ea_ with ea_ en_ ec_; subst ea_; subst ec_; clear en_; go_wp2; go_ret; exact ⟨by first | rfl | (simp; done) | (simp [*]; done), by repeat (first | exact Qi _ | apply Qj)⟩
      ·rw [if_neg c6] at H; have c6b0 := beq_eq_false_iff_ne.mpr c6; have c6b1 := bne_iff_ne.mpr c6; obtain rfl := Option.some.inj H; have p11 : 0 ≤ (x5_1 : Int) := Da; have q11 : x5_1 < (l0.length : Int) := Da; obtain ⟨ad11, A11_4, c589_4, e11, hx11_0, hx11_1, hx11_2, hx11_3, hx11_4, hl589_4, hi589_4⟩ := at_T32 HR0.out x5_1 p11 q11; cases e11
       have HR11_4 := Qa hi589_4; have HC589_4 := Qa hl589_4; clear hi589_4 hl589_4; replace p11 := eq_true p11; replace q11 := eq_true q11; have p12 : 0 ≤ (x5_1 : Int) := Da; have q12 : x5_1 < (l0.length : Int) := Da; obtain ⟨ad12, A12_4, c590_4, e12, hx12_0, hx12_1, hx12_2, hx12_3, hx12_4, hl590_4, hi590_4⟩ := at_T32 HR0.out x5_1 p12 q12; obtain rfl : ad11 = ad12 := (by injection e12); have HR12_4 := Qa hi590_4; have HC590_4 := Qa hl590_4; clear hi590_4 hl590_4; replace p12 := eq_true p12; replace q12 := eq_true q12; have ea_ := Option.some.inj (hx11_4.symm.trans hx12_4); injection ea_ with ea_ en_ ec_; subst ea_; subst ec_; clear en_; go_wp2; go_ret; exact ⟨by first | rfl | (simp; done) | (simp [*]; done), by repeat (first | exact Qi _ | apply Qj)⟩
     ·rw [if_neg c5] at H; have c5b0 := beq_eq_false_iff_ne.mpr c5; have c5b1 := bne_iff_ne.mpr c5; obtain rfl := Option.some.inj H; have p11 : 0 ≤ (x5_1 : Int) := Da; have q11 : x5_1 < (l0.length : Int) := Da; obtain ⟨ad11, A11_4, c589_4, e11, hx11_0, hx11_1, hx11_2, hx11_3, hx11_4, hl589_4, hi589_4⟩ := at_T32 HR0.out x5_1 p11 q11; cases e11
      have HR11_4 := Qa hi589_4; have HC589_4 := Qa hl589_4; clear hi589_4 hl589_4; replace p11 := eq_true p11; replace q11 := eq_true q11; go_wp2; go_ret; exact ⟨by first | rfl | (simp; done) | (simp [*]; done), by repeat (first | exact Qi _ | apply Qj)⟩
    ·rw [if_neg c4] at H; exact absurd H (by simp)
   ·rw [if_neg c3] at H; replace c3 := decide_eq_false c3; obtain rfl := Option.some.inj H; go_wp2; go_ret; exact ⟨by first | rfl | (simp; done) | (simp [*]; done), by repeat (first | exact Qi _ | apply Qj)⟩
def laws_heldFormula.f (k : Nat) (a0_0 : Int) (a0_1 : Int) (a0_2 : Int) (a0_3 : Int) (l0_4 : List (S32)) (a1 : Int) : Option (Int) := (laws_heldFormulaS.f k l0_4 a1).bind fun t17 => (if t17 < 0 then (some (-1)) else (some t17))
theorem laws_heldFormula.mono : ∀ a0 a1 a2 a3 a4 a5 k, LeO (laws_heldFormula.f k a0 a1 a2 a3 a4 a5) (laws_heldFormula.f (k + 1) a0 a1 a2 a3 a4 a5) := by
 intro a0 a1 a2 a3 a4 a5 k
 unfold laws_heldFormula.f
 exact Lm1 laws_heldFormulaS.mono
theorem laws_heldFormula.calls (k : Nat) (a0_0 : Int) (a0_1 : Int) (a0_2 : Int) (a0_3 : Int) (A0_4 : Option Addr) (c0_4 : Nat) (l0_4 : List (S32)) (a1 : Int) (r : Int) (w : World) (hr0_4 : Kd.C k32 w A0_4 l0_4.length l0_4) (hc0_4 : l0_4.length ≤ c0_4) (h : laws_heldFormula.f k a0_0 a0_1 a0_2 a0_3 l0_4 a1 = some r) :
  Calls Try.prog 24 #[.agg #[.int .i64 a0_0, .int .i64 a0_1, .int .i64 a0_2, .int .i64 a0_3, .slice A0_4 l0_4.length c0_4], .int .i64 a1] w fun e w' => e = .returned (.int .i64 r) ∧ Below w.heap.size w w' := by
 have hu32 := Try.underlying32
 have HR0_4 := Qa hr0_4
 have HC0_4 := Qa hc0_4
 clear hr0_4 hc0_4
 have HB := Qa (Below.refl w.heap.size w)
 have H : ((laws_heldFormulaS.f k l0_4 a1).bind fun t17 => (if t17 < 0 then (some (-1)) else (some t17))) = some r := h
 clear h
 obtain ⟨t17, A3, H⟩ := Ob H
 (try dsimp only at H)
 by_cases c4 : t17 < 0
 ·rw [if_pos c4] at H
  replace c4 := decide_eq_true c4; obtain rfl := Option.some.inj H; go_enter Try.func24, Try.ntmps24; go_wp2_with (first | ((with_reducible refine gate_dst (N := 2) rfl ?_); refine Bx (N := 2) (cs := #[.int .i64 a0_0, .int .i64 a0_1, .int .i64 a0_2, .int .i64 a0_3, .slice A0_4 l0_4.length c0_4]) (t := 32) ?_; intro gb16 hg w5 hbox hb; have BK16 := Qa (hbox); have GW16 := Gs (w := w) hg (Bb0 HB.out); have GE16 := GW16; replace HB := Sb (Bb0 HB.out) hb; clear hb hbox hg; obtain ⟨q6_0, q6_1, q6_2, q6_3, q6_4, u6_0, u6_1, u6_2, u6_3, u6_4⟩ := Cf5 BK16) | ((with_reducible refine gate_callee (f := 58) rfl ?_); refine Gl 8 Try.func58 #[.slice A0_4 l0_4.length c0_4, .int .i64 a1] ?_; (with_reducible refine (laws_heldFormulaS.calls k _ _ l0_4 a1 t17 _ ?_ ?_ A3.out).mono ?_); exact Bc (Kd.C_below HR0_4.out HB.out); exact HC0_4.out; rintro e w' ⟨rfl, ⟨nd, rfl⟩⟩; refine ⟨_, rfl, ?_⟩)); go_ret; exact ⟨Ze, Bb1 HB.out GE16.out⟩
 ·rw [if_neg c4] at H
  replace c4 := decide_eq_false c4; obtain rfl := Option.some.inj H; go_enter Try.func24, Try.ntmps24; go_wp2_with (first | ((with_reducible refine gate_dst (N := 2) rfl ?_); refine Bx (N := 2) (cs := #[.int .i64 a0_0, .int .i64 a0_1, .int .i64 a0_2, .int .i64 a0_3, .slice A0_4 l0_4.length c0_4]) (t := 32) ?_; intro gb16 hg w7 hbox hb; have BK16 := Qa (hbox); have GW16 := Gs (w := w) hg (Bb0 HB.out); have GE16 := GW16; replace HB := Sb (Bb0 HB.out) hb; clear hb hbox hg; obtain ⟨q8_0, q8_1, q8_2, q8_3, q8_4, u8_0, u8_1, u8_2, u8_3, u8_4⟩ := Cf5 BK16) | ((with_reducible refine gate_callee (f := 58) rfl ?_); refine Gl 8 Try.func58 #[.slice A0_4 l0_4.length c0_4, .int .i64 a1] ?_; (with_reducible refine (laws_heldFormulaS.calls k _ _ l0_4 a1 t17 _ ?_ ?_ A3.out).mono ?_); exact Bc (Kd.C_below HR0_4.out HB.out); exact HC0_4.out; rintro e w' ⟨rfl, ⟨nd, rfl⟩⟩; refine ⟨_, rfl, ?_⟩)); go_ret; exact ⟨Ze, Bb1 HB.out GE16.out⟩
end Go.Proofs.Ytoljagpjejpmpaa.PFnExactParseFormula
