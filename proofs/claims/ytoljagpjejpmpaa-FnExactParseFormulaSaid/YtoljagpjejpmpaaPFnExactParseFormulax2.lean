/- A part of the walk through the printed functions; no condition. -/
import Derived.Test.YtoljagpjejpmpaaXAuto
import Derived.Test.YtoljagpjejpmpaaPFnExactParseFormulax0
namespace Go.Proofs.Ytoljagpjejpmpaa.PFnExactParseFormula
open Go.RowKit Go.Proofs.YtoljagpjejpmpaaW.PrintWords Go.Proofs.YtoljagpjejpmpaaW.PrintLast Go.Proofs.YtoljagpjejpmpaaW.PrintMore
attribute [local go_sem] max2_int min2_int max_two min_two max_three min_three max_four min_four
set_option maxHeartbeats 32000000
set_option maxRecDepth 100000
attribute [local irreducible] Go.World.setCell
set_option linter.unusedVariables false
set_option linter.unusedSimpArgs false
open Go.Proofs.YtoljagpjejpmpaaW.PrintWords.Aside0 renaming mk → Qa
open Go.Proofs.YtoljagpjejpmpaaW.PrintWords renaming gate_callee → Qc, Aside0 → Qf, gate_dst → Qp
open Go.RowKit renaming wrap64 → Qg, Below → Qq
open Go.Proofs.Try renaming underlying32 → Qh, prog → Qk
open Go.Proofs.YtoljagpjejpmpaaW.PrintWords.Kd renaming C_below → Ql
open Go renaming World → Qm, Calls → Qz
mutual
def laws_eqFormulaS.l0 : Nat → List (S32) → List (S32) → Int → Option (Bool)
 | 0, _, _, _ => none
 | k + 1, x0, x1, x5 => if x5 < (x0.length : Int) then (if 0 ≤ x5 then (if x5 < (x1.length : Int) then ((laws_eqFormula.f k ((rd_T32 x0 x5).f0) ((rd_T32 x0 x5).f1) ((rd_T32 x0 x5).f2) ((rd_T32 x0 x5).f3) ((rd_T32 x0 x5).f4) ((rd_T32 x1 x5).f0) ((rd_T32 x1 x5).f1) ((rd_T32 x1 x5).f2) ((rd_T32 x1 x5).f3) ((rd_T32 x1 x5).f4)).bind fun t55 => (if t55 = true then (laws_eqFormulaS.l0 k x0 x1 (Qg (x5 + 1))) else (some false))) else (none)) else (none)) else (some true)
def laws_eqFormulaS.f : Nat → List (S32) → List (S32) → Option (Bool)
 | 0, _, _ => none
 | k + 1, l0, l1 => if (l0.length : Int) = (l1.length : Int) then (laws_eqFormulaS.l0 k l0 l1 0) else (some false)
def laws_eqFormula.f : Nat → Int → Int → Int → Int → List (S32) → Int → Int → Int → Int → List (S32) → Option (Bool)
 | 0, _, _, _, _, _, _, _, _, _, _ => none
 | k + 1, a0_0, a0_1, a0_2, a0_3, l0_4, a1_0, a1_1, a1_2, a1_3, l1_4 => if a0_0 = a1_0 then (if a0_1 = a1_1 then (if a0_2 = a1_2 then (if a0_3 = a1_3 then ((laws_eqFormulaS.f k l0_4 l1_4).bind fun t53 => (if t53 = true then (some true) else (some false))) else (some false)) else (some false)) else (some false)) else (some false)
end
theorem laws_eqFormula_pair.mono_l : ∀ k, (∀ y0 y1 y2, LeO (laws_eqFormulaS.l0 k y0 y1 y2) (laws_eqFormulaS.l0 (k + 1) y0 y1 y2)) ∧ (∀ y0 y1, LeO (laws_eqFormulaS.f k y0 y1) (laws_eqFormulaS.f (k + 1) y0 y1)) ∧ (∀ y0 y1 y2 y3 y4 y5 y6 y7 y8 y9, LeO (laws_eqFormula.f k y0 y1 y2 y3 y4 y5 y6 y7 y8 y9) (laws_eqFormula.f (k + 1) y0 y1 y2 y3 y4 y5 y6 y7 y8 y9))
 | 0 => ⟨fun _ _ _ r h => by simp [laws_eqFormulaS.l0] at h, fun _ _ r h => by simp [laws_eqFormulaS.f] at h, fun _ _ _ _ _ _ _ _ _ _ r h => by simp [laws_eqFormula.f] at h⟩
 | k + 1 => by
  obtain ⟨ih0, ih1, ih2⟩ := laws_eqFormula_pair.mono_l k; refine ⟨?_, ?_, ?_⟩
  ·intro y0 y1 y2; unfold laws_eqFormulaS.l0; exact Lm3 ih0 ih1 ih2
  ·intro y0 y1; unfold laws_eqFormulaS.f; exact Lm3 ih0 ih1 ih2
  ·intro y0 y1 y2 y3 y4 y5 y6 y7 y8 y9; unfold laws_eqFormula.f; exact Lm3 ih0 ih1 ih2
theorem laws_eqFormulaS.mono : ∀ a0 a1 k, LeO (laws_eqFormulaS.f k a0 a1) (laws_eqFormulaS.f (k + 1) a0 a1) := by
 intro a0 a1 k
 obtain ⟨ih0, ih1, ih2⟩ := laws_eqFormula_pair.mono_l k
 exact ih1 a0 a1
theorem laws_eqFormula.mono : ∀ a0 a1 a2 a3 a4 a5 a6 a7 a8 a9 k, LeO (laws_eqFormula.f k a0 a1 a2 a3 a4 a5 a6 a7 a8 a9) (laws_eqFormula.f (k + 1) a0 a1 a2 a3 a4 a5 a6 a7 a8 a9) := by
 intro a0 a1 a2 a3 a4 a5 a6 a7 a8 a9 k
 obtain ⟨ih0, ih1, ih2⟩ := laws_eqFormula_pair.mono_l k
 exact ih2 a0 a1 a2 a3 a4 a5 a6 a7 a8 a9
def laws_eqFormulaS.T6 : Bool × List (List Nat × List Nat) := (true, [([], []), ([], []), ([0, 1], [0, 1]), ([2], [2]), ([], []), ([], []), ([4, 5], [4, 5]), ([6], [6]), ([3, 7], [3, 7]), ([8], [8])])
def laws_eqFormulaS.B6 : List Nat := [0, 0, 3, 7, 0, 0, 48, 112, 255, 511]
theorem laws_eqFormulaS.tab6 : rtab .any (opsOf Try.f48 6) = laws_eqFormulaS.T6 := by kernel_rfl
theorem laws_eqFormulaS.bits6 : waitsOk laws_eqFormulaS.T6.2 laws_eqFormulaS.B6 = true := by kernel_rfl
theorem laws_eqFormulaS.calls_of (k : Nat) (ih_48 : ∀ m_, m_ < k → ∀ (A0 : Option Addr) (c0 : Nat) (l0 : List (S32)) (A1 : Option Addr) (c1 : Nat) (l1 : List (S32)) (r : Bool) (w : Qm) (hr0 : Kd.C k32 w A0 l0.length l0) (hc0 : l0.length ≤ c0) (hr1 : Kd.C k32 w A1 l1.length l1) (hc1 : l1.length ≤ c1) (h : laws_eqFormulaS.f m_ l0 l1 = some r), Qz Qk 48 #[.slice A0 l0.length c0, .slice A1 l1.length c1] w fun e w' => e = .returned (.bool r) ∧ Qq w.heap.size w w') (ih_15 : ∀ m_, m_ < k → ∀ (a0_0 : Int) (a0_1 : Int) (a0_2 : Int) (a0_3 : Int) (A0_4 : Option Addr) (c0_4 : Nat) (l0_4 : List (S32)) (a1_0 : Int) (a1_1 : Int) (a1_2 : Int) (a1_3 : Int) (A1_4 : Option Addr) (c1_4 : Nat) (l1_4 : List (S32)) (r : Bool) (w : Qm) (hr0_4 : Kd.C k32 w A0_4 l0_4.length l0_4) (hc0_4 : l0_4.length ≤ c0_4) (hr1_4 : Kd.C k32 w A1_4 l1_4.length l1_4) (hc1_4 : l1_4.length ≤ c1_4) (h : laws_eqFormula.f m_ a0_0 a0_1 a0_2 a0_3 l0_4 a1_0 a1_1 a1_2 a1_3 l1_4 = some r), Qz Qk 15 #[.agg #[.int .i64 a0_0, .int .i64 a0_1, .int .i64 a0_2, .int .i64 a0_3, .slice A0_4 l0_4.length c0_4], .agg #[.int .i64 a1_0, .int .i64 a1_1, .int .i64 a1_2, .int .i64 a1_3, .slice A1_4 l1_4.length c1_4]] w fun e w' => e = .returned (.bool r) ∧ Qq w.heap.size w w') : ∀ (A0 : Option Addr) (c0 : Nat) (l0 : List (S32)) (A1 : Option Addr) (c1 : Nat) (l1 : List (S32)) (r : Bool) (w : Qm) (hr0 : Kd.C k32 w A0 l0.length l0) (hc0 : l0.length ≤ c0) (hr1 : Kd.C k32 w A1 l1.length l1) (hc1 : l1.length ≤ c1) (h : laws_eqFormulaS.f k l0 l1 = some r), Qz Qk 48 #[.slice A0 l0.length c0, .slice A1 l1.length c1] w fun e w' => e = .returned (.bool r) ∧ Qq w.heap.size w w' := by
 intro A0 c0 l0 A1 c1 l1 r w hr0 hc0 hr1 hc1 h
 cases k with
 | zero => exact absurd h (by simp [laws_eqFormulaS.f])
 | succ k =>
 simp only [laws_eqFormulaS.f] at h
 have hu32 := Qh
 have HR0 := Qa hr0
 have HC0 := Qa hc0
 clear hr0 hc0
 have HR1 := Qa hr1
 have HC1 := Qa hc1
 clear hr1 hc1
 have HB := Qa (Below.refl w.heap.size w)
 have H : (if (l0.length : Int) = (l1.length : Int) then (laws_eqFormulaS.l0 k l0 l1 0) else (some false)) = some r := h
 clear h
 by_cases c3 : (l0.length : Int) = (l1.length : Int)
 ·rw [if_pos c3] at H
  have c3b0 := beq_iff_eq.mpr c3; have c3b1 := bne_eq_false_iff_eq.mpr c3; have c3b2 : (l0.length == l1.length) = true := by first | simpa using c3 | (simp at c3 ⊢; omega)
  clear c3; have H' := Qa H; clear H; go_enter Try.func48, Try.ntmps48; go_wp2; go_loopg [5] k (fun kq v5 w' => ∃ (x5_1 : Int), v5 = .int .i64 x5_1 ∧ Qf (laws_eqFormulaS.l0 kq l0 l1 x5_1 = some r) ∧ Qf (kq ≤ k) ∧ Qf (Qq w.heap.size w w'))
  case atStart => exact ⟨(0), Zf, H', ⟨Nat.le_refl _⟩, ⟨Bb0 HB.out⟩⟩
  case round =>
   clear H'; (try clear c1)
   (try clear p2)
   (try clear c3)
   (try clear c3b0)
   (try clear c3b1)
   (try clear c3b2)
   obtain ⟨x5_1, rfl, HA, HK1, HB⟩ := hrel; cases gk with
   | zero => exact absurd HA.out (by simp [laws_eqFormulaS.l0])
   | succ k1 =>
    have H := HA.out; clear HA; simp only [laws_eqFormulaS.l0] at H; by_cases c4 : x5_1 < (l0.length : Int)
    ·rw [if_pos c4] at H; replace c4 := decide_eq_true c4; by_cases c5 : 0 ≤ x5_1
     ·rw [if_pos c5] at H; replace c5 := decide_eq_true c5; by_cases c6 : x5_1 < (l1.length : Int)
      ·rw [if_pos c6] at H; replace c6 := decide_eq_true c6; obtain ⟨t55, A7, H⟩ := Ob H; (try dsimp only at H)
       by_cases c8 : t55 = true
       ·subst c8; rw [if_pos rfl] at H; have H' := Qa H; clear H; try go_wp2
        replace HB := Qa (below_drew1 HB.out); have p42 : 0 ≤ (x5_1 : Int) := Da; have q42 : x5_1 < (l0.length : Int) := Da; obtain ⟨ad42, A42_4, c109_4, e42, hx42_0, hx42_1, hx42_2, hx42_3, hx42_4, hl109_4, hi109_4⟩ := at_T32 HR0.out x5_1 p42 q42; have hw109_4 := hx42_4; have hw109_3 := hx42_3; have hw109_2 := hx42_2; have hw109_1 := hx42_1; have hw109_0 := hx42_0; cases e42
        replace hx42_0 := Cx HB hx42_0; replace hx42_1 := Cx HB hx42_1; replace hx42_2 := Cx HB hx42_2; replace hx42_3 := Cx HB hx42_3; replace hx42_4 := Cx HB hx42_4; have HR42_4 := Qa hi109_4; have HC109_4 := Qa hl109_4; clear hi109_4 hl109_4; replace p42 := eq_true p42; replace q42 := eq_true q42; have p43 : 0 ≤ (x5_1 : Int) := Da; have q43 : x5_1 < (l1.length : Int) := Da; obtain ⟨ad43, A43_4, c110_4, e43, hx43_0, hx43_1, hx43_2, hx43_3, hx43_4, hl110_4, hi110_4⟩ := at_T32 HR1.out x5_1 p43 q43; have hw110_4 := hx43_4; have hw110_3 := hx43_3; have hw110_2 := hx43_2; have hw110_1 := hx43_1; have hw110_0 := hx43_0; cases e43
        replace hx43_0 := Cx HB hx43_0; replace hx43_1 := Cx HB hx43_1; replace hx43_2 := Cx HB hx43_2; replace hx43_3 := Cx HB hx43_3; replace hx43_4 := Cx HB hx43_4; have HR43_4 := Qa hi110_4; have HC110_4 := Qa hl110_4; clear hi110_4 hl110_4; replace p43 := eq_true p43; replace q43 := eq_true q43; refine start_ (n := 10) (S := fun w' => w'.cell? (ad42.add ((x5_1).toNat * 5)) = some (.int .i64 ((rd_T32 l0 x5_1).f0)) ∧ w'.cell? ⟨(ad42.add ((x5_1).toNat * 5)).block, (ad42.add ((x5_1).toNat * 5)).off + 1, none⟩ = some (.int .i64 ((rd_T32 l0 x5_1).f1)) ∧ w'.cell? ⟨(ad42.add ((x5_1).toNat * 5)).block, (ad42.add ((x5_1).toNat * 5)).off + 2, none⟩ = some (.int .i64 ((rd_T32 l0 x5_1).f2)) ∧ w'.cell? ⟨(ad42.add ((x5_1).toNat * 5)).block, (ad42.add ((x5_1).toNat * 5)).off + 3, none⟩ = some (.int .i64 ((rd_T32 l0 x5_1).f3)) ∧ w'.cell? ⟨(ad42.add ((x5_1).toNat * 5)).block, (ad42.add ((x5_1).toNat * 5)).off + 4, none⟩ = some (.slice A42_4 ((rd_T32 l0 x5_1).f4).length c109_4) ∧ w'.cell? (ad43.add ((x5_1).toNat * 5)) = some (.int .i64 ((rd_T32 l1 x5_1).f0)) ∧ w'.cell? ⟨(ad43.add ((x5_1).toNat * 5)).block, (ad43.add ((x5_1).toNat * 5)).off + 1, none⟩ = some (.int .i64 ((rd_T32 l1 x5_1).f1)) ∧ w'.cell? ⟨(ad43.add ((x5_1).toNat * 5)).block, (ad43.add ((x5_1).toNat * 5)).off + 2, none⟩ = some (.int .i64 ((rd_T32 l1 x5_1).f2)) ∧ w'.cell? ⟨(ad43.add ((x5_1).toNat * 5)).block, (ad43.add ((x5_1).toNat * 5)).off + 3, none⟩ = some (.int .i64 ((rd_T32 l1 x5_1).f3)) ∧ w'.cell? ⟨(ad43.add ((x5_1).toNat * 5)).block, (ad43.add ((x5_1).toNat * 5)).off + 4, none⟩ = some (.slice A43_4 ((rd_T32 l1 x5_1).f4).length c110_4)) (ds := []) #[false, false, false, false, false, false, false, false, false, false] (by kernel_rfl) rfl rfl ⟨(Cx HB hw109_0), (Cx HB hw109_1), (Cx HB hw109_2), (Cx HB hw109_3), (Cx HB hw109_4), (Cx HB hw110_0), (Cx HB hw110_1), (Cx HB hw110_2), (Cx HB hw110_3), (Cx HB hw110_4)⟩ (fun hHeld => ?_); refine with_tabW laws_eqFormulaS.tab6 laws_eqFormulaS.bits6 (fun HT_ HW_ => ?_); generalize wr.drew = w9 at HB HR42_4 HR43_4 hx42_0 hx42_1 hx42_2 hx42_3 hx42_4 hx43_0 hx43_1 hx43_2 hx43_3 hx43_4 hHeld ⊢; refine Pt 0 17 HT_ ?_; refine Pt 1 18 HT_ ?_; refine Pt 2 19 HT_ ?_; refine Pt 4 21 HT_ ?_; refine Pt 5 22 HT_ ?_; refine Pt 6 23 HT_ ?_; refine Tu10 3 20 HT_ HW_ hHeld ?_; refine Tu10 7 24 HT_ HW_ hHeld ?_; refine Ot 8 25 HT_ (fun K hK => ?_); refine goes_ Try.func15 (by kernel_rfl) rfl #[.agg #[.int .i64 ((rd_T32 l0 x5_1).f0), .int .i64 ((rd_T32 l0 x5_1).f1), .int .i64 ((rd_T32 l0 x5_1).f2), .int .i64 ((rd_T32 l0 x5_1).f3), .slice A42_4 ((rd_T32 l0 x5_1).f4).length c109_4], .agg #[.int .i64 ((rd_T32 l1 x5_1).f0), .int .i64 ((rd_T32 l1 x5_1).f1), .int .i64 ((rd_T32 l1 x5_1).f2), .int .i64 ((rd_T32 l1 x5_1).f3), .slice A43_4 ((rd_T32 l1 x5_1).f4).length c110_4]] (by rfl) rfl rfl Zm ?_; with_reducible refine (ih_15 k1 (by have := HK1.out; omega) ((rd_T32 l0 x5_1).f0) ((rd_T32 l0 x5_1).f1) ((rd_T32 l0 x5_1).f2) ((rd_T32 l0 x5_1).f3) _ _ ((rd_T32 l0 x5_1).f4) ((rd_T32 l1 x5_1).f0) ((rd_T32 l1 x5_1).f1) ((rd_T32 l1 x5_1).f2) ((rd_T32 l1 x5_1).f3) _ _ ((rd_T32 l1 x5_1).f4) true _ ?side1 ?side2 ?side3 ?side4 A7.out).mono ?_
        (case side1 => exact Bc (Ql HR42_4.out HB.out))
        (case side2 => exact HC109_4.out)
        (case side3 => exact Bc (Ql HR43_4.out HB.out))
        (case side4 => exact HC110_4.out)
        rintro e w10 ⟨rfl, hb⟩; refine ⟨_, rfl, ?_⟩; replace HB := Sb (Bb0 HB.out) hb; clear hb; refine hK.out _ _ ⟨(Cx HB hw109_0), (Cx HB hw109_1), (Cx HB hw109_2), (Cx HB hw109_3), (Cx HB hw109_4), (Cx HB hw110_0), (Cx HB hw110_1), (Cx HB hw110_2), (Cx HB hw110_3), (Cx HB hw110_4)⟩ (fun hHeld => ?_); clear hK K; refine Nn 25 ?_; refine Pt 9 26 HT_ ?_; refine done_ (done_of HT_.out (by kernel_rfl)) ?_; try go_wp2
        go_roundg k1
        case measure => have := HK1.out; omega
        case rel => exact ⟨(Qg (x5_1 + 1)), Zf, H', ⟨by have := HK1.out; omega⟩, ⟨Bb0 HB.out⟩⟩
       ·replace c8 := Bool.eq_false_iff.mpr c8; subst c8; rw [if_neg (show ¬ (false = true) by decide)] at H; obtain rfl := Option.some.inj H; try go_wp2
        replace HB := Qa (below_drew1 HB.out); have p42 : 0 ≤ (x5_1 : Int) := Da; have q42 : x5_1 < (l0.length : Int) := Da; obtain ⟨ad42, A42_4, c109_4, e42, hx42_0, hx42_1, hx42_2, hx42_3, hx42_4, hl109_4, hi109_4⟩ := at_T32 HR0.out x5_1 p42 q42; have hw109_4 := hx42_4; have hw109_3 := hx42_3; have hw109_2 := hx42_2; have hw109_1 := hx42_1; have hw109_0 := hx42_0; cases e42
        replace hx42_0 := Cx HB hx42_0; replace hx42_1 := Cx HB hx42_1; replace hx42_2 := Cx HB hx42_2; replace hx42_3 := Cx HB hx42_3; replace hx42_4 := Cx HB hx42_4; have HR42_4 := Qa hi109_4; have HC109_4 := Qa hl109_4; clear hi109_4 hl109_4; replace p42 := eq_true p42; replace q42 := eq_true q42; have p43 : 0 ≤ (x5_1 : Int) := Da; have q43 : x5_1 < (l1.length : Int) := Da; obtain ⟨ad43, A43_4, c110_4, e43, hx43_0, hx43_1, hx43_2, hx43_3, hx43_4, hl110_4, hi110_4⟩ := at_T32 HR1.out x5_1 p43 q43; have hw110_4 := hx43_4; have hw110_3 := hx43_3; have hw110_2 := hx43_2; have hw110_1 := hx43_1; have hw110_0 := hx43_0; cases e43
        replace hx43_0 := Cx HB hx43_0; replace hx43_1 := Cx HB hx43_1; replace hx43_2 := Cx HB hx43_2; replace hx43_3 := Cx HB hx43_3; replace hx43_4 := Cx HB hx43_4; have HR43_4 := Qa hi110_4; have HC110_4 := Qa hl110_4; clear hi110_4 hl110_4; replace p43 := eq_true p43; replace q43 := eq_true q43; refine start_ (n := 10) (S := fun w' => w'.cell? (ad42.add ((x5_1).toNat * 5)) = some (.int .i64 ((rd_T32 l0 x5_1).f0)) ∧ w'.cell? ⟨(ad42.add ((x5_1).toNat * 5)).block, (ad42.add ((x5_1).toNat * 5)).off + 1, none⟩ = some (.int .i64 ((rd_T32 l0 x5_1).f1)) ∧ w'.cell? ⟨(ad42.add ((x5_1).toNat * 5)).block, (ad42.add ((x5_1).toNat * 5)).off + 2, none⟩ = some (.int .i64 ((rd_T32 l0 x5_1).f2)) ∧ w'.cell? ⟨(ad42.add ((x5_1).toNat * 5)).block, (ad42.add ((x5_1).toNat * 5)).off + 3, none⟩ = some (.int .i64 ((rd_T32 l0 x5_1).f3)) ∧ w'.cell? ⟨(ad42.add ((x5_1).toNat * 5)).block, (ad42.add ((x5_1).toNat * 5)).off + 4, none⟩ = some (.slice A42_4 ((rd_T32 l0 x5_1).f4).length c109_4) ∧ w'.cell? (ad43.add ((x5_1).toNat * 5)) = some (.int .i64 ((rd_T32 l1 x5_1).f0)) ∧ w'.cell? ⟨(ad43.add ((x5_1).toNat * 5)).block, (ad43.add ((x5_1).toNat * 5)).off + 1, none⟩ = some (.int .i64 ((rd_T32 l1 x5_1).f1)) ∧ w'.cell? ⟨(ad43.add ((x5_1).toNat * 5)).block, (ad43.add ((x5_1).toNat * 5)).off + 2, none⟩ = some (.int .i64 ((rd_T32 l1 x5_1).f2)) ∧ w'.cell? ⟨(ad43.add ((x5_1).toNat * 5)).block, (ad43.add ((x5_1).toNat * 5)).off + 3, none⟩ = some (.int .i64 ((rd_T32 l1 x5_1).f3)) ∧ w'.cell? ⟨(ad43.add ((x5_1).toNat * 5)).block, (ad43.add ((x5_1).toNat * 5)).off + 4, none⟩ = some (.slice A43_4 ((rd_T32 l1 x5_1).f4).length c110_4)) (ds := []) #[false, false, false, false, false, false, false, false, false, false] (by kernel_rfl) rfl rfl ⟨(Cx HB hw109_0), (Cx HB hw109_1), (Cx HB hw109_2), (Cx HB hw109_3), (Cx HB hw109_4), (Cx HB hw110_0), (Cx HB hw110_1), (Cx HB hw110_2), (Cx HB hw110_3), (Cx HB hw110_4)⟩ (fun hHeld => ?_); refine with_tabW laws_eqFormulaS.tab6 laws_eqFormulaS.bits6 (fun HT_ HW_ => ?_); generalize wr.drew = w11 at HB HR42_4 HR43_4 hx42_0 hx42_1 hx42_2 hx42_3 hx42_4 hx43_0 hx43_1 hx43_2 hx43_3 hx43_4 hHeld ⊢; refine Pt 0 17 HT_ ?_; refine Pt 1 18 HT_ ?_; refine Pt 2 19 HT_ ?_; refine Pt 4 21 HT_ ?_; refine Pt 5 22 HT_ ?_; refine Pt 6 23 HT_ ?_; refine Tu10 3 20 HT_ HW_ hHeld ?_; refine Tu10 7 24 HT_ HW_ hHeld ?_; refine Ot 8 25 HT_ (fun K hK => ?_); refine goes_ Try.func15 (by kernel_rfl) rfl #[.agg #[.int .i64 ((rd_T32 l0 x5_1).f0), .int .i64 ((rd_T32 l0 x5_1).f1), .int .i64 ((rd_T32 l0 x5_1).f2), .int .i64 ((rd_T32 l0 x5_1).f3), .slice A42_4 ((rd_T32 l0 x5_1).f4).length c109_4], .agg #[.int .i64 ((rd_T32 l1 x5_1).f0), .int .i64 ((rd_T32 l1 x5_1).f1), .int .i64 ((rd_T32 l1 x5_1).f2), .int .i64 ((rd_T32 l1 x5_1).f3), .slice A43_4 ((rd_T32 l1 x5_1).f4).length c110_4]] (by rfl) rfl rfl Zm ?_; with_reducible refine (ih_15 k1 (by have := HK1.out; omega) ((rd_T32 l0 x5_1).f0) ((rd_T32 l0 x5_1).f1) ((rd_T32 l0 x5_1).f2) ((rd_T32 l0 x5_1).f3) _ _ ((rd_T32 l0 x5_1).f4) ((rd_T32 l1 x5_1).f0) ((rd_T32 l1 x5_1).f1) ((rd_T32 l1 x5_1).f2) ((rd_T32 l1 x5_1).f3) _ _ ((rd_T32 l1 x5_1).f4) false _ ?side1 ?side2 ?side3 ?side4 A7.out).mono ?_
        (case side1 => exact Bc (Ql HR42_4.out HB.out))
        (case side2 => exact HC109_4.out)
        (case side3 => exact Bc (Ql HR43_4.out HB.out))
        (case side4 => exact HC110_4.out)
        rintro e w12 ⟨rfl, hb⟩; refine ⟨_, rfl, ?_⟩; replace HB := Sb (Bb0 HB.out) hb; clear hb; refine hK.out _ _ ⟨(Cx HB hw109_0), (Cx HB hw109_1), (Cx HB hw109_2), (Cx HB hw109_3), (Cx HB hw109_4), (Cx HB hw110_0), (Cx HB hw110_1), (Cx HB hw110_2), (Cx HB hw110_3), (Cx HB hw110_4)⟩ (fun hHeld => ?_); clear hK K; refine Nn 25 ?_; refine Pt 9 26 HT_ ?_; refine done_ (done_of HT_.out (by kernel_rfl)) ?_; try go_wp2
        go_ret; exact ⟨Ze, Bb0 HB.out⟩
      ·rw [if_neg c6] at H; exact absurd H (by simp)
     ·rw [if_neg c5] at H; exact absurd H (by simp)
    ·rw [if_neg c4] at H; replace c4 := decide_eq_false c4; obtain rfl := Option.some.inj H; go_wp2; go_ret; exact ⟨Ze, Bb0 HB.out⟩
 ·rw [if_neg c3] at H
  have c3b0 := beq_eq_false_iff_ne.mpr c3; have c3b1 := bne_iff_ne.mpr c3; have c3b2 : (l0.length == l1.length) = false := by first | simpa using c3 | (simp at c3 ⊢; omega)
  obtain rfl := Option.some.inj H; go_enter Try.func48, Try.ntmps48; go_wp2; go_ret; exact ⟨Ze, Bb0 HB.out⟩
theorem laws_eqFormula.calls_of (k : Nat) (ih_48 : ∀ m_, m_ < k → ∀ (A0 : Option Addr) (c0 : Nat) (l0 : List (S32)) (A1 : Option Addr) (c1 : Nat) (l1 : List (S32)) (r : Bool) (w : Qm) (hr0 : Kd.C k32 w A0 l0.length l0) (hc0 : l0.length ≤ c0) (hr1 : Kd.C k32 w A1 l1.length l1) (hc1 : l1.length ≤ c1) (h : laws_eqFormulaS.f m_ l0 l1 = some r), Qz Qk 48 #[.slice A0 l0.length c0, .slice A1 l1.length c1] w fun e w' => e = .returned (.bool r) ∧ Qq w.heap.size w w') (ih_15 : ∀ m_, m_ < k → ∀ (a0_0 : Int) (a0_1 : Int) (a0_2 : Int) (a0_3 : Int) (A0_4 : Option Addr) (c0_4 : Nat) (l0_4 : List (S32)) (a1_0 : Int) (a1_1 : Int) (a1_2 : Int) (a1_3 : Int) (A1_4 : Option Addr) (c1_4 : Nat) (l1_4 : List (S32)) (r : Bool) (w : Qm) (hr0_4 : Kd.C k32 w A0_4 l0_4.length l0_4) (hc0_4 : l0_4.length ≤ c0_4) (hr1_4 : Kd.C k32 w A1_4 l1_4.length l1_4) (hc1_4 : l1_4.length ≤ c1_4) (h : laws_eqFormula.f m_ a0_0 a0_1 a0_2 a0_3 l0_4 a1_0 a1_1 a1_2 a1_3 l1_4 = some r), Qz Qk 15 #[.agg #[.int .i64 a0_0, .int .i64 a0_1, .int .i64 a0_2, .int .i64 a0_3, .slice A0_4 l0_4.length c0_4], .agg #[.int .i64 a1_0, .int .i64 a1_1, .int .i64 a1_2, .int .i64 a1_3, .slice A1_4 l1_4.length c1_4]] w fun e w' => e = .returned (.bool r) ∧ Qq w.heap.size w w') : ∀ (a0_0 : Int) (a0_1 : Int) (a0_2 : Int) (a0_3 : Int) (A0_4 : Option Addr) (c0_4 : Nat) (l0_4 : List (S32)) (a1_0 : Int) (a1_1 : Int) (a1_2 : Int) (a1_3 : Int) (A1_4 : Option Addr) (c1_4 : Nat) (l1_4 : List (S32)) (r : Bool) (w : Qm) (hr0_4 : Kd.C k32 w A0_4 l0_4.length l0_4) (hc0_4 : l0_4.length ≤ c0_4) (hr1_4 : Kd.C k32 w A1_4 l1_4.length l1_4) (hc1_4 : l1_4.length ≤ c1_4) (h : laws_eqFormula.f k a0_0 a0_1 a0_2 a0_3 l0_4 a1_0 a1_1 a1_2 a1_3 l1_4 = some r), Qz Qk 15 #[.agg #[.int .i64 a0_0, .int .i64 a0_1, .int .i64 a0_2, .int .i64 a0_3, .slice A0_4 l0_4.length c0_4], .agg #[.int .i64 a1_0, .int .i64 a1_1, .int .i64 a1_2, .int .i64 a1_3, .slice A1_4 l1_4.length c1_4]] w fun e w' => e = .returned (.bool r) ∧ Qq w.heap.size w w' := by
 intro a0_0 a0_1 a0_2 a0_3 A0_4 c0_4 l0_4 a1_0 a1_1 a1_2 a1_3 A1_4 c1_4 l1_4 r w hr0_4 hc0_4 hr1_4 hc1_4 h
 cases k with
 | zero => exact absurd h (by simp [laws_eqFormula.f])
 | succ k =>
 simp only [laws_eqFormula.f] at h
 have hu32 := Qh
 have HR0_4 := Qa hr0_4
 have HC0_4 := Qa hc0_4
 clear hr0_4 hc0_4
 have HR1_4 := Qa hr1_4
 have HC1_4 := Qa hc1_4
 clear hr1_4 hc1_4
 have HB := Qa (Below.refl w.heap.size w)
 have H : (if a0_0 = a1_0 then (if a0_1 = a1_1 then (if a0_2 = a1_2 then (if a0_3 = a1_3 then ((laws_eqFormulaS.f k l0_4 l1_4).bind fun t53 => (if t53 = true then (some true) else (some false))) else (some false)) else (some false)) else (some false)) else (some false)) = some r := h
 clear h
 by_cases c3 : a0_0 = a1_0
 ·rw [if_pos c3] at H
  have c3b0 := beq_iff_eq.mpr c3; have c3b1 := bne_eq_false_iff_eq.mpr c3; clear c3; by_cases c4 : a0_1 = a1_1
  ·rw [if_pos c4] at H; have c4b0 := beq_iff_eq.mpr c4; have c4b1 := bne_eq_false_iff_eq.mpr c4; clear c4; by_cases c5 : a0_2 = a1_2
   ·rw [if_pos c5] at H; have c5b0 := beq_iff_eq.mpr c5; have c5b1 := bne_eq_false_iff_eq.mpr c5; clear c5; by_cases c6 : a0_3 = a1_3
    ·rw [if_pos c6] at H; have c6b0 := beq_iff_eq.mpr c6; have c6b1 := bne_eq_false_iff_eq.mpr c6; clear c6; obtain ⟨t53, A7, H⟩ := Ob H; (try dsimp only at H)
     by_cases c8 : t53 = true
     ·subst c8; rw [if_pos rfl] at H; obtain rfl := Option.some.inj H; go_enter Try.func15, Try.ntmps15; go_wp2_with (first | ((with_reducible refine Qp (N := 2) rfl ?_); refine Bx (N := 2) (cs := #[.int .i64 a0_0, .int .i64 a0_1, .int .i64 a0_2, .int .i64 a0_3, .slice A0_4 l0_4.length c0_4]) (t := 32) ?_; intro gb41 hg w9 hbox hb; have BK41 := Qa (hbox); have GW41 := Gs (w := w) hg (Bb0 HB.out); have GE41 := GW41; replace HB := Sb (Bb0 HB.out) hb; clear hb hbox hg) | ((with_reducible refine Qp (N := 3) rfl ?_); refine Bx (N := 3) (cs := #[.int .i64 a1_0, .int .i64 a1_1, .int .i64 a1_2, .int .i64 a1_3, .slice A1_4 l1_4.length c1_4]) (t := 32) ?_; intro gb44 hg w10 hbox hb; have BK44 := Qa (hbox); have GW44 := Gs (w := w) hg (Bb1 HB.out GE41.out); have GE44 := GW44; replace HB := Sb (Bb1 HB.out GE41.out) hb; have NB41_44 := Nl hg BK41; have NB44_41 := Ng hg BK41; replace BK41 := Kb BK41 hb; clear hb hbox hg; have hnb11 := NB41_44.out; have hnc11 := NB44_41.out; obtain ⟨q12_0, q12_1, q12_2, q12_3, q12_4, u12_0, u12_1, u12_2, u12_3, u12_4⟩ := Cf5 BK41; obtain ⟨q13_0, q13_1, q13_2, q13_3, q13_4, u13_0, u13_1, u13_2, u13_3, u13_4⟩ := Cf5 BK44) | ((with_reducible refine Qc (f := 48) rfl ?_); refine Gl 29 Try.func48 #[.slice A0_4 l0_4.length c0_4, .slice A1_4 l1_4.length c1_4] ?_; (with_reducible refine (ih_48 k (by omega) _ _ l0_4 _ _ l1_4 true _ ?side1 ?side2 ?side3 ?side4 A7.out).mono ?_); (case side1 => exact Bc (Ql HR0_4.out HB.out)); (case side2 => exact HC0_4.out); (case side3 => exact Bc (Ql HR1_4.out HB.out)); (case side4 => exact HC1_4.out); rintro e w14 ⟨rfl, hb⟩; refine ⟨_, rfl, ?_⟩; replace BK41 := Kb BK41 hb; replace BK44 := Kb BK44 hb; replace HB := Sb (Bb2 HB.out GE41.out GE44.out) hb; clear hb)); go_ret; exact ⟨Ze, Bb2 HB.out GE41.out GE44.out⟩
     ·replace c8 := Bool.eq_false_iff.mpr c8; subst c8; rw [if_neg (show ¬ (false = true) by decide)] at H; obtain rfl := Option.some.inj H; go_enter Try.func15, Try.ntmps15; go_wp2_with (first | ((with_reducible refine Qp (N := 2) rfl ?_); refine Bx (N := 2) (cs := #[.int .i64 a0_0, .int .i64 a0_1, .int .i64 a0_2, .int .i64 a0_3, .slice A0_4 l0_4.length c0_4]) (t := 32) ?_; intro gb41 hg w15 hbox hb; have BK41 := Qa (hbox); have GW41 := Gs (w := w) hg (Bb0 HB.out); have GE41 := GW41; replace HB := Sb (Bb0 HB.out) hb; clear hb hbox hg) | ((with_reducible refine Qp (N := 3) rfl ?_); refine Bx (N := 3) (cs := #[.int .i64 a1_0, .int .i64 a1_1, .int .i64 a1_2, .int .i64 a1_3, .slice A1_4 l1_4.length c1_4]) (t := 32) ?_; intro gb44 hg w16 hbox hb; have BK44 := Qa (hbox); have GW44 := Gs (w := w) hg (Bb1 HB.out GE41.out); have GE44 := GW44; replace HB := Sb (Bb1 HB.out GE41.out) hb; have NB41_44 := Nl hg BK41; have NB44_41 := Ng hg BK41; replace BK41 := Kb BK41 hb; clear hb hbox hg; have hnb17 := NB41_44.out; have hnc17 := NB44_41.out; obtain ⟨q18_0, q18_1, q18_2, q18_3, q18_4, u18_0, u18_1, u18_2, u18_3, u18_4⟩ := Cf5 BK41; obtain ⟨q19_0, q19_1, q19_2, q19_3, q19_4, u19_0, u19_1, u19_2, u19_3, u19_4⟩ := Cf5 BK44) | ((with_reducible refine Qc (f := 48) rfl ?_); refine Gl 29 Try.func48 #[.slice A0_4 l0_4.length c0_4, .slice A1_4 l1_4.length c1_4] ?_; (with_reducible refine (ih_48 k (by omega) _ _ l0_4 _ _ l1_4 false _ ?side1 ?side2 ?side3 ?side4 A7.out).mono ?_); (case side1 => exact Bc (Ql HR0_4.out HB.out)); (case side2 => exact HC0_4.out); (case side3 => exact Bc (Ql HR1_4.out HB.out)); (case side4 => exact HC1_4.out); rintro e w20 ⟨rfl, hb⟩; refine ⟨_, rfl, ?_⟩; replace BK41 := Kb BK41 hb; replace BK44 := Kb BK44 hb; replace HB := Sb (Bb2 HB.out GE41.out GE44.out) hb; clear hb)); go_ret; exact ⟨Ze, Bb2 HB.out GE41.out GE44.out⟩
    ·rw [if_neg c6] at H; have c6b0 := beq_eq_false_iff_ne.mpr c6; have c6b1 := bne_iff_ne.mpr c6; obtain rfl := Option.some.inj H; go_enter Try.func15, Try.ntmps15; go_wp2_with (first | ((with_reducible refine Qp (N := 2) rfl ?_); refine Bx (N := 2) (cs := #[.int .i64 a0_0, .int .i64 a0_1, .int .i64 a0_2, .int .i64 a0_3, .slice A0_4 l0_4.length c0_4]) (t := 32) ?_; intro gb41 hg w21 hbox hb; have BK41 := Qa (hbox); have GW41 := Gs (w := w) hg (Bb0 HB.out); have GE41 := GW41; replace HB := Sb (Bb0 HB.out) hb; clear hb hbox hg) | ((with_reducible refine Qp (N := 3) rfl ?_); refine Bx (N := 3) (cs := #[.int .i64 a1_0, .int .i64 a1_1, .int .i64 a1_2, .int .i64 a1_3, .slice A1_4 l1_4.length c1_4]) (t := 32) ?_; intro gb44 hg w22 hbox hb; have BK44 := Qa (hbox); have GW44 := Gs (w := w) hg (Bb1 HB.out GE41.out); have GE44 := GW44; replace HB := Sb (Bb1 HB.out GE41.out) hb; have NB41_44 := Nl hg BK41; have NB44_41 := Ng hg BK41; replace BK41 := Kb BK41 hb; clear hb hbox hg; have hnb23 := NB41_44.out; have hnc23 := NB44_41.out; obtain ⟨q24_0, q24_1, q24_2, q24_3, q24_4, u24_0, u24_1, u24_2, u24_3, u24_4⟩ := Cf5 BK41; obtain ⟨q25_0, q25_1, q25_2, q25_3, q25_4, u25_0, u25_1, u25_2, u25_3, u25_4⟩ := Cf5 BK44)); go_ret; exact ⟨Ze, Bb2 HB.out GE41.out GE44.out⟩
   ·rw [if_neg c5] at H; have c5b0 := beq_eq_false_iff_ne.mpr c5; have c5b1 := bne_iff_ne.mpr c5; obtain rfl := Option.some.inj H; go_enter Try.func15, Try.ntmps15; go_wp2_with (first | ((with_reducible refine Qp (N := 2) rfl ?_); refine Bx (N := 2) (cs := #[.int .i64 a0_0, .int .i64 a0_1, .int .i64 a0_2, .int .i64 a0_3, .slice A0_4 l0_4.length c0_4]) (t := 32) ?_; intro gb41 hg w26 hbox hb; have BK41 := Qa (hbox); have GW41 := Gs (w := w) hg (Bb0 HB.out); have GE41 := GW41; replace HB := Sb (Bb0 HB.out) hb; clear hb hbox hg) | ((with_reducible refine Qp (N := 3) rfl ?_); refine Bx (N := 3) (cs := #[.int .i64 a1_0, .int .i64 a1_1, .int .i64 a1_2, .int .i64 a1_3, .slice A1_4 l1_4.length c1_4]) (t := 32) ?_; intro gb44 hg w27 hbox hb; have BK44 := Qa (hbox); have GW44 := Gs (w := w) hg (Bb1 HB.out GE41.out); have GE44 := GW44; replace HB := Sb (Bb1 HB.out GE41.out) hb; have NB41_44 := Nl hg BK41; have NB44_41 := Ng hg BK41; replace BK41 := Kb BK41 hb; clear hb hbox hg; have hnb28 := NB41_44.out; have hnc28 := NB44_41.out; obtain ⟨q29_0, q29_1, q29_2, q29_3, q29_4, u29_0, u29_1, u29_2, u29_3, u29_4⟩ := Cf5 BK41; obtain ⟨q30_0, q30_1, q30_2, q30_3, q30_4, u30_0, u30_1, u30_2, u30_3, u30_4⟩ := Cf5 BK44)); go_ret; exact ⟨Ze, Bb2 HB.out GE41.out GE44.out⟩
  ·rw [if_neg c4] at H; have c4b0 := beq_eq_false_iff_ne.mpr c4; have c4b1 := bne_iff_ne.mpr c4; obtain rfl := Option.some.inj H; go_enter Try.func15, Try.ntmps15; go_wp2_with (first | ((with_reducible refine Qp (N := 2) rfl ?_); refine Bx (N := 2) (cs := #[.int .i64 a0_0, .int .i64 a0_1, .int .i64 a0_2, .int .i64 a0_3, .slice A0_4 l0_4.length c0_4]) (t := 32) ?_; intro gb41 hg w31 hbox hb; have BK41 := Qa (hbox); have GW41 := Gs (w := w) hg (Bb0 HB.out); have GE41 := GW41; replace HB := Sb (Bb0 HB.out) hb; clear hb hbox hg) | ((with_reducible refine Qp (N := 3) rfl ?_); refine Bx (N := 3) (cs := #[.int .i64 a1_0, .int .i64 a1_1, .int .i64 a1_2, .int .i64 a1_3, .slice A1_4 l1_4.length c1_4]) (t := 32) ?_; intro gb44 hg w32 hbox hb; have BK44 := Qa (hbox); have GW44 := Gs (w := w) hg (Bb1 HB.out GE41.out); have GE44 := GW44; replace HB := Sb (Bb1 HB.out GE41.out) hb; have NB41_44 := Nl hg BK41; have NB44_41 := Ng hg BK41; replace BK41 := Kb BK41 hb; clear hb hbox hg; have hnb33 := NB41_44.out; have hnc33 := NB44_41.out; obtain ⟨q34_0, q34_1, q34_2, q34_3, q34_4, u34_0, u34_1, u34_2, u34_3, u34_4⟩ := Cf5 BK41; obtain ⟨q35_0, q35_1, q35_2, q35_3, q35_4, u35_0, u35_1, u35_2, u35_3, u35_4⟩ := Cf5 BK44)); go_ret; exact ⟨Ze, Bb2 HB.out GE41.out GE44.out⟩
 ·rw [if_neg c3] at H
  have c3b0 := beq_eq_false_iff_ne.mpr c3; have c3b1 := bne_iff_ne.mpr c3; obtain rfl := Option.some.inj H; go_enter Try.func15, Try.ntmps15; go_wp2_with (first | ((with_reducible refine Qp (N := 2) rfl ?_); refine Bx (N := 2) (cs := #[.int .i64 a0_0, .int .i64 a0_1, .int .i64 a0_2, .int .i64 a0_3, .slice A0_4 l0_4.length c0_4]) (t := 32) ?_; intro gb41 hg w36 hbox hb; have BK41 := Qa (hbox); have GW41 := Gs (w := w) hg (Bb0 HB.out); have GE41 := GW41; replace HB := Sb (Bb0 HB.out) hb; clear hb hbox hg) | ((with_reducible refine Qp (N := 3) rfl ?_); refine Bx (N := 3) (cs := #[.int .i64 a1_0, .int .i64 a1_1, .int .i64 a1_2, .int .i64 a1_3, .slice A1_4 l1_4.length c1_4]) (t := 32) ?_; intro gb44 hg w37 hbox hb; have BK44 := Qa (hbox); have GW44 := Gs (w := w) hg (Bb1 HB.out GE41.out); have GE44 := GW44; replace HB := Sb (Bb1 HB.out GE41.out) hb; have NB41_44 := Nl hg BK41; have NB44_41 := Ng hg BK41; replace BK41 := Kb BK41 hb; clear hb hbox hg; have hnb38 := NB41_44.out; have hnc38 := NB44_41.out; obtain ⟨q39_0, q39_1, q39_2, q39_3, q39_4, u39_0, u39_1, u39_2, u39_3, u39_4⟩ := Cf5 BK41; obtain ⟨q40_0, q40_1, q40_2, q40_3, q40_4, u40_0, u40_1, u40_2, u40_3, u40_4⟩ := Cf5 BK44)); go_ret; exact ⟨Ze, Bb2 HB.out GE41.out GE44.out⟩
theorem laws_eqFormula_pair.calls (k : Nat) : (∀ (A0 : Option Addr) (c0 : Nat) (l0 : List (S32)) (A1 : Option Addr) (c1 : Nat) (l1 : List (S32)) (r : Bool) (w : Qm) (hr0 : Kd.C k32 w A0 l0.length l0) (hc0 : l0.length ≤ c0) (hr1 : Kd.C k32 w A1 l1.length l1) (hc1 : l1.length ≤ c1) (h : laws_eqFormulaS.f k l0 l1 = some r), Qz Qk 48 #[.slice A0 l0.length c0, .slice A1 l1.length c1] w fun e w' => e = .returned (.bool r) ∧ Qq w.heap.size w w') ∧ (∀ (a0_0 : Int) (a0_1 : Int) (a0_2 : Int) (a0_3 : Int) (A0_4 : Option Addr) (c0_4 : Nat) (l0_4 : List (S32)) (a1_0 : Int) (a1_1 : Int) (a1_2 : Int) (a1_3 : Int) (A1_4 : Option Addr) (c1_4 : Nat) (l1_4 : List (S32)) (r : Bool) (w : Qm) (hr0_4 : Kd.C k32 w A0_4 l0_4.length l0_4) (hc0_4 : l0_4.length ≤ c0_4) (hr1_4 : Kd.C k32 w A1_4 l1_4.length l1_4) (hc1_4 : l1_4.length ≤ c1_4) (h : laws_eqFormula.f k a0_0 a0_1 a0_2 a0_3 l0_4 a1_0 a1_1 a1_2 a1_3 l1_4 = some r), Qz Qk 15 #[.agg #[.int .i64 a0_0, .int .i64 a0_1, .int .i64 a0_2, .int .i64 a0_3, .slice A0_4 l0_4.length c0_4], .agg #[.int .i64 a1_0, .int .i64 a1_1, .int .i64 a1_2, .int .i64 a1_3, .slice A1_4 l1_4.length c1_4]] w fun e w' => e = .returned (.bool r) ∧ Qq w.heap.size w w') := by
 induction k using Nat.strongRecOn with
 | _ k ih => exact ⟨laws_eqFormulaS.calls_of k (fun m_ hm_ => (ih m_ hm_).1) (fun m_ hm_ => (ih m_ hm_).2), laws_eqFormula.calls_of k (fun m_ hm_ => (ih m_ hm_).1) (fun m_ hm_ => (ih m_ hm_).2)⟩
theorem laws_eqFormulaS.calls (k : Nat) : ∀ (A0 : Option Addr) (c0 : Nat) (l0 : List (S32)) (A1 : Option Addr) (c1 : Nat) (l1 : List (S32)) (r : Bool) (w : Qm) (hr0 : Kd.C k32 w A0 l0.length l0) (hc0 : l0.length ≤ c0) (hr1 : Kd.C k32 w A1 l1.length l1) (hc1 : l1.length ≤ c1) (h : laws_eqFormulaS.f k l0 l1 = some r), Qz Qk 48 #[.slice A0 l0.length c0, .slice A1 l1.length c1] w fun e w' => e = .returned (.bool r) ∧ Qq w.heap.size w w' := (laws_eqFormula_pair.calls k).1
theorem laws_eqFormula.calls (k : Nat) : ∀ (a0_0 : Int) (a0_1 : Int) (a0_2 : Int) (a0_3 : Int) (A0_4 : Option Addr) (c0_4 : Nat) (l0_4 : List (S32)) (a1_0 : Int) (a1_1 : Int) (a1_2 : Int) (a1_3 : Int) (A1_4 : Option Addr) (c1_4 : Nat) (l1_4 : List (S32)) (r : Bool) (w : Qm) (hr0_4 : Kd.C k32 w A0_4 l0_4.length l0_4) (hc0_4 : l0_4.length ≤ c0_4) (hr1_4 : Kd.C k32 w A1_4 l1_4.length l1_4) (hc1_4 : l1_4.length ≤ c1_4) (h : laws_eqFormula.f k a0_0 a0_1 a0_2 a0_3 l0_4 a1_0 a1_1 a1_2 a1_3 l1_4 = some r), Qz Qk 15 #[.agg #[.int .i64 a0_0, .int .i64 a0_1, .int .i64 a0_2, .int .i64 a0_3, .slice A0_4 l0_4.length c0_4], .agg #[.int .i64 a1_0, .int .i64 a1_1, .int .i64 a1_2, .int .i64 a1_3, .slice A1_4 l1_4.length c1_4]] w fun e w' => e = .returned (.bool r) ∧ Qq w.heap.size w w' := (laws_eqFormula_pair.calls k).2
mutual
def impl_SizeOf.l0 : Nat → Int → List (S32) → Int → Int → Option (Int)
 | 0, _, _, _, _ => none
 | k + 1, x3, x7, x8, x9 => if x9 < x8 then (if 0 ≤ x9 then (if x9 < (x7.length : Int) then ((impl_SizeOf.f k ((rd_T32 x7 x9).f0) ((rd_T32 x7 x9).f1) ((rd_T32 x7 x9).f2) ((rd_T32 x7 x9).f3) ((rd_T32 x7 x9).f4)).bind fun t54 => (impl_SizeOf.l0 k (Qg (x3 + t54)) x7 x8 (Qg (x9 + 1)))) else (none)) else (none)) else (some x3)
def impl_SizeOf.f : Nat → Int → Int → Int → Int → List (S32) → Option (Int)
 | 0, _, _, _, _, _ => none
 | k + 1, a0_0, a0_1, a0_2, a0_3, l0_4 => impl_SizeOf.l0 k 1 l0_4 (l0_4.length : Int) 0
end
theorem impl_SizeOf.mono_l : ∀ k, (∀ y0 y1 y2 y3 y4, LeO (impl_SizeOf.f k y0 y1 y2 y3 y4) (impl_SizeOf.f (k + 1) y0 y1 y2 y3 y4)) ∧ (∀ y0 y1 y2 y3, LeO (impl_SizeOf.l0 k y0 y1 y2 y3) (impl_SizeOf.l0 (k + 1) y0 y1 y2 y3))
 | 0 => ⟨fun _ _ _ _ _ r h => by simp [impl_SizeOf.f] at h, fun _ _ _ _ r h => by simp [impl_SizeOf.l0] at h⟩
 | k + 1 => by
  obtain ⟨ih0, ih1⟩ := impl_SizeOf.mono_l k; refine ⟨?_, ?_⟩
  ·intro y0 y1 y2 y3 y4; unfold impl_SizeOf.f; exact Lm2 ih0 ih1
  ·intro y0 y1 y2 y3; unfold impl_SizeOf.l0; exact Lm2 ih0 ih1
theorem impl_SizeOf.mono : ∀ a0 a1 a2 a3 a4 k, LeO (impl_SizeOf.f k a0 a1 a2 a3 a4) (impl_SizeOf.f (k + 1) a0 a1 a2 a3 a4) := by
 intro a0 a1 a2 a3 a4 k
 obtain ⟨ih0, ih1⟩ := impl_SizeOf.mono_l k
 exact ih0 a0 a1 a2 a3 a4
theorem impl_SizeOf.calls (k : Nat) : ∀ (a0_0 : Int) (a0_1 : Int) (a0_2 : Int) (a0_3 : Int) (A0_4 : Option Addr) (c0_4 : Nat) (l0_4 : List (S32)) (r : Int) (w : Qm) (hr0_4 : Kd.C k32 w A0_4 l0_4.length l0_4) (hc0_4 : l0_4.length ≤ c0_4) (h : impl_SizeOf.f k a0_0 a0_1 a0_2 a0_3 l0_4 = some r),
  Qz Qk 31 #[.agg #[.int .i64 a0_0, .int .i64 a0_1, .int .i64 a0_2, .int .i64 a0_3, .slice A0_4 l0_4.length c0_4]] w fun e w' => e = .returned (.int .i64 r) ∧ Qq w.heap.size w w' := by
 induction k using Nat.strongRecOn with
 | _ k ih =>
 intro a0_0 a0_1 a0_2 a0_3 A0_4 c0_4 l0_4 r w hr0_4 hc0_4 h
 cases k with
 | zero => exact absurd h (by simp [impl_SizeOf.f])
 | succ k =>
 simp only [impl_SizeOf.f] at h
 have hu32 := Qh
 have HR0_4 := Qa hr0_4
 have HC0_4 := Qa hc0_4
 clear hr0_4 hc0_4
 have HB := Qa (Below.refl w.heap.size w)
 have H : (impl_SizeOf.l0 k 1 l0_4 (l0_4.length : Int) 0) = some r := h
 clear h
 have H' := Qa H
 clear H
 go_enter Try.func31, Try.ntmps31
 go_wp2_with (first | ((with_reducible refine Qp (N := 1) rfl ?_); refine Bx (N := 1) (cs := #[.int .i64 a0_0, .int .i64 a0_1, .int .i64 a0_2, .int .i64 a0_3, .slice A0_4 l0_4.length c0_4]) (t := 32) ?_; intro gb47 hg w2 hbox hb; have BK47 := Qa (hbox); have GW47 := Gs (w := w) hg (Bb0 HB.out); have GE47 := GW47; replace HB := Sb (Bb0 HB.out) hb; clear hb hbox hg; obtain ⟨q3_0, q3_1, q3_2, q3_3, q3_4, u3_0, u3_1, u3_2, u3_3, u3_4⟩ := Cf5 BK47))
 go_loopg [3, 9] k (fun kq v3 v9 w' => ∃ (x3_1 : Int) (x9_1 : Int), v3 = .int .i64 x3_1 ∧ v9 = .int .i64 x9_1 ∧ Qf (impl_SizeOf.l0 kq x3_1 l0_4 (l0_4.length : Int) x9_1 = some r) ∧ Qf (kq ≤ k) ∧ Qf (w'.heap[gb47]? = some (.cells #[.int .i64 a0_0, .int .i64 a0_1, .int .i64 a0_2, .int .i64 a0_3, (.slice A0_4 l0_4.length c0_4)] 32 (0, 0))) ∧ Qf (Qq w.heap.size w w'))
 case atStart => exact ⟨(1), (0), Zf, Zf, H', ⟨Nat.le_refl _⟩, ⟨Ba BK47.out⟩, ⟨Bb1 HB.out GE47.out⟩⟩
 case round =>
  clear H'; (try clear p2)
  (try clear c3)
  (try clear q3_0)
  (try clear q3_1)
  (try clear q3_2)
  (try clear q3_3)
  (try clear q3_4)
  (try clear u3_0)
  (try clear u3_1)
  (try clear u3_2)
  (try clear u3_3)
  (try clear u3_4)
  obtain ⟨x3_1, x9_1, rfl, rfl, HA, HK1, BK47, HB⟩ := hrel; cases gk with
  | zero => exact absurd HA.out (by simp [impl_SizeOf.l0])
  | succ k1 =>
   have H := HA.out; clear HA; simp only [impl_SizeOf.l0] at H; by_cases c4 : x9_1 < (l0_4.length : Int)
   ·rw [if_pos c4] at H; replace c4 := decide_eq_true c4; by_cases c5 : 0 ≤ x9_1
    ·rw [if_pos c5] at H; replace c5 := decide_eq_true c5; by_cases c6 : x9_1 < (l0_4.length : Int)
     ·rw [if_pos c6] at H; replace c6 := decide_eq_true c6; obtain ⟨t54, A7, H⟩ := Ob H; (try dsimp only at H)
      have H' := Qa H; clear H; have p45 : 0 ≤ (x9_1 : Int) := Da; have q45 : x9_1 < (l0_4.length : Int) := Da; obtain ⟨ad45, A45_4, c116_4, e45, hx45_0, hx45_1, hx45_2, hx45_3, hx45_4, hl116_4, hi116_4⟩ := at_T32 HR0_4.out x9_1 p45 q45; cases e45
      replace hx45_0 := Cx HB hx45_0; replace hx45_1 := Cx HB hx45_1; replace hx45_2 := Cx HB hx45_2; replace hx45_3 := Cx HB hx45_3; replace hx45_4 := Cx HB hx45_4; have HR45_4 := Qa hi116_4; have HC116_4 := Qa hl116_4; clear hi116_4 hl116_4; replace p45 := eq_true p45; replace q45 := eq_true q45; go_wp2_with (first | ((with_reducible refine Qp (N := 5) rfl ?_); refine Bz5 5 32 ?_; intro gb50 hg w8 hbox hb; have BK50 := Qa (hbox); have GW50 := Gs (w := w) hg (Bb1 HB.out GE47.out); have GE50 := GW50; replace HB := Sb (Bb1 HB.out GE47.out) hb; have NB47_50 := Nl hg BK47; have NB50_47 := Ng hg BK47; replace BK47 := Kb BK47 hb; clear hb hbox hg; have hnb9 := NB50_47.out; have hnc9 := NB47_50.out; obtain ⟨q10_0, q10_1, q10_2, q10_3, q10_4, u10_0, u10_1, u10_2, u10_3, u10_4⟩ := Cf5 BK50) | ((with_reducible refine Qc (f := 31) rfl ?_); refine Gl 15 Try.func31 #[.agg #[.int .i64 ((rd_T32 l0_4 x9_1).f0), .int .i64 ((rd_T32 l0_4 x9_1).f1), .int .i64 ((rd_T32 l0_4 x9_1).f2), .int .i64 ((rd_T32 l0_4 x9_1).f3), .slice A45_4 ((rd_T32 l0_4 x9_1).f4).length c116_4]] ?_; (with_reducible refine (ih k1 (by have := HK1.out; omega) ((rd_T32 l0_4 x9_1).f0) ((rd_T32 l0_4 x9_1).f1) ((rd_T32 l0_4 x9_1).f2) ((rd_T32 l0_4 x9_1).f3) _ _ ((rd_T32 l0_4 x9_1).f4) t54 _ ?_ ?_ A7.out).mono ?_); exact Ql HR45_4.out (Bb2 HB.out GE47.out GE50.out); exact HC116_4.out; rintro e w11 ⟨rfl, hb⟩; refine ⟨_, rfl, ?_⟩; replace BK47 := Kf BK47 NB47_50.out hb; replace BK50 := Kx0 (.cells #[.int .i64 ((rd_T32 l0_4 x9_1).f0), .int .i64 ((rd_T32 l0_4 x9_1).f1), .int .i64 ((rd_T32 l0_4 x9_1).f2), .int .i64 ((rd_T32 l0_4 x9_1).f3), .slice A45_4 ((rd_T32 l0_4 x9_1).f4).length c116_4] 32 (0, 0)) BK50 hb; replace HB := Sb (Bb2 HB.out GE47.out GE50.out) hb; clear hb)); go_roundg k1
      case measure => have := HK1.out; omega
      case rel => exact ⟨(Qg (x3_1 + t54)), (Qg (x9_1 + 1)), Zf, Zf, H', ⟨by have := HK1.out; omega⟩, ⟨Ba BK47.out⟩, ⟨Bb2 HB.out GE47.out GE50.out⟩⟩
     ·rw [if_neg c6] at H; exact absurd H (by simp)
    ·rw [if_neg c5] at H; exact absurd H (by simp)
   ·rw [if_neg c4] at H; replace c4 := decide_eq_false c4; obtain rfl := Option.some.inj H; go_wp2; go_ret; exact ⟨Ze, Bb1 HB.out GE47.out⟩
mutual
def impl_DepthOf.l0 : Nat → Int → List (S32) → Int → Int → Option (Int)
 | 0, _, _, _, _ => none
 | k + 1, x3, x7, x8, x9 => if x9 < x8 then (if 0 ≤ x9 then (if x9 < (x7.length : Int) then ((impl_DepthOf.f k ((rd_T32 x7 x9).f0) ((rd_T32 x7 x9).f1) ((rd_T32 x7 x9).f2) ((rd_T32 x7 x9).f3) ((rd_T32 x7 x9).f4)).bind fun t52 => (impl_DepthOf.l0 k (mx x3 t52) x7 x8 (Qg (x9 + 1)))) else (none)) else (none)) else (some (Qg (x3 + 1)))
def impl_DepthOf.f : Nat → Int → Int → Int → Int → List (S32) → Option (Int)
 | 0, _, _, _, _, _ => none
 | k + 1, a0_0, a0_1, a0_2, a0_3, l0_4 => impl_DepthOf.l0 k 0 l0_4 (l0_4.length : Int) 0
end
theorem impl_DepthOf.mono_l : ∀ k, (∀ y0 y1 y2 y3 y4, LeO (impl_DepthOf.f k y0 y1 y2 y3 y4) (impl_DepthOf.f (k + 1) y0 y1 y2 y3 y4)) ∧ (∀ y0 y1 y2 y3, LeO (impl_DepthOf.l0 k y0 y1 y2 y3) (impl_DepthOf.l0 (k + 1) y0 y1 y2 y3))
 | 0 => ⟨fun _ _ _ _ _ r h => by simp [impl_DepthOf.f] at h, fun _ _ _ _ r h => by simp [impl_DepthOf.l0] at h⟩
 | k + 1 => by
  obtain ⟨ih0, ih1⟩ := impl_DepthOf.mono_l k; refine ⟨?_, ?_⟩
  ·intro y0 y1 y2 y3 y4; unfold impl_DepthOf.f; exact Lm2 ih0 ih1
  ·intro y0 y1 y2 y3; unfold impl_DepthOf.l0; exact Lm2 ih0 ih1
theorem impl_DepthOf.mono : ∀ a0 a1 a2 a3 a4 k, LeO (impl_DepthOf.f k a0 a1 a2 a3 a4) (impl_DepthOf.f (k + 1) a0 a1 a2 a3 a4) := by
 intro a0 a1 a2 a3 a4 k
 obtain ⟨ih0, ih1⟩ := impl_DepthOf.mono_l k
 exact ih0 a0 a1 a2 a3 a4
theorem impl_DepthOf.calls (k : Nat) : ∀ (a0_0 : Int) (a0_1 : Int) (a0_2 : Int) (a0_3 : Int) (A0_4 : Option Addr) (c0_4 : Nat) (l0_4 : List (S32)) (r : Int) (w : Qm) (hr0_4 : Kd.C k32 w A0_4 l0_4.length l0_4) (hc0_4 : l0_4.length ≤ c0_4) (h : impl_DepthOf.f k a0_0 a0_1 a0_2 a0_3 l0_4 = some r),
  Qz Qk 32 #[.agg #[.int .i64 a0_0, .int .i64 a0_1, .int .i64 a0_2, .int .i64 a0_3, .slice A0_4 l0_4.length c0_4]] w fun e w' => e = .returned (.int .i64 r) ∧ Qq w.heap.size w w' := by
 induction k using Nat.strongRecOn with
 | _ k ih =>
 intro a0_0 a0_1 a0_2 a0_3 A0_4 c0_4 l0_4 r w hr0_4 hc0_4 h
 cases k with
 | zero => exact absurd h (by simp [impl_DepthOf.f])
 | succ k =>
 simp only [impl_DepthOf.f] at h
 have hu32 := Qh
 have HR0_4 := Qa hr0_4
 have HC0_4 := Qa hc0_4
 clear hr0_4 hc0_4
 have HB := Qa (Below.refl w.heap.size w)
 have H : (impl_DepthOf.l0 k 0 l0_4 (l0_4.length : Int) 0) = some r := h
 clear h
 have H' := Qa H
 clear H
 go_enter Try.func32, Try.ntmps32
 go_wp2_with (first | ((with_reducible refine Qp (N := 1) rfl ?_); refine Bx (N := 1) (cs := #[.int .i64 a0_0, .int .i64 a0_1, .int .i64 a0_2, .int .i64 a0_3, .slice A0_4 l0_4.length c0_4]) (t := 32) ?_; intro gb49 hg w2 hbox hb; have BK49 := Qa (hbox); have GW49 := Gs (w := w) hg (Bb0 HB.out); have GE49 := GW49; replace HB := Sb (Bb0 HB.out) hb; clear hb hbox hg; obtain ⟨q3_0, q3_1, q3_2, q3_3, q3_4, u3_0, u3_1, u3_2, u3_3, u3_4⟩ := Cf5 BK49))
 go_loopg [3, 9] k (fun kq v3 v9 w' => ∃ (x3_1 : Int) (x9_1 : Int), v3 = .int .i64 x3_1 ∧ v9 = .int .i64 x9_1 ∧ Qf (impl_DepthOf.l0 kq x3_1 l0_4 (l0_4.length : Int) x9_1 = some r) ∧ Qf (kq ≤ k) ∧ Qf (w'.heap[gb49]? = some (.cells #[.int .i64 a0_0, .int .i64 a0_1, .int .i64 a0_2, .int .i64 a0_3, (.slice A0_4 l0_4.length c0_4)] 32 (0, 0))) ∧ Qf (Qq w.heap.size w w'))
 case atStart => exact ⟨(0), (0), Zf, Zf, H', ⟨Nat.le_refl _⟩, ⟨Ba BK49.out⟩, ⟨Bb1 HB.out GE49.out⟩⟩
 case round =>
  clear H'; (try clear p2)
  (try clear c3)
  (try clear q3_0)
  (try clear q3_1)
  (try clear q3_2)
  (try clear q3_3)
  (try clear q3_4)
  (try clear u3_0)
  (try clear u3_1)
  (try clear u3_2)
  (try clear u3_3)
  (try clear u3_4)
  obtain ⟨x3_1, x9_1, rfl, rfl, HA, HK1, BK49, HB⟩ := hrel; cases gk with
  | zero => exact absurd HA.out (by simp [impl_DepthOf.l0])
  | succ k1 =>
   have H := HA.out; clear HA; simp only [impl_DepthOf.l0] at H; by_cases c4 : x9_1 < (l0_4.length : Int)
   ·rw [if_pos c4] at H; replace c4 := decide_eq_true c4; by_cases c5 : 0 ≤ x9_1
    ·rw [if_pos c5] at H; replace c5 := decide_eq_true c5; by_cases c6 : x9_1 < (l0_4.length : Int)
     ·rw [if_pos c6] at H; replace c6 := decide_eq_true c6; obtain ⟨t52, A7, H⟩ := Ob H; (try dsimp only at H)
      obtain ⟨ji8, hji8⟩ : ∃ j_ : Int, (mx x3_1 t52) = j_ := ⟨_, rfl⟩; replace H : (impl_DepthOf.l0 k1 ji8 l0_4 (l0_4.length : Int) (Qg (x9_1 + 1))) = some r := by first | (rw [hji8] at H; exact H) | (simp only [hji8] at H ⊢; exact H)
      (try rw [hji8] at A7)
      have hji8_ : (if x3_1 < t52 then t52 else x3_1) = ji8 := hji8; have H' := Qa H; clear H; have p46 : 0 ≤ (x9_1 : Int) := Da; have q46 : x9_1 < (l0_4.length : Int) := Da; obtain ⟨ad46, A46_4, c120_4, e46, hx46_0, hx46_1, hx46_2, hx46_3, hx46_4, hl120_4, hi120_4⟩ := at_T32 HR0_4.out x9_1 p46 q46; cases e46
      replace hx46_0 := Cx HB hx46_0; replace hx46_1 := Cx HB hx46_1; replace hx46_2 := Cx HB hx46_2; replace hx46_3 := Cx HB hx46_3; replace hx46_4 := Cx HB hx46_4; have HR46_4 := Qa hi120_4; have HC120_4 := Qa hl120_4; clear hi120_4 hl120_4; replace p46 := eq_true p46; replace q46 := eq_true q46; go_wp2_with (first | ((with_reducible refine Qp (N := 5) rfl ?_); refine Bz5 5 32 ?_; intro gb51 hg w9 hbox hb; have BK51 := Qa (hbox); have GW51 := Gs (w := w) hg (Bb1 HB.out GE49.out); have GE51 := GW51; replace HB := Sb (Bb1 HB.out GE49.out) hb; have NB49_51 := Nl hg BK49; have NB51_49 := Ng hg BK49; replace BK49 := Kb BK49 hb; clear hb hbox hg; have hnb10 := NB51_49.out; have hnc10 := NB49_51.out; obtain ⟨q11_0, q11_1, q11_2, q11_3, q11_4, u11_0, u11_1, u11_2, u11_3, u11_4⟩ := Cf5 BK51) | ((with_reducible refine Qc (f := 32) rfl ?_); refine Gl 15 Try.func32 #[.agg #[.int .i64 ((rd_T32 l0_4 x9_1).f0), .int .i64 ((rd_T32 l0_4 x9_1).f1), .int .i64 ((rd_T32 l0_4 x9_1).f2), .int .i64 ((rd_T32 l0_4 x9_1).f3), .slice A46_4 ((rd_T32 l0_4 x9_1).f4).length c120_4]] ?_; (with_reducible refine (ih k1 (by have := HK1.out; omega) ((rd_T32 l0_4 x9_1).f0) ((rd_T32 l0_4 x9_1).f1) ((rd_T32 l0_4 x9_1).f2) ((rd_T32 l0_4 x9_1).f3) _ _ ((rd_T32 l0_4 x9_1).f4) t52 _ ?_ ?_ A7.out).mono ?_); exact Ql HR46_4.out (Bb2 HB.out GE49.out GE51.out); exact HC120_4.out; rintro e w12 ⟨rfl, hb⟩; refine ⟨_, rfl, ?_⟩; replace BK49 := Kf BK49 NB49_51.out hb; replace BK51 := Kx0 (.cells #[.int .i64 ((rd_T32 l0_4 x9_1).f0), .int .i64 ((rd_T32 l0_4 x9_1).f1), .int .i64 ((rd_T32 l0_4 x9_1).f2), .int .i64 ((rd_T32 l0_4 x9_1).f3), .slice A46_4 ((rd_T32 l0_4 x9_1).f4).length c120_4] 32 (0, 0)) BK51 hb; replace HB := Sb (Bb2 HB.out GE49.out GE51.out) hb; clear hb)); go_roundg k1
      case measure => have := HK1.out; omega
      case rel => exact ⟨(ji8), (Qg (x9_1 + 1)), (by first | rfl | (simp; done) | (simp only [← hji8] <;> (first | rfl | simp)) | (simp [*]; done)), Zf, H', ⟨by have := HK1.out; omega⟩, ⟨Ba BK49.out⟩, ⟨Bb2 HB.out GE49.out GE51.out⟩⟩
     ·rw [if_neg c6] at H; exact absurd H (by simp)
    ·rw [if_neg c5] at H; exact absurd H (by simp)
   ·rw [if_neg c4] at H; replace c4 := decide_eq_false c4; obtain rfl := Option.some.inj H; go_wp2; go_ret; exact ⟨Ze, Bb1 HB.out GE49.out⟩
def impl_within.f (a0 : Int) (a1 : Int) (a2 : Int) : Option (Bool) := if a1 ≤ a0 then (some (decide (a0 ≤ a2))) else (some false)
theorem impl_within.calls (a0 : Int) (a1 : Int) (a2 : Int) (r : Bool) (w : Qm) (h : impl_within.f a0 a1 a2 = some r) :
  Qz Qk 66 #[.int .i64 a0, .int .i64 a1, .int .i64 a2] w fun e w' => e = .returned (.bool r) ∧ Drawn0 w w' := by
 have H : (if a1 ≤ a0 then (some (decide (a0 ≤ a2))) else (some false)) = some r := h
 clear h
 by_cases c4 : a1 ≤ a0
 ·rw [if_pos c4] at H
  replace c4 := decide_eq_true c4; obtain rfl := Option.some.inj H; go_enter Try.func66, Try.ntmps66; go_wp2; go_ret; exact ⟨by first | rfl | (simp; done) | (simp [*]; done), by repeat (first | exact Drawn0.refl _ | apply Drawn0.step)⟩
 ·rw [if_neg c4] at H
  replace c4 := decide_eq_false c4; obtain rfl := Option.some.inj H; go_enter Try.func66, Try.ntmps66; go_wp2; go_ret; exact ⟨by first | rfl | (simp; done) | (simp [*]; done), by repeat (first | exact Drawn0.refl _ | apply Drawn0.step)⟩
end Go.Proofs.Ytoljagpjejpmpaa.PFnExactParseFormula
