-- Laid by wip/tools/xprint.py (a program of this session over the kit's print). Not trusted: Lean checks it.
import Derived.Test.YtndkkpjofddfjaaGreatDoorXAuto
import Derived.Test.YtndkkpjofddfjaaGreatDoorPFnExactParseProgramx0
import Derived.Test.YtndkkpjofddfjaaGreatDoorPFnExactParseProgramx1
import Derived.Test.YtndkkpjofddfjaaGreatDoorPFnExactParseProgramx2
namespace Go.Proofs.YtndkkpjofddfjaaGreatDoor.PFnExactParseProgram
open Go.RowKit Go.Proofs.YtndkkpjofddfjaaGreatDoorW.PrintWords Go.Proofs.YtndkkpjofddfjaaGreatDoorW.PrintLast Go.Proofs.YtndkkpjofddfjaaGreatDoorW.PrintMore
attribute [local go_sem] max2_int min2_int max_two min_two max_three min_three max_four min_four
set_option linter.unusedVariables false
set_option linter.unusedSimpArgs false
def spec_IsStmt.j0 : Nat → List ByteArray → Int → Bool → Int → ByteArray → ByteArray → Option (Bool)
 | 0, _, _, _, _, _, _ => none
 | k + 1, x0, x5, x33, x123000, x123001, x123002 => if x33 = true then (some false) else (if x5 < 1 then (if x5 < 2 then (some true) else ((spec_IndexOf.f k x0 x123002).bind fun t125 => (some (decide (t125 ≥ 0))))) else ((spec_IndexOf.f k x0 x123001).bind fun t126 => (if t126 ≥ 0 then (if x5 < 2 then (some true) else ((spec_IndexOf.f k x0 x123002).bind fun t127 => (some (decide (t127 ≥ 0))))) else (some false))))
def spec_IsStmt.f (k : Nat) (l0 : List ByteArray) (a1_0 : Int) (a1_1 : ByteArray) (a1_2 : ByteArray) : Option (Bool) := (spec_NamesOf.f k a1_0).bind fun t123 => ((spec_AreVars.f k l0).bind fun t124 => (if t124 = true then (if t123 < 0 then (spec_IsStmt.j0 k l0 t123 true a1_0 a1_1 a1_2) else (if t123 < 1 then (if a1_1.toList = ([] : List UInt8) then (if t123 < 2 then (spec_IsStmt.j0 k l0 t123 (a1_2.toList != ([] : List UInt8)) a1_0 a1_1 a1_2) else (spec_IsStmt.j0 k l0 t123 false a1_0 a1_1 a1_2)) else (spec_IsStmt.j0 k l0 t123 true a1_0 a1_1 a1_2)) else (if t123 < 2 then (spec_IsStmt.j0 k l0 t123 (a1_2.toList != ([] : List UInt8)) a1_0 a1_1 a1_2) else (spec_IsStmt.j0 k l0 t123 false a1_0 a1_1 a1_2)))) else (spec_IsStmt.j0 k l0 t123 true a1_0 a1_1 a1_2)))
theorem spec_IsStmt.mono_l : ∀ k, (∀ y0 y1 y2 y3 y4 y5, LeO (spec_IsStmt.j0 k y0 y1 y2 y3 y4 y5) (spec_IsStmt.j0 (k + 1) y0 y1 y2 y3 y4 y5))
 | 0 => fun _ _ _ _ _ _ r h => by simp [spec_IsStmt.j0] at h
 | k + 1 => by
  have ih0 := spec_IsStmt.mono_l k
  ·intro y0 y1 y2 y3 y4 y5; unfold spec_IsStmt.j0; repeat' with_reducible first | exact ih0 _ _ _ _ _ _ | exact spec_AreVars.mono _ _ | exact spec_IndexOf.mono _ _ _ | exact spec_NamesOf.mono _ _ | exact LeO.refl _ | exact LeO.none _ | refine LeO.ite ?_ ?_ | refine LeO.bind ?_ (fun _ => ?_)
theorem spec_IsStmt.mono : ∀ a0 a1 a2 a3 k, LeO (spec_IsStmt.f k a0 a1 a2 a3) (spec_IsStmt.f (k + 1) a0 a1 a2 a3) := by
 intro a0 a1 a2 a3 k
 have ih0 := spec_IsStmt.mono_l k
 unfold spec_IsStmt.f
 repeat' with_reducible first | exact ih0 _ _ _ _ _ _ | exact spec_AreVars.mono _ _ | exact spec_IndexOf.mono _ _ _ | exact spec_NamesOf.mono _ _ | exact LeO.refl _ | exact LeO.none _ | refine LeO.ite ?_ ?_ | refine LeO.bind ?_ (fun _ => ?_)
set_option maxHeartbeats 32000000 in
set_option maxRecDepth 100000 in
theorem spec_IsStmt.calls (k : Nat) (A0 : Option Addr) (c0 : Nat) (l0 : List ByteArray) (a1_0 : Int) (a1_1 : ByteArray) (a1_2 : ByteArray) (r : Bool) (w : World) (hr0 : Kd.C Kd.string w A0 l0.length l0) (hc0 : l0.length ≤ c0) (h : spec_IsStmt.f k l0 a1_0 a1_1 a1_2 = some r) :
  Calls Tryz.prog 58 #[.slice A0 l0.length c0, .agg #[.int .i64 a1_0, .string a1_1, .string a1_2]] w fun e w' => e = .returned (.bool r) ∧ Below w.heap.size w w' := by
 have hu50 := Tryz.underlying50
 have HR0 := Aside0.mk hr0
 have HC0 := Aside0.mk hc0
 clear hr0 hc0
 have HB := Aside0.mk (Below.refl w.heap.size w)
 have H : ((spec_NamesOf.f k a1_0).bind fun t123 => ((spec_AreVars.f k l0).bind fun t124 => (if t124 = true then (if t123 < 0 then (spec_IsStmt.j0 k l0 t123 true a1_0 a1_1 a1_2) else (if t123 < 1 then (if a1_1.toList = ([] : List UInt8) then (if t123 < 2 then (spec_IsStmt.j0 k l0 t123 (a1_2.toList != ([] : List UInt8)) a1_0 a1_1 a1_2) else (spec_IsStmt.j0 k l0 t123 false a1_0 a1_1 a1_2)) else (spec_IsStmt.j0 k l0 t123 true a1_0 a1_1 a1_2)) else (if t123 < 2 then (spec_IsStmt.j0 k l0 t123 (a1_2.toList != ([] : List UInt8)) a1_0 a1_1 a1_2) else (spec_IsStmt.j0 k l0 t123 false a1_0 a1_1 a1_2)))) else (spec_IsStmt.j0 k l0 t123 true a1_0 a1_1 a1_2)))) = some r := h
 clear h
 replace H := Option.bind_eq_some_iff.mp H
 obtain ⟨t123, A30, H⟩ := H
 replace H : ((spec_AreVars.f k l0).bind fun t124 => (if t124 = true then (if t123 < 0 then (spec_IsStmt.j0 k l0 t123 true a1_0 a1_1 a1_2) else (if t123 < 1 then (if a1_1.toList = ([] : List UInt8) then (if t123 < 2 then (spec_IsStmt.j0 k l0 t123 (a1_2.toList != ([] : List UInt8)) a1_0 a1_1 a1_2) else (spec_IsStmt.j0 k l0 t123 false a1_0 a1_1 a1_2)) else (spec_IsStmt.j0 k l0 t123 true a1_0 a1_1 a1_2)) else (if t123 < 2 then (spec_IsStmt.j0 k l0 t123 (a1_2.toList != ([] : List UInt8)) a1_0 a1_1 a1_2) else (spec_IsStmt.j0 k l0 t123 false a1_0 a1_1 a1_2)))) else (spec_IsStmt.j0 k l0 t123 true a1_0 a1_1 a1_2))) = some r := H
 have A3 := Aside0.mk A30
 clear A30
 have HC4 := Aside0.mk H
 clear H
 go_enter Tryz.func58, Tryz.ntmps58
 go_upto_region 2 with (first | ((with_reducible refine gate_dst (N := 3) rfl ?_); refine Bx (N := 3) (cs := #[.int .i64 a1_0, .string a1_1, .string a1_2]) (t := 50) (h := ?_); intro gb122 hg w5 hbox hb; have BK122 := Aside0.mk (hbox); have GW122 := Gs (w := w) hg (Bb0 HB.out); have GE122 := Gs (w := w) hg (Bb0 HB.out); replace HB := Sb (Bb0 HB.out) hb; clear hb hbox hg; obtain ⟨q6_0, q6_1, q6_2, u6_0, u6_1, u6_2⟩ := Cf3 BK122) | ((with_reducible refine gate_callee (f := 68) rfl ?_); refine goesL_ (some 8) rfl rfl Tryz.func68 (by kernel_rfl) rfl #[.int .i64 a1_0] rfl Zm ?_; (with_reducible refine (spec_NamesOf.calls k a1_0 t123 _ A3.out).mono ?_); rintro e w' ⟨rfl, ⟨nd, rfl⟩⟩; refine ⟨_, rfl, ?_⟩))
 (try simp only [Act.put, List.setIfInBounds_toArray, List.set_cons_zero, List.set_cons_succ])
 go_cut [33] (fun v33 wc => ∃ (kq : Nat) (x33_3 : Bool), v33 = .bool x33_3 ∧ Aside0 (spec_IsStmt.j0 kq l0 t123 x33_3 a1_0 a1_1 a1_2 = some r) ∧ Aside0 (kq ≤ k) ∧ Aside0 (wc.heap[gb122]? = some (.cells #[.int .i64 a1_0, .string a1_1, .string a1_2] 50 (0, 0))) ∧ Aside0 (Below w.heap.size w wc))
 case first =>
  have H := HC4.out; clear HC4; replace H := Option.bind_eq_some_iff.mp H; obtain ⟨t124, A70, H⟩ := H; replace H : (if t124 = true then (if t123 < 0 then (spec_IsStmt.j0 k l0 t123 true a1_0 a1_1 a1_2) else (if t123 < 1 then (if a1_1.toList = ([] : List UInt8) then (if t123 < 2 then (spec_IsStmt.j0 k l0 t123 (a1_2.toList != ([] : List UInt8)) a1_0 a1_1 a1_2) else (spec_IsStmt.j0 k l0 t123 false a1_0 a1_1 a1_2)) else (spec_IsStmt.j0 k l0 t123 true a1_0 a1_1 a1_2)) else (if t123 < 2 then (spec_IsStmt.j0 k l0 t123 (a1_2.toList != ([] : List UInt8)) a1_0 a1_1 a1_2) else (spec_IsStmt.j0 k l0 t123 false a1_0 a1_1 a1_2)))) else (spec_IsStmt.j0 k l0 t123 true a1_0 a1_1 a1_2)) = some r := H; have A7 := Aside0.mk A70; clear A70; by_cases c8 : t124 = true
  ·subst c8; have H1 : (if t123 < 0 then (spec_IsStmt.j0 k l0 t123 true a1_0 a1_1 a1_2) else (if t123 < 1 then (if a1_1.toList = ([] : List UInt8) then (if t123 < 2 then (spec_IsStmt.j0 k l0 t123 (a1_2.toList != ([] : List UInt8)) a1_0 a1_1 a1_2) else (spec_IsStmt.j0 k l0 t123 false a1_0 a1_1 a1_2)) else (spec_IsStmt.j0 k l0 t123 true a1_0 a1_1 a1_2)) else (if t123 < 2 then (spec_IsStmt.j0 k l0 t123 (a1_2.toList != ([] : List UInt8)) a1_0 a1_1 a1_2) else (spec_IsStmt.j0 k l0 t123 false a1_0 a1_1 a1_2)))) = some r := by rw [if_pos rfl] at H; exact H
   clear H; have H := H1; clear H1; by_cases c9 : t123 < 0
   ·rw [if_pos c9] at H; have c9b0 : decide (t123 < 0) = true := decide_eq_true c9; clear c9; (first | rw [c9b0] | (simp only [i64_w, i32_w]; rw [c9b0]) | skip)
    have H' := Aside0.mk H; clear H; go_wp2_with (first | ((with_reducible refine gate_callee (f := 59) rfl ?_); refine goesL_ (some 10) rfl rfl Tryz.func59 (by kernel_rfl) rfl #[.slice A0 l0.length c0] rfl Zm ?_; (with_reducible refine (spec_AreVars.calls k _ _ l0 true _ ?side1 ?side2 A7.out).mono ?_); (case side1 => exact Bc (Kd.C_below HR0.out HB.out)); (case side2 => exact HC0.out); rintro e w' ⟨rfl, ⟨nd, rfl⟩⟩; refine ⟨_, rfl, ?_⟩)); go_meet
    case rel => exact ⟨_, (true), Zf, H', ⟨by first | omega | exact Nat.le_refl _⟩, ⟨Ba BK122.out⟩, ⟨Bb1 HB.out GE122.out⟩⟩
   ·rw [if_neg c9] at H; have c9b0 : decide (t123 < 0) = false := decide_eq_false c9; clear c9; (first | rw [c9b0] | (simp only [i64_w, i32_w]; rw [c9b0]) | skip)
    by_cases c10 : t123 < 1
    ·rw [if_pos c10] at H; have c10b0 : decide (t123 < 1) = true := decide_eq_true c10; clear c10; by_cases c11 : a1_1.toList = ([] : List UInt8)
     ·rw [if_pos c11] at H; have c11b0 : (a1_1.toList == ([] : List UInt8)) = true := beq_iff_eq.mpr c11; have c11b1 : (a1_1.toList != ([] : List UInt8)) = false := bne_eq_false_iff_eq.mpr c11; clear c11; by_cases c12 : t123 < 2
      ·rw [if_pos c12] at H; have c12b0 : decide (t123 < 2) = true := decide_eq_true c12; clear c12; have H' := Aside0.mk H; clear H; go_wp2_with (first | ((with_reducible refine gate_callee (f := 59) rfl ?_); refine goesL_ (some 10) rfl rfl Tryz.func59 (by kernel_rfl) rfl #[.slice A0 l0.length c0] rfl Zm ?_; (with_reducible refine (spec_AreVars.calls k _ _ l0 true _ ?side1 ?side2 A7.out).mono ?_); (case side1 => exact Bc (Kd.C_below HR0.out HB.out)); (case side2 => exact HC0.out); rintro e w' ⟨rfl, ⟨nd, rfl⟩⟩; refine ⟨_, rfl, ?_⟩; obtain ⟨q13_0, q13_1, q13_2, u13_0, u13_1, u13_2⟩ := Cf3 BK122)); go_meet
       case rel => exact ⟨_, ((a1_2.toList != ([] : List UInt8))), Zf, H', ⟨by first | omega | exact Nat.le_refl _⟩, ⟨Ba BK122.out⟩, ⟨Bb1 HB.out GE122.out⟩⟩
      ·rw [if_neg c12] at H; have c12b0 : decide (t123 < 2) = false := decide_eq_false c12; clear c12; have H' := Aside0.mk H; clear H; go_wp2_with (first | ((with_reducible refine gate_callee (f := 59) rfl ?_); refine goesL_ (some 10) rfl rfl Tryz.func59 (by kernel_rfl) rfl #[.slice A0 l0.length c0] rfl Zm ?_; (with_reducible refine (spec_AreVars.calls k _ _ l0 true _ ?side1 ?side2 A7.out).mono ?_); (case side1 => exact Bc (Kd.C_below HR0.out HB.out)); (case side2 => exact HC0.out); rintro e w' ⟨rfl, ⟨nd, rfl⟩⟩; refine ⟨_, rfl, ?_⟩; obtain ⟨q14_0, q14_1, q14_2, u14_0, u14_1, u14_2⟩ := Cf3 BK122)); go_meet
       case rel => exact ⟨_, (false), Zf, H', ⟨by first | omega | exact Nat.le_refl _⟩, ⟨Ba BK122.out⟩, ⟨Bb1 HB.out GE122.out⟩⟩
     ·rw [if_neg c11] at H; have c11b0 : (a1_1.toList == ([] : List UInt8)) = false := beq_eq_false_iff_ne.mpr c11; have c11b1 : (a1_1.toList != ([] : List UInt8)) = true := bne_iff_ne.mpr c11; have H' := Aside0.mk H; clear H; go_wp2_with (first | ((with_reducible refine gate_callee (f := 59) rfl ?_); refine goesL_ (some 10) rfl rfl Tryz.func59 (by kernel_rfl) rfl #[.slice A0 l0.length c0] rfl Zm ?_; (with_reducible refine (spec_AreVars.calls k _ _ l0 true _ ?side1 ?side2 A7.out).mono ?_); (case side1 => exact Bc (Kd.C_below HR0.out HB.out)); (case side2 => exact HC0.out); rintro e w' ⟨rfl, ⟨nd, rfl⟩⟩; refine ⟨_, rfl, ?_⟩; obtain ⟨q15_0, q15_1, q15_2, u15_0, u15_1, u15_2⟩ := Cf3 BK122)); go_meet
      case rel => exact ⟨_, (true), Zf, H', ⟨by first | omega | exact Nat.le_refl _⟩, ⟨Ba BK122.out⟩, ⟨Bb1 HB.out GE122.out⟩⟩
    ·rw [if_neg c10] at H; have c10b0 : decide (t123 < 1) = false := decide_eq_false c10; clear c10; by_cases c16 : t123 < 2
     ·rw [if_pos c16] at H; have c16b0 : decide (t123 < 2) = true := decide_eq_true c16; clear c16; have H' := Aside0.mk H; clear H; go_wp2_with (first | ((with_reducible refine gate_callee (f := 59) rfl ?_); refine goesL_ (some 10) rfl rfl Tryz.func59 (by kernel_rfl) rfl #[.slice A0 l0.length c0] rfl Zm ?_; (with_reducible refine (spec_AreVars.calls k _ _ l0 true _ ?side1 ?side2 A7.out).mono ?_); (case side1 => exact Bc (Kd.C_below HR0.out HB.out)); (case side2 => exact HC0.out); rintro e w' ⟨rfl, ⟨nd, rfl⟩⟩; refine ⟨_, rfl, ?_⟩; obtain ⟨q17_0, q17_1, q17_2, u17_0, u17_1, u17_2⟩ := Cf3 BK122)); go_meet
      case rel => exact ⟨_, ((a1_2.toList != ([] : List UInt8))), Zf, H', ⟨by first | omega | exact Nat.le_refl _⟩, ⟨Ba BK122.out⟩, ⟨Bb1 HB.out GE122.out⟩⟩
     ·rw [if_neg c16] at H; have c16b0 : decide (t123 < 2) = false := decide_eq_false c16; clear c16; have H' := Aside0.mk H; clear H; go_wp2_with (first | ((with_reducible refine gate_callee (f := 59) rfl ?_); refine goesL_ (some 10) rfl rfl Tryz.func59 (by kernel_rfl) rfl #[.slice A0 l0.length c0] rfl Zm ?_; (with_reducible refine (spec_AreVars.calls k _ _ l0 true _ ?side1 ?side2 A7.out).mono ?_); (case side1 => exact Bc (Kd.C_below HR0.out HB.out)); (case side2 => exact HC0.out); rintro e w' ⟨rfl, ⟨nd, rfl⟩⟩; refine ⟨_, rfl, ?_⟩)); go_meet
      case rel => exact ⟨_, (false), Zf, H', ⟨by first | omega | exact Nat.le_refl _⟩, ⟨Ba BK122.out⟩, ⟨Bb1 HB.out GE122.out⟩⟩
  ·replace c8 := Bool.eq_false_iff.mpr c8; subst c8; have H1 : (spec_IsStmt.j0 k l0 t123 true a1_0 a1_1 a1_2) = some r := by rw [if_neg (show ¬ (false = true) by decide)] at H; exact H
   clear H; have H := H1; clear H1; have H' := Aside0.mk H; clear H; go_wp2_with (first | ((with_reducible refine gate_callee (f := 59) rfl ?_); refine goesL_ (some 10) rfl rfl Tryz.func59 (by kernel_rfl) rfl #[.slice A0 l0.length c0] rfl Zm ?_; (with_reducible refine (spec_AreVars.calls k _ _ l0 false _ ?side1 ?side2 A7.out).mono ?_); (case side1 => exact Bc (Kd.C_below HR0.out HB.out)); (case side2 => exact HC0.out); rintro e w' ⟨rfl, ⟨nd, rfl⟩⟩; refine ⟨_, rfl, ?_⟩)); go_meet
   case rel => exact ⟨_, (true), Zf, H', ⟨by first | omega | exact Nat.le_refl _⟩, ⟨Ba BK122.out⟩, ⟨Bb1 HB.out GE122.out⟩⟩
 case rest =>
  clear HC4; try clear c1
  try clear p2
  try clear c5
  try clear c6
  try clear c8
  try clear c9
  try clear c9b0
  try clear c10
  try clear c10b0
  try clear c11
  try clear c11b0
  try clear c11b1
  try clear c12
  try clear c12b0
  try clear c16
  try clear c16b0
  try clear q13_0
  try clear q13_1
  try clear q13_2
  try clear q14_0
  try clear q14_1
  try clear q14_2
  try clear q15_0
  try clear q15_1
  try clear q15_2
  try clear q17_0
  try clear q17_1
  try clear q17_2
  try clear q6_0
  try clear q6_1
  try clear q6_2
  try clear u13_0
  try clear u13_1
  try clear u13_2
  try clear u14_0
  try clear u14_1
  try clear u14_2
  try clear u15_0
  try clear u15_1
  try clear u15_2
  try clear u17_0
  try clear u17_1
  try clear u17_2
  try clear u6_0
  try clear u6_1
  try clear u6_2
  obtain ⟨kq, x33_3, rfl, HA, HJ3, BK122, HB⟩ := hcut; cases kq with
  | zero => exact absurd HA.out (by simp [spec_IsStmt.j0])
  | succ kj3 =>
   have H := HA.out; clear HA; simp only [spec_IsStmt.j0] at H; by_cases c18 : x33_3 = true
   ·subst c18; have H1 : (some false) = some r := by rw [if_pos rfl] at H; exact H
    clear H; have H := H1; clear H1; obtain rfl := Option.some.inj H; go_wp2; go_ret; exact ⟨Ze, Bb1 HB.out GE122.out⟩
   ·replace c18 := Bool.eq_false_iff.mpr c18; subst c18; have H1 : (if t123 < 1 then (if t123 < 2 then (some true) else ((spec_IndexOf.f kj3 l0 a1_2).bind fun t125 => (some (decide (t125 ≥ 0))))) else ((spec_IndexOf.f kj3 l0 a1_1).bind fun t126 => (if t126 ≥ 0 then (if t123 < 2 then (some true) else ((spec_IndexOf.f kj3 l0 a1_2).bind fun t127 => (some (decide (t127 ≥ 0))))) else (some false)))) = some r := by rw [if_neg (show ¬ (false = true) by decide)] at H; exact H
    clear H; have H := H1; clear H1; by_cases c19 : t123 < 1
    ·rw [if_pos c19] at H; have c19b0 : decide (t123 < 1) = true := decide_eq_true c19; clear c19; by_cases c20 : t123 < 2
     ·rw [if_pos c20] at H; have c20b0 : decide (t123 < 2) = true := decide_eq_true c20; clear c20; obtain rfl := Option.some.inj H; go_wp2; go_ret; exact ⟨Ze, Bb1 HB.out GE122.out⟩
     ·rw [if_neg c20] at H; have c20b0 : decide (t123 < 2) = false := decide_eq_false c20; clear c20; replace H := Option.bind_eq_some_iff.mp H; obtain ⟨t125, A210, H⟩ := H; replace H : (some (decide (t125 ≥ 0))) = some r := H; have A21 := Aside0.mk A210; clear A210; obtain rfl := Option.some.inj H; obtain ⟨q22_0, q22_1, q22_2, u22_0, u22_1, u22_2⟩ := Cf3 BK122; go_wp2_with (first | (go_at_call 91; (with_reducible refine (spec_IndexOf.calls kj3 _ _ l0 a1_2 t125 _ ?side1 ?side2 A21.out).mono ?_); (case side1 => exact Bc (Kd.C_below HR0.out HB.out)); (case side2 => exact HC0.out); rintro e w' ⟨rfl, ⟨nd, rfl⟩⟩)); go_ret; exact ⟨Ze, Bb1 HB.out GE122.out⟩
    ·rw [if_neg c19] at H; have c19b0 : decide (t123 < 1) = false := decide_eq_false c19; clear c19; replace H := Option.bind_eq_some_iff.mp H; obtain ⟨t126, A230, H⟩ := H; replace H : (if t126 ≥ 0 then (if t123 < 2 then (some true) else ((spec_IndexOf.f kj3 l0 a1_2).bind fun t127 => (some (decide (t127 ≥ 0))))) else (some false)) = some r := H; have A23 := Aside0.mk A230; clear A230; by_cases c24 : t126 ≥ 0
     ·rw [if_pos c24] at H; have c24b0 : decide (0 ≤ t126) = true := decide_eq_true c24; clear c24; by_cases c25 : t123 < 2
      ·rw [if_pos c25] at H; have c25b0 : decide (t123 < 2) = true := decide_eq_true c25; clear c25; obtain rfl := Option.some.inj H; obtain ⟨q26_0, q26_1, q26_2, u26_0, u26_1, u26_2⟩ := Cf3 BK122; go_wp2_with (first | (go_at_call 91; (with_reducible refine (spec_IndexOf.calls kj3 _ _ l0 a1_1 t126 _ ?side1 ?side2 A23.out).mono ?_); (case side1 => exact Bc (Kd.C_below HR0.out HB.out)); (case side2 => exact HC0.out); rintro e w' ⟨rfl, ⟨nd, rfl⟩⟩)); go_ret; exact ⟨Ze, Bb1 HB.out GE122.out⟩
      ·rw [if_neg c25] at H; have c25b0 : decide (t123 < 2) = false := decide_eq_false c25; clear c25; replace H := Option.bind_eq_some_iff.mp H; obtain ⟨t127, A270, H⟩ := H; replace H : (some (decide (t127 ≥ 0))) = some r := H; have A27 := Aside0.mk A270; clear A270; obtain rfl := Option.some.inj H; obtain ⟨q28_0, q28_1, q28_2, u28_0, u28_1, u28_2⟩ := Cf3 BK122; go_wp2_with (first | (go_at_call 91; (with_reducible refine (spec_IndexOf.calls kj3 _ _ l0 a1_1 t126 _ ?side1 ?side2 A23.out).mono ?_); (case side1 => exact Bc (Kd.C_below HR0.out HB.out)); (case side2 => exact HC0.out); rintro e w' ⟨rfl, ⟨nd, rfl⟩⟩) | (go_at_call 91; (with_reducible refine (spec_IndexOf.calls kj3 _ _ l0 a1_2 t127 _ ?side1 ?side2 A27.out).mono ?_); (case side1 => exact Bc (Kd.C_below HR0.out (Bb1 HB.out GE122.out))); (case side2 => exact HC0.out); rintro e w' ⟨rfl, ⟨nd, rfl⟩⟩)); go_ret; exact ⟨Ze, Bb1 HB.out GE122.out⟩
     ·rw [if_neg c24] at H; have c24b0 : decide (0 ≤ t126) = false := decide_eq_false c24; clear c24; obtain rfl := Option.some.inj H; obtain ⟨q29_0, q29_1, q29_2, u29_0, u29_1, u29_2⟩ := Cf3 BK122; go_wp2_with (first | (go_at_call 91; (with_reducible refine (spec_IndexOf.calls kj3 _ _ l0 a1_1 t126 _ ?side1 ?side2 A23.out).mono ?_); (case side1 => exact Bc (Kd.C_below HR0.out HB.out)); (case side2 => exact HC0.out); rintro e w' ⟨rfl, ⟨nd, rfl⟩⟩)); go_ret; exact ⟨Ze, Bb1 HB.out GE122.out⟩
def spec_IsProgram.l0 : Nat → Int → List ByteArray → Int → List (S52) → Option (Bool)
 | 0, _, _, _, _ => none
 | k + 1, x3, x129000, x129001, x129002 => if x3 < (x129002.length : Int) then (if 0 ≤ x3 then ((spec_l1In.f ((rd_T52 x129002 x3).f0) 0 (wrap64 (x129001 - 1))).bind fun t133 => (if t133 = true then ((spec_l1In.f ((rd_T52 x129002 x3).f1) 0 (wrap64 (x129001 - 1))).bind fun t134 => (if t134 = true then ((spec_IsStmt.f k x129000 ((rd_T52 x129002 x3).f2.f0) ((rd_T52 x129002 x3).f2.f1) ((rd_T52 x129002 x3).f2.f2)).bind fun t135 => (if t135 = true then (spec_IsProgram.l0 k (wrap64 (x3 + 1)) x129000 x129001 x129002) else (some false))) else (some false))) else (some false))) else (none)) else ((spec_AreVars.f k x129000).bind fun t129 => (if t129 = true then ((spec_l1In.f x129001 1 12).bind fun t130 => (if t130 = true then (some (decide ((x129002.length : Int) ≤ 24))) else (some false))) else (some false)))
def spec_IsProgram.f (k : Nat) (l0_0 : List ByteArray) (a0_1 : Int) (l0_2 : List (S52)) : Option (Bool) := spec_IsProgram.l0 k 0 l0_0 a0_1 l0_2
theorem spec_IsProgram.mono_l : ∀ k, (∀ y0 y1 y2 y3, LeO (spec_IsProgram.l0 k y0 y1 y2 y3) (spec_IsProgram.l0 (k + 1) y0 y1 y2 y3))
 | 0 => fun _ _ _ _ r h => by simp [spec_IsProgram.l0] at h
 | k + 1 => by
  have ih0 := spec_IsProgram.mono_l k
  ·intro y0 y1 y2 y3; unfold spec_IsProgram.l0; repeat' with_reducible first | exact ih0 _ _ _ _ | exact spec_AreVars.mono _ _ | exact spec_IsStmt.mono _ _ _ _ _ | exact LeO.refl _ | exact LeO.none _ | refine LeO.ite ?_ ?_ | refine LeO.bind ?_ (fun _ => ?_)
theorem spec_IsProgram.mono : ∀ a0 a1 a2 k, LeO (spec_IsProgram.f k a0 a1 a2) (spec_IsProgram.f (k + 1) a0 a1 a2) := by
 intro a0 a1 a2 k
 have ih0 := spec_IsProgram.mono_l k
 unfold spec_IsProgram.f
 repeat' with_reducible first | exact ih0 _ _ _ _ | exact spec_AreVars.mono _ _ | exact spec_IsStmt.mono _ _ _ _ _ | exact LeO.refl _ | exact LeO.none _ | refine LeO.ite ?_ ?_ | refine LeO.bind ?_ (fun _ => ?_)
set_option maxHeartbeats 32000000 in
set_option maxRecDepth 100000 in
theorem spec_IsProgram.calls (k : Nat) (A0_0 : Option Addr) (c0_0 : Nat) (l0_0 : List ByteArray) (a0_1 : Int) (A0_2 : Option Addr) (c0_2 : Nat) (l0_2 : List (S52)) (r : Bool) (w : World) (hr0_0 : Kd.C Kd.string w A0_0 l0_0.length l0_0) (hc0_0 : l0_0.length ≤ c0_0) (hr0_2 : Kd.C k52 w A0_2 l0_2.length l0_2) (hc0_2 : l0_2.length ≤ c0_2) (h : spec_IsProgram.f k l0_0 a0_1 l0_2 = some r) :
  Calls Tryz.prog 18 #[.agg #[.slice A0_0 l0_0.length c0_0, .int .i64 a0_1, .slice A0_2 l0_2.length c0_2]] w fun e w' => e = .returned (.bool r) ∧ Below w.heap.size w w' := by
 have hu30 := Tryz.underlying30
 have hu52 := Tryz.underlying52
 have hu50 := Tryz.underlying50
 have HR0_0 := Aside0.mk hr0_0
 have HC0_0 := Aside0.mk hc0_0
 clear hr0_0 hc0_0
 have HR0_2 := Aside0.mk hr0_2
 have HC0_2 := Aside0.mk hc0_2
 clear hr0_2 hc0_2
 have HB := Aside0.mk (Below.refl w.heap.size w)
 have H : (spec_IsProgram.l0 k 0 l0_0 a0_1 l0_2) = some r := h
 clear h
 have H' := Aside0.mk H
 clear H
 go_enter Tryz.func18, Tryz.ntmps18
 go_wp2_with (first | ((with_reducible refine gate_dst (N := 1) rfl ?_); (try (refine gate_guard (by rfl) ?_; dsimp only)); refine Bx (N := 1) (cs := #[.slice A0_0 l0_0.length c0_0, .int .i64 a0_1, .slice A0_2 l0_2.length c0_2]) (t := 30) (h := ?_); intro gb128 hg w2 hbox hb; have BK128 := Aside0.mk (hbox); have GW128 := Gs (w := w) hg (Bb0 HB.out); have GE128 := Gs (w := w) hg (Bb0 HB.out); replace HB := Sb (Bb0 HB.out) hb; clear hb hbox hg))
 go_loopg [3] k (fun kq v3 w' => ∃ (x3_1 : Int), v3 = .int .i64 x3_1 ∧ Aside0 (spec_IsProgram.l0 kq x3_1 l0_0 a0_1 l0_2 = some r) ∧ Aside0 (kq ≤ k) ∧ Aside0 (w'.heap[gb128]? = some (.cells #[(.slice A0_0 l0_0.length c0_0), .int .i64 a0_1, (.slice A0_2 l0_2.length c0_2)] 30 (0, 0))) ∧ Aside0 (Below w.heap.size w w'))
 case atStart => exact ⟨(0), Zf, H', ⟨Nat.le_refl _⟩, ⟨Ba BK128.out⟩, ⟨Bb1 HB.out GE128.out⟩⟩
 case round =>
  clear H'; try clear c1
  try clear p2
  obtain ⟨x3_1, rfl, HA, HK1, BK128, HB⟩ := hrel; cases gk with
  | zero => exact absurd HA.out (by simp [spec_IsProgram.l0])
  | succ k1 =>
   have H := HA.out; clear HA; simp only [spec_IsProgram.l0] at H; by_cases c3 : x3_1 < (l0_2.length : Int)
   ·rw [if_pos c3] at H; have c3b0 : decide (x3_1 < (l0_2.length : Int)) = true := decide_eq_true c3; clear c3; by_cases c4 : 0 ≤ x3_1
    ·rw [if_pos c4] at H; have c4b0 : decide (0 ≤ x3_1) = true := decide_eq_true c4; clear c4; replace H := Option.bind_eq_some_iff.mp H; obtain ⟨t133, A50, H⟩ := H; replace H : (if t133 = true then ((spec_l1In.f ((rd_T52 l0_2 x3_1).f1) 0 (wrap64 (a0_1 - 1))).bind fun t134 => (if t134 = true then ((spec_IsStmt.f k1 l0_0 ((rd_T52 l0_2 x3_1).f2.f0) ((rd_T52 l0_2 x3_1).f2.f1) ((rd_T52 l0_2 x3_1).f2.f2)).bind fun t135 => (if t135 = true then (spec_IsProgram.l0 k1 (wrap64 (x3_1 + 1)) l0_0 a0_1 l0_2) else (some false))) else (some false))) else (some false)) = some r := H; have A5 := Aside0.mk A50; clear A50; by_cases c6 : t133 = true
     ·subst c6; have H1 : ((spec_l1In.f ((rd_T52 l0_2 x3_1).f1) 0 (wrap64 (a0_1 - 1))).bind fun t134 => (if t134 = true then ((spec_IsStmt.f k1 l0_0 ((rd_T52 l0_2 x3_1).f2.f0) ((rd_T52 l0_2 x3_1).f2.f1) ((rd_T52 l0_2 x3_1).f2.f2)).bind fun t135 => (if t135 = true then (spec_IsProgram.l0 k1 (wrap64 (x3_1 + 1)) l0_0 a0_1 l0_2) else (some false))) else (some false))) = some r := by rw [if_pos rfl] at H; exact H
      clear H; have H := H1; clear H1; replace H := Option.bind_eq_some_iff.mp H; obtain ⟨t134, A70, H⟩ := H; replace H : (if t134 = true then ((spec_IsStmt.f k1 l0_0 ((rd_T52 l0_2 x3_1).f2.f0) ((rd_T52 l0_2 x3_1).f2.f1) ((rd_T52 l0_2 x3_1).f2.f2)).bind fun t135 => (if t135 = true then (spec_IsProgram.l0 k1 (wrap64 (x3_1 + 1)) l0_0 a0_1 l0_2) else (some false))) else (some false)) = some r := H; have A7 := Aside0.mk A70; clear A70; by_cases c8 : t134 = true
      ·subst c8; have H1 : ((spec_IsStmt.f k1 l0_0 ((rd_T52 l0_2 x3_1).f2.f0) ((rd_T52 l0_2 x3_1).f2.f1) ((rd_T52 l0_2 x3_1).f2.f2)).bind fun t135 => (if t135 = true then (spec_IsProgram.l0 k1 (wrap64 (x3_1 + 1)) l0_0 a0_1 l0_2) else (some false))) = some r := by rw [if_pos rfl] at H; exact H
       clear H; have H := H1; clear H1; replace H := Option.bind_eq_some_iff.mp H; obtain ⟨t135, A90, H⟩ := H; replace H : (if t135 = true then (spec_IsProgram.l0 k1 (wrap64 (x3_1 + 1)) l0_0 a0_1 l0_2) else (some false)) = some r := H; have A9 := Aside0.mk A90; clear A90; by_cases c10 : t135 = true
       ·subst c10; have H1 : (spec_IsProgram.l0 k1 (wrap64 (x3_1 + 1)) l0_0 a0_1 l0_2) = some r := by rw [if_pos rfl] at H; exact H
        clear H; have H := H1; clear H1; have H' := Aside0.mk H; clear H; obtain ⟨q11_0, q11_1, q11_2, u11_0, u11_1, u11_2⟩ := Cf3 BK128; have p131 : 0 ≤ (x3_1 : Int) := Da; have q131 : x3_1 < (l0_2.length : Int) := Da; obtain ⟨ad131, e131, hx131_0, hx131_1, hx131_2, hx131_3, hx131_4⟩ := at_T52 HR0_2.out x3_1 p131 q131; cases e131
        replace hx131_0 := Cx HB hx131_0; replace hx131_1 := Cx HB hx131_1; replace hx131_2 := Cx HB hx131_2; replace hx131_3 := Cx HB hx131_3; replace hx131_4 := Cx HB hx131_4; replace p131 := eq_true p131; replace q131 := eq_true q131; go_wp2_with (first | ((with_reducible refine gate_dst (N := 4) rfl ?_); (try (refine gate_guard (by rfl) ?_; dsimp only)); refine Bx (N := 4) (cs := #[.int .i64 0, .int .i64 0, .int .i64 0, .string (⟨#[]⟩ : ByteArray), .string (⟨#[]⟩ : ByteArray)]) (t := 52) (h := ?_); intro gb132 hg w12 hbox hb; have BK132 := Aside0.mk (hbox); have GW132 := Gs (w := w) hg (Bb1 HB.out GE128.out); have GE132 := Gs (w := w) hg (Bb1 HB.out GE128.out); replace HB := Sb (Bb1 HB.out GE128.out) hb; have NB128_132 := Nl hg BK128; have NB132_128 := Ng hg BK128; replace BK128 := Kb BK128 hb; clear hb hbox hg; have hnb13 := NB132_128.out; have hnc13 := NB128_132.out; obtain ⟨q14_0, q14_1, q14_2, q14_3, q14_4, u14_0, u14_1, u14_2, u14_3, u14_4⟩ := Cf5 BK132; obtain ⟨q15_0, q15_1, q15_2, u15_0, u15_1, u15_2⟩ := Cf3 BK128) | ((with_reducible refine gate_callee (f := 57) rfl ?_); refine goesL_ (some 22) rfl rfl Tryz.func57 (by kernel_rfl) rfl #[.int .i64 ((rd_T52 l0_2 x3_1).f0), .int .i64 0, .int .i64 (wrap64 (a0_1 - 1))] rfl Zm ?_; (with_reducible refine (spec_l1In.calls ((rd_T52 l0_2 x3_1).f0) 0 (wrap64 (a0_1 - 1)) true _ A5.out).mono ?_); rintro e w' ⟨rfl, ⟨nd, rfl⟩⟩; refine ⟨_, rfl, ?_⟩) | (go_at_call 57; (with_reducible refine (spec_l1In.calls ((rd_T52 l0_2 x3_1).f1) 0 (wrap64 (a0_1 - 1)) true _ A7.out).mono ?_); rintro e w' ⟨rfl, ⟨nd, rfl⟩⟩) | (go_at_call 58; (with_reducible refine (spec_IsStmt.calls k1 _ _ l0_0 ((rd_T52 l0_2 x3_1).f2.f0) ((rd_T52 l0_2 x3_1).f2.f1) ((rd_T52 l0_2 x3_1).f2.f2) true _ ?side1 ?side2 A9.out).mono ?_); (case side1 => exact Kd.C_below HR0_0.out (Bb2 HB.out GE128.out GE132.out)); (case side2 => exact HC0_0.out); rintro e w16 ⟨rfl, hb⟩; replace BK128 := Aside0.mk (blk_below (g := gb128) (o := .cells #[.slice A0_0 l0_0.length c0_0, .int .i64 a0_1, .slice (some ad131) l0_2.length c0_2] 30 (0, 0)) (by (iterate 5 ((with_reducible repeat (first | refine blk_drewN ?_ _ | refine blk_drew ?_ | refine blk_alloc ?_ _)); refine blk_far ?_ NB128_132.out _)); (with_reducible repeat (first | refine blk_drewN ?_ _ | refine blk_drew ?_ | refine blk_alloc ?_ _)); exact BK128.out) hb); replace BK132 := Aside0.mk (blk_below (g := gb132) (o := .cells #[.int .i64 ((rd_T52 l0_2 x3_1).f0), .int .i64 ((rd_T52 l0_2 x3_1).f1), .int .i64 ((rd_T52 l0_2 x3_1).f2.f0), .string ((rd_T52 l0_2 x3_1).f2.f1), .string ((rd_T52 l0_2 x3_1).f2.f2)] 52 (0, 0)) (by (with_reducible repeat (first | refine blk_drewN ?_ _ | refine blk_drew ?_ | refine blk_alloc ?_ _)); refine blk_put (cs := #[.int .i64 ((rd_T52 l0_2 x3_1).f0), .int .i64 ((rd_T52 l0_2 x3_1).f1), .int .i64 ((rd_T52 l0_2 x3_1).f2.f0), .string ((rd_T52 l0_2 x3_1).f2.f1), .string (⟨#[]⟩ : ByteArray)]) ?_ 4 _ rfl; (with_reducible repeat (first | refine blk_drewN ?_ _ | refine blk_drew ?_ | refine blk_alloc ?_ _)); refine blk_put (cs := #[.int .i64 ((rd_T52 l0_2 x3_1).f0), .int .i64 ((rd_T52 l0_2 x3_1).f1), .int .i64 ((rd_T52 l0_2 x3_1).f2.f0), .string (⟨#[]⟩ : ByteArray), .string (⟨#[]⟩ : ByteArray)]) ?_ 3 _ rfl; (with_reducible repeat (first | refine blk_drewN ?_ _ | refine blk_drew ?_ | refine blk_alloc ?_ _)); refine blk_put (cs := #[.int .i64 ((rd_T52 l0_2 x3_1).f0), .int .i64 ((rd_T52 l0_2 x3_1).f1), .int .i64 0, .string (⟨#[]⟩ : ByteArray), .string (⟨#[]⟩ : ByteArray)]) ?_ 2 _ rfl; (with_reducible repeat (first | refine blk_drewN ?_ _ | refine blk_drew ?_ | refine blk_alloc ?_ _)); refine blk_put (cs := #[.int .i64 ((rd_T52 l0_2 x3_1).f0), .int .i64 0, .int .i64 0, .string (⟨#[]⟩ : ByteArray), .string (⟨#[]⟩ : ByteArray)]) ?_ 1 _ rfl; (with_reducible repeat (first | refine blk_drewN ?_ _ | refine blk_drew ?_ | refine blk_alloc ?_ _)); refine blk_put (cs := #[.int .i64 0, .int .i64 0, .int .i64 0, .string (⟨#[]⟩ : ByteArray), .string (⟨#[]⟩ : ByteArray)]) ?_ 0 _ rfl; (with_reducible repeat (first | refine blk_drewN ?_ _ | refine blk_drew ?_ | refine blk_alloc ?_ _)); exact BK132.out) hb); replace HB := Sb (Bb2 HB.out GE128.out GE132.out) hb; (try clear hb); (try clear hb2); (try clear hk); (try clear hi)))
        go_roundg k1
        case measure => have := HK1.out; omega
        case rel => exact ⟨(wrap64 (x3_1 + 1)), Zf, H', ⟨by have := HK1.out; omega⟩, ⟨Ba BK128.out⟩, ⟨Bb2 HB.out GE128.out GE132.out⟩⟩
       ·replace c10 := Bool.eq_false_iff.mpr c10; subst c10; have H1 : (some false) = some r := by rw [if_neg (show ¬ (false = true) by decide)] at H; exact H
        clear H; have H := H1; clear H1; obtain rfl := Option.some.inj H; obtain ⟨q17_0, q17_1, q17_2, u17_0, u17_1, u17_2⟩ := Cf3 BK128; have p131 : 0 ≤ (x3_1 : Int) := Da; have q131 : x3_1 < (l0_2.length : Int) := Da; obtain ⟨ad131, e131, hx131_0, hx131_1, hx131_2, hx131_3, hx131_4⟩ := at_T52 HR0_2.out x3_1 p131 q131; cases e131
        replace hx131_0 := Cx HB hx131_0; replace hx131_1 := Cx HB hx131_1; replace hx131_2 := Cx HB hx131_2; replace hx131_3 := Cx HB hx131_3; replace hx131_4 := Cx HB hx131_4; replace p131 := eq_true p131; replace q131 := eq_true q131; go_wp2_with (first | ((with_reducible refine gate_dst (N := 4) rfl ?_); (try (refine gate_guard (by rfl) ?_; dsimp only)); refine Bx (N := 4) (cs := #[.int .i64 0, .int .i64 0, .int .i64 0, .string (⟨#[]⟩ : ByteArray), .string (⟨#[]⟩ : ByteArray)]) (t := 52) (h := ?_); intro gb132 hg w18 hbox hb; have BK132 := Aside0.mk (hbox); have GW132 := Gs (w := w) hg (Bb1 HB.out GE128.out); have GE132 := Gs (w := w) hg (Bb1 HB.out GE128.out); replace HB := Sb (Bb1 HB.out GE128.out) hb; have NB128_132 := Nl hg BK128; have NB132_128 := Ng hg BK128; replace BK128 := Kb BK128 hb; clear hb hbox hg; have hnb19 := NB132_128.out; have hnc19 := NB128_132.out; obtain ⟨q20_0, q20_1, q20_2, q20_3, q20_4, u20_0, u20_1, u20_2, u20_3, u20_4⟩ := Cf5 BK132; obtain ⟨q21_0, q21_1, q21_2, u21_0, u21_1, u21_2⟩ := Cf3 BK128) | ((with_reducible refine gate_callee (f := 57) rfl ?_); refine goesL_ (some 22) rfl rfl Tryz.func57 (by kernel_rfl) rfl #[.int .i64 ((rd_T52 l0_2 x3_1).f0), .int .i64 0, .int .i64 (wrap64 (a0_1 - 1))] rfl Zm ?_; (with_reducible refine (spec_l1In.calls ((rd_T52 l0_2 x3_1).f0) 0 (wrap64 (a0_1 - 1)) true _ A5.out).mono ?_); rintro e w' ⟨rfl, ⟨nd, rfl⟩⟩; refine ⟨_, rfl, ?_⟩) | (go_at_call 57; (with_reducible refine (spec_l1In.calls ((rd_T52 l0_2 x3_1).f1) 0 (wrap64 (a0_1 - 1)) true _ A7.out).mono ?_); rintro e w' ⟨rfl, ⟨nd, rfl⟩⟩) | (go_at_call 58; (with_reducible refine (spec_IsStmt.calls k1 _ _ l0_0 ((rd_T52 l0_2 x3_1).f2.f0) ((rd_T52 l0_2 x3_1).f2.f1) ((rd_T52 l0_2 x3_1).f2.f2) false _ ?side1 ?side2 A9.out).mono ?_); (case side1 => exact Kd.C_below HR0_0.out (Bb2 HB.out GE128.out GE132.out)); (case side2 => exact HC0_0.out); rintro e w22 ⟨rfl, hb⟩; replace BK128 := Aside0.mk (blk_below (g := gb128) (o := .cells #[.slice A0_0 l0_0.length c0_0, .int .i64 a0_1, .slice (some ad131) l0_2.length c0_2] 30 (0, 0)) (by (iterate 5 ((with_reducible repeat (first | refine blk_drewN ?_ _ | refine blk_drew ?_ | refine blk_alloc ?_ _)); refine blk_far ?_ NB128_132.out _)); (with_reducible repeat (first | refine blk_drewN ?_ _ | refine blk_drew ?_ | refine blk_alloc ?_ _)); exact BK128.out) hb); replace BK132 := Aside0.mk (blk_below (g := gb132) (o := .cells #[.int .i64 ((rd_T52 l0_2 x3_1).f0), .int .i64 ((rd_T52 l0_2 x3_1).f1), .int .i64 ((rd_T52 l0_2 x3_1).f2.f0), .string ((rd_T52 l0_2 x3_1).f2.f1), .string ((rd_T52 l0_2 x3_1).f2.f2)] 52 (0, 0)) (by (with_reducible repeat (first | refine blk_drewN ?_ _ | refine blk_drew ?_ | refine blk_alloc ?_ _)); refine blk_put (cs := #[.int .i64 ((rd_T52 l0_2 x3_1).f0), .int .i64 ((rd_T52 l0_2 x3_1).f1), .int .i64 ((rd_T52 l0_2 x3_1).f2.f0), .string ((rd_T52 l0_2 x3_1).f2.f1), .string (⟨#[]⟩ : ByteArray)]) ?_ 4 _ rfl; (with_reducible repeat (first | refine blk_drewN ?_ _ | refine blk_drew ?_ | refine blk_alloc ?_ _)); refine blk_put (cs := #[.int .i64 ((rd_T52 l0_2 x3_1).f0), .int .i64 ((rd_T52 l0_2 x3_1).f1), .int .i64 ((rd_T52 l0_2 x3_1).f2.f0), .string (⟨#[]⟩ : ByteArray), .string (⟨#[]⟩ : ByteArray)]) ?_ 3 _ rfl; (with_reducible repeat (first | refine blk_drewN ?_ _ | refine blk_drew ?_ | refine blk_alloc ?_ _)); refine blk_put (cs := #[.int .i64 ((rd_T52 l0_2 x3_1).f0), .int .i64 ((rd_T52 l0_2 x3_1).f1), .int .i64 0, .string (⟨#[]⟩ : ByteArray), .string (⟨#[]⟩ : ByteArray)]) ?_ 2 _ rfl; (with_reducible repeat (first | refine blk_drewN ?_ _ | refine blk_drew ?_ | refine blk_alloc ?_ _)); refine blk_put (cs := #[.int .i64 ((rd_T52 l0_2 x3_1).f0), .int .i64 0, .int .i64 0, .string (⟨#[]⟩ : ByteArray), .string (⟨#[]⟩ : ByteArray)]) ?_ 1 _ rfl; (with_reducible repeat (first | refine blk_drewN ?_ _ | refine blk_drew ?_ | refine blk_alloc ?_ _)); refine blk_put (cs := #[.int .i64 0, .int .i64 0, .int .i64 0, .string (⟨#[]⟩ : ByteArray), .string (⟨#[]⟩ : ByteArray)]) ?_ 0 _ rfl; (with_reducible repeat (first | refine blk_drewN ?_ _ | refine blk_drew ?_ | refine blk_alloc ?_ _)); exact BK132.out) hb); replace HB := Sb (Bb2 HB.out GE128.out GE132.out) hb; (try clear hb); (try clear hb2); (try clear hk); (try clear hi)))
        go_ret; exact ⟨Ze, Bb2 HB.out GE128.out GE132.out⟩
      ·replace c8 := Bool.eq_false_iff.mpr c8; subst c8; have H1 : (some false) = some r := by rw [if_neg (show ¬ (false = true) by decide)] at H; exact H
       clear H; have H := H1; clear H1; obtain rfl := Option.some.inj H; obtain ⟨q23_0, q23_1, q23_2, u23_0, u23_1, u23_2⟩ := Cf3 BK128; have p131 : 0 ≤ (x3_1 : Int) := Da; have q131 : x3_1 < (l0_2.length : Int) := Da; obtain ⟨ad131, e131, hx131_0, hx131_1, hx131_2, hx131_3, hx131_4⟩ := at_T52 HR0_2.out x3_1 p131 q131; cases e131
       replace hx131_0 := Cx HB hx131_0; replace hx131_1 := Cx HB hx131_1; replace hx131_2 := Cx HB hx131_2; replace hx131_3 := Cx HB hx131_3; replace hx131_4 := Cx HB hx131_4; replace p131 := eq_true p131; replace q131 := eq_true q131; go_wp2_with (first | ((with_reducible refine gate_dst (N := 4) rfl ?_); (try (refine gate_guard (by rfl) ?_; dsimp only)); refine Bx (N := 4) (cs := #[.int .i64 0, .int .i64 0, .int .i64 0, .string (⟨#[]⟩ : ByteArray), .string (⟨#[]⟩ : ByteArray)]) (t := 52) (h := ?_); intro gb132 hg w24 hbox hb; have BK132 := Aside0.mk (hbox); have GW132 := Gs (w := w) hg (Bb1 HB.out GE128.out); have GE132 := Gs (w := w) hg (Bb1 HB.out GE128.out); replace HB := Sb (Bb1 HB.out GE128.out) hb; have NB128_132 := Nl hg BK128; have NB132_128 := Ng hg BK128; replace BK128 := Kb BK128 hb; clear hb hbox hg; have hnb25 := NB132_128.out; have hnc25 := NB128_132.out; obtain ⟨q26_0, q26_1, q26_2, q26_3, q26_4, u26_0, u26_1, u26_2, u26_3, u26_4⟩ := Cf5 BK132; obtain ⟨q27_0, q27_1, q27_2, u27_0, u27_1, u27_2⟩ := Cf3 BK128) | ((with_reducible refine gate_callee (f := 57) rfl ?_); refine goesL_ (some 22) rfl rfl Tryz.func57 (by kernel_rfl) rfl #[.int .i64 ((rd_T52 l0_2 x3_1).f0), .int .i64 0, .int .i64 (wrap64 (a0_1 - 1))] rfl Zm ?_; (with_reducible refine (spec_l1In.calls ((rd_T52 l0_2 x3_1).f0) 0 (wrap64 (a0_1 - 1)) true _ A5.out).mono ?_); rintro e w' ⟨rfl, ⟨nd, rfl⟩⟩; refine ⟨_, rfl, ?_⟩) | (go_at_call 57; (with_reducible refine (spec_l1In.calls ((rd_T52 l0_2 x3_1).f1) 0 (wrap64 (a0_1 - 1)) false _ A7.out).mono ?_); rintro e w' ⟨rfl, ⟨nd, rfl⟩⟩)); go_ret; exact ⟨Ze, Bb2 HB.out GE128.out GE132.out⟩
     ·replace c6 := Bool.eq_false_iff.mpr c6; subst c6; have H1 : (some false) = some r := by rw [if_neg (show ¬ (false = true) by decide)] at H; exact H
      clear H; have H := H1; clear H1; obtain rfl := Option.some.inj H; obtain ⟨q28_0, q28_1, q28_2, u28_0, u28_1, u28_2⟩ := Cf3 BK128; have p131 : 0 ≤ (x3_1 : Int) := Da; have q131 : x3_1 < (l0_2.length : Int) := Da; obtain ⟨ad131, e131, hx131_0, hx131_1, hx131_2, hx131_3, hx131_4⟩ := at_T52 HR0_2.out x3_1 p131 q131; cases e131
      replace hx131_0 := Cx HB hx131_0; replace hx131_1 := Cx HB hx131_1; replace hx131_2 := Cx HB hx131_2; replace hx131_3 := Cx HB hx131_3; replace hx131_4 := Cx HB hx131_4; replace p131 := eq_true p131; replace q131 := eq_true q131; go_wp2_with (first | ((with_reducible refine gate_dst (N := 4) rfl ?_); (try (refine gate_guard (by rfl) ?_; dsimp only)); refine Bx (N := 4) (cs := #[.int .i64 0, .int .i64 0, .int .i64 0, .string (⟨#[]⟩ : ByteArray), .string (⟨#[]⟩ : ByteArray)]) (t := 52) (h := ?_); intro gb132 hg w29 hbox hb; have BK132 := Aside0.mk (hbox); have GW132 := Gs (w := w) hg (Bb1 HB.out GE128.out); have GE132 := Gs (w := w) hg (Bb1 HB.out GE128.out); replace HB := Sb (Bb1 HB.out GE128.out) hb; have NB128_132 := Nl hg BK128; have NB132_128 := Ng hg BK128; replace BK128 := Kb BK128 hb; clear hb hbox hg; have hnb30 := NB132_128.out; have hnc30 := NB128_132.out; obtain ⟨q31_0, q31_1, q31_2, q31_3, q31_4, u31_0, u31_1, u31_2, u31_3, u31_4⟩ := Cf5 BK132; obtain ⟨q32_0, q32_1, q32_2, u32_0, u32_1, u32_2⟩ := Cf3 BK128) | ((with_reducible refine gate_callee (f := 57) rfl ?_); refine goesL_ (some 22) rfl rfl Tryz.func57 (by kernel_rfl) rfl #[.int .i64 ((rd_T52 l0_2 x3_1).f0), .int .i64 0, .int .i64 (wrap64 (a0_1 - 1))] rfl Zm ?_; (with_reducible refine (spec_l1In.calls ((rd_T52 l0_2 x3_1).f0) 0 (wrap64 (a0_1 - 1)) false _ A5.out).mono ?_); rintro e w' ⟨rfl, ⟨nd, rfl⟩⟩; refine ⟨_, rfl, ?_⟩)); go_ret; exact ⟨Ze, Bb2 HB.out GE128.out GE132.out⟩
    ·rw [if_neg c4] at H; exact absurd H (by simp)
   ·rw [if_neg c3] at H; have c3b0 : decide (x3_1 < (l0_2.length : Int)) = false := decide_eq_false c3; clear c3; replace H := Option.bind_eq_some_iff.mp H; obtain ⟨t129, A330, H⟩ := H; replace H : (if t129 = true then ((spec_l1In.f a0_1 1 12).bind fun t130 => (if t130 = true then (some (decide ((l0_2.length : Int) ≤ 24))) else (some false))) else (some false)) = some r := H; have A33 := Aside0.mk A330; clear A330; by_cases c34 : t129 = true
    ·subst c34; have H1 : ((spec_l1In.f a0_1 1 12).bind fun t130 => (if t130 = true then (some (decide ((l0_2.length : Int) ≤ 24))) else (some false))) = some r := by rw [if_pos rfl] at H; exact H
     clear H; have H := H1; clear H1; replace H := Option.bind_eq_some_iff.mp H; obtain ⟨t130, A350, H⟩ := H; replace H : (if t130 = true then (some (decide ((l0_2.length : Int) ≤ 24))) else (some false)) = some r := H; have A35 := Aside0.mk A350; clear A350; by_cases c36 : t130 = true
     ·subst c36; have H1 : (some (decide ((l0_2.length : Int) ≤ 24))) = some r := by rw [if_pos rfl] at H; exact H
      clear H; have H := H1; clear H1; obtain rfl := Option.some.inj H; obtain ⟨q37_0, q37_1, q37_2, u37_0, u37_1, u37_2⟩ := Cf3 BK128; go_wp2_with (first | ((with_reducible refine gate_callee (f := 59) rfl ?_); refine goesL_ (some 43) rfl rfl Tryz.func59 (by kernel_rfl) rfl #[.slice A0_0 l0_0.length c0_0] rfl Zm ?_; (with_reducible refine (spec_AreVars.calls k1 _ _ l0_0 true _ ?side1 ?side2 A33.out).mono ?_); (case side1 => exact Bc (Kd.C_below HR0_0.out HB.out)); (case side2 => exact HC0_0.out); rintro e w' ⟨rfl, ⟨nd, rfl⟩⟩; refine ⟨_, rfl, ?_⟩) | (go_at_call 57; (with_reducible refine (spec_l1In.calls a0_1 1 12 true _ A35.out).mono ?_); rintro e w' ⟨rfl, ⟨nd, rfl⟩⟩)); go_ret; exact ⟨Ze, Bb1 HB.out GE128.out⟩
     ·replace c36 := Bool.eq_false_iff.mpr c36; subst c36; have H1 : (some false) = some r := by rw [if_neg (show ¬ (false = true) by decide)] at H; exact H
      clear H; have H := H1; clear H1; obtain rfl := Option.some.inj H; obtain ⟨q38_0, q38_1, q38_2, u38_0, u38_1, u38_2⟩ := Cf3 BK128; go_wp2_with (first | ((with_reducible refine gate_callee (f := 59) rfl ?_); refine goesL_ (some 43) rfl rfl Tryz.func59 (by kernel_rfl) rfl #[.slice A0_0 l0_0.length c0_0] rfl Zm ?_; (with_reducible refine (spec_AreVars.calls k1 _ _ l0_0 true _ ?side1 ?side2 A33.out).mono ?_); (case side1 => exact Bc (Kd.C_below HR0_0.out HB.out)); (case side2 => exact HC0_0.out); rintro e w' ⟨rfl, ⟨nd, rfl⟩⟩; refine ⟨_, rfl, ?_⟩) | (go_at_call 57; (with_reducible refine (spec_l1In.calls a0_1 1 12 false _ A35.out).mono ?_); rintro e w' ⟨rfl, ⟨nd, rfl⟩⟩)); go_ret; exact ⟨Ze, Bb1 HB.out GE128.out⟩
    ·replace c34 := Bool.eq_false_iff.mpr c34; subst c34; have H1 : (some false) = some r := by rw [if_neg (show ¬ (false = true) by decide)] at H; exact H
     clear H; have H := H1; clear H1; obtain rfl := Option.some.inj H; obtain ⟨q39_0, q39_1, q39_2, u39_0, u39_1, u39_2⟩ := Cf3 BK128; go_wp2_with (first | ((with_reducible refine gate_callee (f := 59) rfl ?_); refine goesL_ (some 43) rfl rfl Tryz.func59 (by kernel_rfl) rfl #[.slice A0_0 l0_0.length c0_0] rfl Zm ?_; (with_reducible refine (spec_AreVars.calls k1 _ _ l0_0 false _ ?side1 ?side2 A33.out).mono ?_); (case side1 => exact Bc (Kd.C_below HR0_0.out HB.out)); (case side2 => exact HC0_0.out); rintro e w' ⟨rfl, ⟨nd, rfl⟩⟩; refine ⟨_, rfl, ?_⟩)); go_ret; exact ⟨Ze, Bb1 HB.out GE128.out⟩
def spec_Join.l0 : Nat → List ByteArray → ByteArray → List Int → Int → Option (ByteArray)
 | 0, _, _, _, _ => none
 | k + 1, x0, x1, x5, x6 => if x6 < (x0.length : Int) then (if x6 > 0 then (if x5.length + x1.size < 140737488355328 then ((some (x5 ++ bytesOf x1 : List Int)).bind fun y139 => (if 0 ≤ x6 then (if y139.length + (rdOf ByteArray.empty x0 x6).size < 140737488355328 then (spec_Join.l0 k x0 x1 (y139 ++ bytesOf (rdOf ByteArray.empty x0 x6)) (wrap64 (x6 + 1))) else (none)) else (none))) else (none)) else (if 0 ≤ x6 then (if x5.length + (rdOf ByteArray.empty x0 x6).size < 140737488355328 then (spec_Join.l0 k x0 x1 (x5 ++ bytesOf (rdOf ByteArray.empty x0 x6)) (wrap64 (x6 + 1))) else (none)) else (none))) else (some (strOfNums x5))
def spec_Join.f (k : Nat) (l0 : List ByteArray) (a1 : ByteArray) : Option (ByteArray) := spec_Join.l0 k l0 a1 (([] : List Int)) 0
theorem spec_Join.mono_l : ∀ k, (∀ y0 y1 y2 y3, LeO (spec_Join.l0 k y0 y1 y2 y3) (spec_Join.l0 (k + 1) y0 y1 y2 y3))
 | 0 => fun _ _ _ _ r h => by simp [spec_Join.l0] at h
 | k + 1 => by
  have ih0 := spec_Join.mono_l k
  ·intro y0 y1 y2 y3; unfold spec_Join.l0; repeat' with_reducible first | exact ih0 _ _ _ _ | exact LeO.refl _ | exact LeO.none _ | refine LeO.ite ?_ ?_ | refine LeO.bind ?_ (fun _ => ?_)
theorem spec_Join.mono : ∀ a0 a1 k, LeO (spec_Join.f k a0 a1) (spec_Join.f (k + 1) a0 a1) := by
 intro a0 a1 k
 have ih0 := spec_Join.mono_l k
 unfold spec_Join.f
 repeat' with_reducible first | exact ih0 _ _ _ _ | exact LeO.refl _ | exact LeO.none _ | refine LeO.ite ?_ ?_ | refine LeO.bind ?_ (fun _ => ?_)
set_option maxHeartbeats 32000000 in
set_option maxRecDepth 100000 in
theorem spec_Join.calls (k : Nat) (A0 : Option Addr) (c0 : Nat) (l0 : List ByteArray) (a1 : ByteArray) (r : ByteArray) (w : World) (hr0 : Kd.C Kd.string w A0 l0.length l0) (hc0 : l0.length ≤ c0) (h : spec_Join.f k l0 a1 = some r) :
  Calls Tryz.prog 29 #[.slice A0 l0.length c0, .string a1] w fun e w' => e = .returned (.string r) ∧ Below w.heap.size w w' := by
 have HR0 := Aside0.mk hr0
 have HC0 := Aside0.mk hc0
 clear hr0 hc0
 have HB := Aside0.mk (Below.refl w.heap.size w)
 have H : (spec_Join.l0 k l0 a1 (([] : List Int)) 0) = some r := h
 clear h
 obtain ⟨y136, hy136⟩ : ∃ y_ : List Int, y_ = (([] : List Int)) := ⟨_, rfl⟩
 replace H : (spec_Join.l0 k l0 a1 y136 0) = some r := by first | (rw [hy136]; with_reducible exact H) | (have H2_ := (Option.bind_some _ _).symm.trans H; rw [hy136]; with_reducible exact H2_) | (have H2_ := (Option.bind_some _ _).symm.trans H; with_reducible exact H2_) | with_reducible exact H | (rw [hy136]; exact H) | exact H
 have Ny136 := Aside0.mk hy136
 clear hy136
 have H' := Aside0.mk H
 clear H
 go_enter Tryz.func29, Tryz.ntmps29
 go_wp2_with (first | ((with_reducible refine gate_dst (N := 7) rfl ?_); refine Kd.R_lit (Kd.int .u8) _ 5 ?hg (N := 7) ?hd (xs := ([] : List Int)) (inner := []) (ok := fun _ => True) (okp := fun _ => True) ?hr ?hp (fun _ hk => hk) trivial (Below.refl _ _) (Nat.le_refl _) (by simp) ?_; (case hd => rfl); (case hg => rfl); (case hr => first | (go_simp; done) | (go_simp; rfl)); (case hp => exact (Reps.none _ _)); intro v137 w3 ho4 hb hg_ hnew_; clear hg_ hnew_; (first | rw [← Ny136.out] at ho4 | (simp only [Int.reduceToNat] at ho4; rw [← Ny136.out] at ho4)); have HO138 := Aside0.mk (Kd.R_lower ho4 (below_size (Bb0 HB.out))); replace HB := Sb (Bb0 HB.out) hb; clear hb ho4))
 go_loopg [5, 6] k (fun kq v5 v6 w' => ∃ (x5_1 : List Int) (x6_1 : Int), v6 = .int .i64 x6_1 ∧ Aside0 (spec_Join.l0 kq l0 a1 x5_1 x6_1 = some r) ∧ Aside0 (kq ≤ k) ∧ Aside0 (Kd.R (Kd.int .u8) 5 w' w.heap.size (fun _ => True) v5 x5_1) ∧ Aside0 (Below w.heap.size w w'))
 case atStart => exact ⟨(y136), (0), Zf, H', ⟨Nat.le_refl _⟩, ⟨by (with_reducible repeat (first | apply Kd.R_alloc | apply Kd.R_drewN | apply Kd.R_drew)); exact HO138.out⟩, ⟨Bb0 HB.out⟩⟩
 case round =>
  clear H'; try clear c2
  try clear p2
  obtain ⟨x5_1, x6_1, rfl, HA, HK1, HO_5, HB⟩ := hrel; cases gk with
  | zero => exact absurd HA.out (by simp [spec_Join.l0])
  | succ k1 =>
   have H := HA.out; clear HA; simp only [spec_Join.l0] at H; by_cases c5 : x6_1 < (l0.length : Int)
   ·rw [if_pos c5] at H; have c5b0 : decide (x6_1 < (l0.length : Int)) = true := decide_eq_true c5; clear c5; by_cases c6 : x6_1 > 0
    ·rw [if_pos c6] at H; have c6b0 : decide (0 < x6_1) = true := decide_eq_true c6; clear c6; by_cases c7 : x5_1.length + a1.size < 140737488355328
     ·rw [if_pos c7] at H; have LMc7 := Aside0.mk c7; clear c7; obtain ⟨y139, hy139⟩ : ∃ y_ : List Int, y_ = (x5_1 ++ bytesOf a1) := ⟨_, rfl⟩; replace H : (if 0 ≤ x6_1 then (if y139.length + (rdOf ByteArray.empty l0 x6_1).size < 140737488355328 then (spec_Join.l0 k1 l0 a1 (y139 ++ bytesOf (rdOf ByteArray.empty l0 x6_1)) (wrap64 (x6_1 + 1))) else (none)) else (none)) = some r := by first | (rw [hy139]; with_reducible exact H) | (have H2_ := (Option.bind_some _ _).symm.trans H; rw [hy139]; with_reducible exact H2_) | (have H2_ := (Option.bind_some _ _).symm.trans H; with_reducible exact H2_) | with_reducible exact H | (rw [hy139]; exact H) | exact H
      have Ny139 := Aside0.mk hy139; clear hy139; by_cases c8 : 0 ≤ x6_1
      ·rw [if_pos c8] at H; have c8b0 : decide (0 ≤ x6_1) = true := decide_eq_true c8; clear c8; by_cases c9 : y139.length + (rdOf ByteArray.empty l0 x6_1).size < 140737488355328
       ·rw [if_pos c9] at H; have LMc9 := Aside0.mk c9; clear c9; obtain ⟨y143, hy143⟩ : ∃ y_ : List Int, y_ = (y139 ++ bytesOf (rdOf ByteArray.empty l0 x6_1)) := ⟨_, rfl⟩; replace H : (spec_Join.l0 k1 l0 a1 y143 (wrap64 (x6_1 + 1))) = some r := by first | (rw [hy143]; with_reducible exact H) | (have H2_ := (Option.bind_some _ _).symm.trans H; rw [hy143]; with_reducible exact H2_) | (have H2_ := (Option.bind_some _ _).symm.trans H; with_reducible exact H2_) | with_reducible exact H | (rw [hy143]; exact H) | exact H
        have Ny143 := Aside0.mk hy143; clear hy143; have H' := Aside0.mk H; clear H; go_wp2_with (first | (at_builtin; refine print_append_str (w0 := w) w.heap.size rfl (.tmp 16) _ 38 9 5 rfl Tryz.underlying38 Tryz.underlying9 info5 u5 x5_1 a1 rfl rfl ?aO ?aB ?aS ?aL ?_; (case aB => exact (Bb0 HB.out)); (case aO => exact (Kd.own_of_R (Br HO_5.out))); (case aS => exact (below_size (Bb0 HB.out))); (case aL => have := LMc7.out; omega); intro v140 w10 ho0 hb hg; have ho := Kd.R_of_own (h1 := fun _ => rfl) (ok := fun _ => True) ho0 (fun _ _ => trivial); clear ho0; have hat := True.intro; rw [← Ny139.out] at ho; change Kd.R (Kd.int .u8) 5 w10 w.heap.size (fun _ => True) v140 y139 at ho; replace HB := Aside0.mk (hb); have HO141 := Aside0.mk (ho); clear HO_5; clear ho hb hg hat; have p142 : 0 ≤ (x6_1 : Int) := Da; have q142 : x6_1 < (l0.length : Int) := Da; obtain ⟨ad142, e142, hx142_0⟩ := Kd.at_string HR0.out x6_1 p142 q142; cases e142; replace hx142_0 := Cx HB hx142_0; replace p142 := eq_true p142; replace q142 := eq_true q142) | (at_builtin; refine print_append_str (w0 := w) w.heap.size rfl (.tmp 19) _ 38 9 5 rfl Tryz.underlying38 Tryz.underlying9 info5 v140 y139 (rdOf ByteArray.empty l0 x6_1) rfl rfl ?aO ?aB ?aS ?aL ?_; (case aB => exact (Bb0 HB.out)); (case aO => exact (Kd.own_of_R (Br HO141.out))); (case aS => exact (below_size (Bb0 HB.out))); (case aL => have := LMc9.out; omega); intro v144 w11 ho0 hb hg; have ho := Kd.R_of_own (h1 := fun _ => rfl) (ok := fun _ => True) ho0 (fun _ _ => trivial); clear ho0; have hat := True.intro; rw [← Ny143.out] at ho; change Kd.R (Kd.int .u8) 5 w11 w.heap.size (fun _ => True) v144 y143 at ho; replace HB := Aside0.mk (hb); have HO145 := Aside0.mk (ho); clear HO141; clear ho hb hg hat)); go_roundg k1
        case measure => have := HK1.out; omega
        case rel => exact ⟨(y143), (wrap64 (x6_1 + 1)), Zf, H', ⟨by have := HK1.out; omega⟩, ⟨by (with_reducible repeat (first | apply Kd.R_alloc | apply Kd.R_drewN | apply Kd.R_drew)); exact HO145.out⟩, ⟨Bb0 HB.out⟩⟩
       ·rw [if_neg c9] at H; exact absurd H (by simp)
      ·rw [if_neg c8] at H; exact absurd H (by simp)
     ·rw [if_neg c7] at H; exact absurd H (by simp)
    ·rw [if_neg c6] at H; have c6b0 : decide (0 < x6_1) = false := decide_eq_false c6; clear c6; by_cases c12 : 0 ≤ x6_1
     ·rw [if_pos c12] at H; have c12b0 : decide (0 ≤ x6_1) = true := decide_eq_true c12; clear c12; by_cases c13 : x5_1.length + (rdOf ByteArray.empty l0 x6_1).size < 140737488355328
      ·rw [if_pos c13] at H; have LMc13 := Aside0.mk c13; clear c13; obtain ⟨y147, hy147⟩ : ∃ y_ : List Int, y_ = (x5_1 ++ bytesOf (rdOf ByteArray.empty l0 x6_1)) := ⟨_, rfl⟩; replace H : (spec_Join.l0 k1 l0 a1 y147 (wrap64 (x6_1 + 1))) = some r := by first | (rw [hy147]; with_reducible exact H) | (have H2_ := (Option.bind_some _ _).symm.trans H; rw [hy147]; with_reducible exact H2_) | (have H2_ := (Option.bind_some _ _).symm.trans H; with_reducible exact H2_) | with_reducible exact H | (rw [hy147]; exact H) | exact H
       have Ny147 := Aside0.mk hy147; clear hy147; have H' := Aside0.mk H; clear H; have p146 : 0 ≤ (x6_1 : Int) := Da; have q146 : x6_1 < (l0.length : Int) := Da; obtain ⟨ad146, e146, hx146_0⟩ := Kd.at_string HR0.out x6_1 p146 q146; cases e146
       replace hx146_0 := Cx HB hx146_0; replace p146 := eq_true p146; replace q146 := eq_true q146; go_wp2_with (first | (at_builtin; refine print_append_str (w0 := w) w.heap.size rfl (.tmp 19) _ 38 9 5 rfl Tryz.underlying38 Tryz.underlying9 info5 u5 x5_1 (rdOf ByteArray.empty l0 x6_1) rfl rfl ?aO ?aB ?aS ?aL ?_; (case aB => exact (Bb0 HB.out)); (case aO => exact (Kd.own_of_R (Br HO_5.out))); (case aS => exact (below_size (Bb0 HB.out))); (case aL => have := LMc13.out; omega); intro v148 w14 ho0 hb hg; have ho := Kd.R_of_own (h1 := fun _ => rfl) (ok := fun _ => True) ho0 (fun _ _ => trivial); clear ho0; have hat := True.intro; rw [← Ny147.out] at ho; change Kd.R (Kd.int .u8) 5 w14 w.heap.size (fun _ => True) v148 y147 at ho; replace HB := Aside0.mk (hb); have HO149 := Aside0.mk (ho); clear HO_5; clear ho hb hg hat)); go_roundg k1
       case measure => have := HK1.out; omega
       case rel => exact ⟨(y147), (wrap64 (x6_1 + 1)), Zf, H', ⟨by have := HK1.out; omega⟩, ⟨by (with_reducible repeat (first | apply Kd.R_alloc | apply Kd.R_drewN | apply Kd.R_drew)); exact HO149.out⟩, ⟨Bb0 HB.out⟩⟩
      ·rw [if_neg c13] at H; exact absurd H (by simp)
     ·rw [if_neg c12] at H; exact absurd H (by simp)
   ·rw [if_neg c5] at H; have c5b0 : decide (x6_1 < (l0.length : Int)) = false := decide_eq_false c5; clear c5; obtain rfl := Option.some.inj H; have hcv15 := own_string (P := Tryz.prog) Tryz.underlying38 Tryz.underlying5 Tryz.underlying9 (Kd.own_of_R HO_5.out); go_wp2; go_ret; exact ⟨Ze, Bb0 HB.out⟩
end Go.Proofs.YtndkkpjofddfjaaGreatDoor.PFnExactParseProgram
