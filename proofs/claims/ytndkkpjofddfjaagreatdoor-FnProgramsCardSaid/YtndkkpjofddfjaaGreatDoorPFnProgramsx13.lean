/- A part of the walk through the printed functions; no condition. -/
import Derived.Test.YtndkkpjofddfjaaGreatDoorXAuto
import Derived.Test.YtndkkpjofddfjaaGreatDoorPFnProgramsx0
import Derived.Test.YtndkkpjofddfjaaGreatDoorPFnProgramsx2
import Derived.Test.YtndkkpjofddfjaaGreatDoorPFnProgramsx11
import Derived.Test.YtndkkpjofddfjaaGreatDoorPFnProgramsx12
namespace Go.Proofs.YtndkkpjofddfjaaGreatDoor.PFnPrograms
open Go.RowKit Go.Proofs.YtndkkpjofddfjaaGreatDoorW.PrintWords Go.Proofs.YtndkkpjofddfjaaGreatDoorW.PrintLast Go.Proofs.YtndkkpjofddfjaaGreatDoorW.PrintMore
attribute [local go_sem] max2_int min2_int max_two min_two max_three min_three max_four min_four
set_option maxHeartbeats 32000000
set_option maxRecDepth 100000
attribute [local irreducible] Go.World.setCell
set_option linter.unusedVariables false
set_option linter.unusedSimpArgs false
open Go.Proofs.YtndkkpjofddfjaaGreatDoorW.PrintWords.Aside0 renaming mk → Qa
open Go.Proofs.YtndkkpjofddfjaaGreatDoorW.PrintWords.Kd renaming R_reads' → Qb, R_types → Qd, string → Qe, at_string → Qi, R_slice → Qj
open Go.Proofs.YtndkkpjofddfjaaGreatDoorW.PrintWords renaming gate_callee → Qc, Aside0 → Qg, gate_dst → Qk
open Go.RowKit renaming wrap64 → Qf, Below → Qz
open Go.Proofs.Tryz renaming underlying30 → Ql, prog → Qo, underlying50 → Qy, func64 → Zq
open Go renaming bodyPost_ret → Za, World → Zc, Calls → Zt, results_cell_row → Zy
open Go.Proofs.YtndkkpjofddfjaaGreatDoorW.PrintWords.Reps renaming one → Zj
abbrev sm0 : ByteArray := ⟨#[120, 32, 121, 32, 116, 59, 53, 59, 48, 32, 49, 32, 121, 61, 110, 117, 108, 108, 59, 49, 32, 52, 32, 120, 61, 61, 110, 117, 108, 108, 59, 49, 32, 50, 32, 120, 33, 61, 110, 117, 108, 108, 59, 50, 32, 51, 32, 116, 61, 120, 46, 110, 59, 51, 32, 53, 32, 120, 46, 110, 61, 121]⟩
abbrev sm1 : ByteArray := ⟨#[120, 32, 121, 32, 116, 59, 55, 59, 48, 32, 49, 32, 121, 61, 110, 117, 108, 108, 59, 49, 32, 54, 32, 120, 61, 61, 110, 117, 108, 108, 59, 49, 32, 50, 32, 120, 33, 61, 110, 117, 108, 108, 59, 50, 32, 51, 32, 116, 61, 121, 59, 51, 32, 52, 32, 121, 61, 120, 59, 52, 32, 53, 32, 120, 61, 120, 46, 110, 59, 53, 32, 49, 32, 121, 46, 110, 61, 116]⟩
abbrev sm2 : ByteArray := ⟨#[120, 32, 121, 59, 52, 59, 48, 32, 49, 32, 120, 61, 110, 117, 108, 108, 59, 49, 32, 50, 32, 121, 61, 110, 101, 119, 59, 50, 32, 51, 32, 121, 46, 110, 61, 120, 59, 51, 32, 49, 32, 120, 61, 121, 59, 49, 32, 49, 32, 115, 107, 105, 112]⟩
abbrev sm3 : ByteArray := ⟨#[120, 32, 121, 59, 52, 59, 48, 32, 49, 32, 121, 61, 120, 59, 49, 32, 50, 32, 121, 33, 61, 110, 117, 108, 108, 59, 50, 32, 49, 32, 121, 61, 121, 46, 110, 59, 49, 32, 51, 32, 121, 61, 61, 110, 117, 108, 108]⟩
abbrev sm4 : ByteArray := ⟨#[120, 32, 121, 59, 53, 59, 48, 32, 52, 32, 120, 61, 61, 110, 117, 108, 108, 59, 48, 32, 49, 32, 120, 33, 61, 110, 117, 108, 108, 59, 49, 32, 50, 32, 121, 61, 120, 46, 110, 59, 50, 32, 51, 32, 120, 46, 110, 61, 110, 117, 108, 108, 59, 51, 32, 48, 32, 102, 114, 101, 101, 32, 120, 59, 51, 32, 52, 32, 115, 107, 105, 112]⟩
abbrev sm5 : ByteArray := ⟨#[120, 32, 121, 59, 52, 59, 48, 32, 49, 32, 120, 61, 110, 101, 119, 59, 49, 32, 50, 32, 121, 61, 110, 101, 119, 59, 50, 32, 51, 32, 120, 46, 110, 61, 121, 59, 51, 32, 48, 32, 121, 46, 110, 61, 120]⟩
abbrev sm6 : ByteArray := ⟨#[120, 32, 121, 32, 116, 59, 54, 59, 48, 32, 49, 32, 121, 61, 120, 59, 49, 32, 50, 32, 121, 33, 61, 110, 117, 108, 108, 59, 50, 32, 51, 32, 116, 61, 121, 46, 110, 59, 51, 32, 49, 32, 121, 61, 116, 59, 49, 32, 52, 32, 121, 61, 61, 110, 117, 108, 108, 59, 52, 32, 53, 32, 116, 61, 110, 117, 108, 108]⟩
abbrev sm7 : ByteArray := ⟨#[120, 32, 121, 32, 116, 59, 54, 59, 48, 32, 53, 32, 120, 61, 61, 110, 117, 108, 108, 59, 48, 32, 49, 32, 120, 33, 61, 110, 117, 108, 108, 59, 49, 32, 50, 32, 116, 61, 120, 46, 110, 59, 50, 32, 51, 32, 102, 114, 101, 101, 32, 120, 59, 51, 32, 52, 32, 120, 61, 116, 59, 52, 32, 48, 32, 116, 61, 110, 117, 108, 108]⟩
def spec_l1Below.f (s0_0 : List Int) (s0_1 : Int) (s0_2 : Int) (a1 : Int) : Option (Int × Int × Int) := if a1 ≤ 0 then (some (0, s0_1, s0_2)) else (if a1 ≤ 256 then ((spec_l1Byte.f s0_0 s0_1 s0_2).bind fun bt49 => (if a1 = 0 then (none) else (some (Int.tmod bt49.1 a1, bt49.2.1, bt49.2.2)))) else ((spec_l1Byte.f s0_0 s0_1 s0_2).bind fun bt51 => ((spec_l1Byte.f s0_0 bt51.2.1 bt51.2.2).bind fun bt53 => ((spec_l1Byte.f s0_0 bt53.2.1 bt53.2.2).bind fun bt54 => ((spec_l1Byte.f s0_0 bt54.2.1 bt54.2.2).bind fun bt55 => (if a1 = 0 then (none) else (some (Int.tmod (Qf ((Qf ((Qf ((Qf (bt51.1 * 16777216)) + (Qf (bt53.1 * 65536)))) + (Qf (bt54.1 * 256)))) + bt55.1)) a1, bt55.2.1, bt55.2.2))))))))
theorem spec_l1Below.calls (g : Nat) (s0_0 : List Int) (s0_1 : Int) (s0_2 : Int) (a1 : Int) (r1 : Int) (r2 : Int) (r3 : Int) (w0 w : Zc) (hI : IsS104 w0 w g s0_0 s0_1 s0_2) (hB : Qz w0.heap.size w0 w) (h : spec_l1Below.f s0_0 s0_1 s0_2 a1 = some (r1, r2, r3)) :
  Zt Qo 64 #[.pointer (some ⟨g, 0, none⟩), .int .i64 a1] w fun e w' => e = .returned (.int .i64 r1) ∧ IsS104 w0 w' g s0_0 r2 r3 ∧ Qz w0.heap.size w0 w' ∧ KeepBut w w' g none := by
 have HI0 := Qa hI
 have HK := Qa (KeepBut.refl w g none)
 have HL := Qa hB.size
 clear hI
 have HW0 := Qa hB.size
 have HB := Qa hB
 clear hB
 have H : (if a1 ≤ 0 then (some (0, s0_1, s0_2)) else (if a1 ≤ 256 then ((spec_l1Byte.f s0_0 s0_1 s0_2).bind fun bt49 => (if a1 = 0 then (none) else (some (Int.tmod bt49.1 a1, bt49.2.1, bt49.2.2)))) else ((spec_l1Byte.f s0_0 s0_1 s0_2).bind fun bt51 => ((spec_l1Byte.f s0_0 bt51.2.1 bt51.2.2).bind fun bt53 => ((spec_l1Byte.f s0_0 bt53.2.1 bt53.2.2).bind fun bt54 => ((spec_l1Byte.f s0_0 bt54.2.1 bt54.2.2).bind fun bt55 => (if a1 = 0 then (none) else (some (Int.tmod (Qf ((Qf ((Qf ((Qf (bt51.1 * 16777216)) + (Qf (bt53.1 * 65536)))) + (Qf (bt54.1 * 256)))) + bt55.1)) a1, bt55.2.1, bt55.2.2))))))))) = some (r1, r2, r3) := h
 clear h
 by_cases c3 : a1 ≤ 0
 ·rw [if_pos c3] at H
  replace c3 := decide_eq_true c3; simp only [Option.some.injEq, Prod.mk.injEq] at H; obtain ⟨rfl, rfl, rfl⟩ := H; go_enter Zq, Tryz.ntmps64; go_wp2; go_ret; exact ⟨Ze, I104 HI0.out, Bb1 HB.out (IsS104.ge HI0.out), Kp HK.out⟩
 ·rw [if_neg c3] at H
  replace c3 := decide_eq_false c3; by_cases c4 : a1 ≤ 256
  ·rw [if_pos c4] at H; replace c4 := decide_eq_true c4; obtain ⟨⟨t49, t86, t87⟩, A5, H⟩ := Ob H; (try dsimp only at H)
   by_cases c6 : a1 = 0
   ·rw [if_pos c6] at H; exact absurd H (by simp)
   ·rw [if_neg c6] at H; have c6b0 := beq_eq_false_iff_ne.mpr c6; have c6b1 := bne_iff_ne.mpr c6; simp only [Option.some.injEq, Prod.mk.injEq] at H; obtain ⟨rfl, rfl, rfl⟩ := H; go_enter Zq, Tryz.ntmps64; go_wp2_with (first | ((with_reducible refine Qc (f := 96) rfl ?_); refine Gl 14 Tryz.func96 #[.pointer (some ⟨g, 0, none⟩)] ?_; (with_reducible refine (spec_l1Byte.calls g s0_0 s0_1 s0_2 t49 t86 t87 w0 _ ?side1 ?side2 A5.out).mono ?_); (case side1 => exact I104 HI0.out); (case side2 => exact Bb1 HB.out (IsS104.ge HI0.out)); rintro e w7 ⟨rfl, hi, hb, hk⟩; refine ⟨_, rfl, ?_⟩; replace HK := Kk (Kp HK.out) hk; replace HB := Qa (hb); replace HI0 := Qa (hi); clear hb hk hi)); go_ret; exact ⟨Ze, I104 HI0.out, Bb1 HB.out (IsS104.ge HI0.out), Kp HK.out⟩
  ·rw [if_neg c4] at H; replace c4 := decide_eq_false c4; obtain ⟨⟨t51, t75, t76⟩, A8, H⟩ := Ob H; (try dsimp only at H)
   obtain ⟨⟨t53, t77, t78⟩, A9, H⟩ := Ob H; (try dsimp only at H)
   obtain ⟨⟨t54, t79, t80⟩, A10, H⟩ := Ob H; (try dsimp only at H)
   obtain ⟨⟨t55, t88, t89⟩, A11, H⟩ := Ob H; (try dsimp only at H)
   by_cases c12 : a1 = 0
   ·rw [if_pos c12] at H; exact absurd H (by simp)
   ·rw [if_neg c12] at H; have c12b0 := beq_eq_false_iff_ne.mpr c12; have c12b1 := bne_iff_ne.mpr c12; simp only [Option.some.injEq, Prod.mk.injEq] at H; obtain ⟨rfl, rfl, rfl⟩ := H; go_enter Zq, Tryz.ntmps64; go_wp2_with (first | ((with_reducible refine Qc (f := 96) rfl ?_); refine Gl 18 Tryz.func96 #[.pointer (some ⟨g, 0, none⟩)] ?_; (with_reducible refine (spec_l1Byte.calls g s0_0 s0_1 s0_2 t51 t75 t76 w0 _ ?side1 ?side2 A8.out).mono ?_); (case side1 => exact I104 HI0.out); (case side2 => exact Bb1 HB.out (IsS104.ge HI0.out)); rintro e w13 ⟨rfl, hi, hb, hk⟩; refine ⟨_, rfl, ?_⟩; replace HK := Kk (Kp HK.out) hk; replace HB := Qa (hb); replace HI0 := Qa (hi); clear hb hk hi) | ((with_reducible refine Qc (f := 96) rfl ?_); refine Gl 20 Tryz.func96 #[.pointer (some ⟨g, 0, none⟩)] ?_; (with_reducible refine (spec_l1Byte.calls g s0_0 t75 t76 t53 t77 t78 w0 _ ?side1 ?side2 A9.out).mono ?_); (case side1 => exact I104 HI0.out); (case side2 => exact Bb1 HB.out (IsS104.ge HI0.out)); rintro e w14 ⟨rfl, hi, hb, hk⟩; refine ⟨_, rfl, ?_⟩; replace HK := Kk (Kp HK.out) hk; replace HB := Qa (hb); replace HI0 := Qa (hi); clear hb hk hi) | ((with_reducible refine Qc (f := 96) rfl ?_); refine Gl 22 Tryz.func96 #[.pointer (some ⟨g, 0, none⟩)] ?_; (with_reducible refine (spec_l1Byte.calls g s0_0 t77 t78 t54 t79 t80 w0 _ ?side1 ?side2 A10.out).mono ?_); (case side1 => exact I104 HI0.out); (case side2 => exact Bb1 HB.out (IsS104.ge HI0.out)); rintro e w15 ⟨rfl, hi, hb, hk⟩; refine ⟨_, rfl, ?_⟩; replace HK := Kk (Kp HK.out) hk; replace HB := Qa (hb); replace HI0 := Qa (hi); clear hb hk hi) | ((with_reducible refine Qc (f := 96) rfl ?_); refine Gl 24 Tryz.func96 #[.pointer (some ⟨g, 0, none⟩)] ?_; (with_reducible refine (spec_l1Byte.calls g s0_0 t79 t80 t55 t88 t89 w0 _ ?side1 ?side2 A11.out).mono ?_); (case side1 => exact I104 HI0.out); (case side2 => exact Bb1 HB.out (IsS104.ge HI0.out)); rintro e w16 ⟨rfl, hi, hb, hk⟩; refine ⟨_, rfl, ?_⟩; replace HK := Kk (Kp HK.out) hk; replace HB := Qa (hb); replace HI0 := Qa (hi); clear hb hk hi)); go_ret; exact ⟨Ze, I104 HI0.out, Bb1 HB.out (IsS104.ge HI0.out), Kp HK.out⟩
def spec_l1Once.f (s0_0 : List Int) (s0_1 : Int) (s0_2 : Int) (a1 : Int) : Option (Bool × Int × Int) := (spec_l1Below.f s0_0 s0_1 s0_2 a1).bind fun bt56 => (some ((bt56.1 == 0), bt56.2.1, bt56.2.2))
theorem spec_l1Once.calls (g : Nat) (s0_0 : List Int) (s0_1 : Int) (s0_2 : Int) (a1 : Int) (r1 : Bool) (r2 : Int) (r3 : Int) (w0 w : Zc) (hI : IsS104 w0 w g s0_0 s0_1 s0_2) (hB : Qz w0.heap.size w0 w) (h : spec_l1Once.f s0_0 s0_1 s0_2 a1 = some (r1, r2, r3)) :
  Zt Qo 65 #[.pointer (some ⟨g, 0, none⟩), .int .i64 a1] w fun e w' => e = .returned (.bool r1) ∧ IsS104 w0 w' g s0_0 r2 r3 ∧ Qz w0.heap.size w0 w' ∧ KeepBut w w' g none := by
 have HI0 := Qa hI
 have HK := Qa (KeepBut.refl w g none)
 have HL := Qa hB.size
 clear hI
 have HW0 := Qa hB.size
 have HB := Qa hB
 clear hB
 have H : ((spec_l1Below.f s0_0 s0_1 s0_2 a1).bind fun bt56 => (some ((bt56.1 == 0), bt56.2.1, bt56.2.2))) = some (r1, r2, r3) := h
 clear h
 obtain ⟨⟨t56, t90, t91⟩, A3, H⟩ := Ob H
 (try dsimp only at H)
 simp only [Option.some.injEq, Prod.mk.injEq] at H
 obtain ⟨rfl, rfl, rfl⟩ := H
 go_enter Tryz.func65, Tryz.ntmps65
 go_wp2_with (first | ((with_reducible refine Qc (f := 64) rfl ?_); refine Gl 7 Zq #[.pointer (some ⟨g, 0, none⟩), .int .i64 a1] ?_; (with_reducible refine (spec_l1Below.calls g s0_0 s0_1 s0_2 a1 t56 t90 t91 w0 _ ?side1 ?side2 A3.out).mono ?_); (case side1 => exact I104 HI0.out); (case side2 => exact Bb1 HB.out (IsS104.ge HI0.out)); rintro e w4 ⟨rfl, hi, hb, hk⟩; refine ⟨_, rfl, ?_⟩; replace HK := Kk (Kp HK.out) hk; replace HB := Qa (hb); replace HI0 := Qa (hi); clear hb hk hi))
 go_ret
 exact ⟨Ze, I104 HI0.out, Bb1 HB.out (IsS104.ge HI0.out), Kp HK.out⟩
def spec_l6Samples.f  : Option (List ByteArray) := some (([sm0, sm1, sm2, sm3, sm4, (⟨#[120, 32, 121, 59, 51, 59, 48, 32, 49, 32, 121, 61, 120, 46, 110, 59, 49, 32, 50, 32, 120, 61, 121, 46, 110]⟩ : ByteArray), (⟨#[120, 32, 121, 59, 51, 59, 48, 32, 49, 32, 120, 61, 110, 101, 119, 59, 49, 32, 50, 32, 120, 61, 110, 117, 108, 108]⟩ : ByteArray), sm5, sm6, sm7] : List ByteArray))
theorem spec_l6Samples.calls  (r : List ByteArray) (w : Zc) (h : spec_l6Samples.f  = some r) :
  Zt Qo 115 #[] w fun e w' => ∃ v0_ : Value, e = .returned (v0_) ∧ Kd.R Qe 9 w' w.heap.size (fun _ => True) v0_ r ∧ Qz w.heap.size w w' := by
 have HB := Qa (Below.refl w.heap.size w)
 have H : (some (([sm0, sm1, sm2, sm3, sm4, (⟨#[120, 32, 121, 59, 51, 59, 48, 32, 49, 32, 121, 61, 120, 46, 110, 59, 49, 32, 50, 32, 120, 61, 121, 46, 110]⟩ : ByteArray), (⟨#[120, 32, 121, 59, 51, 59, 48, 32, 49, 32, 120, 61, 110, 101, 119, 59, 49, 32, 50, 32, 120, 61, 110, 117, 108, 108]⟩ : ByteArray), sm5, sm6, sm7] : List ByteArray))) = some r := h
 clear h
 obtain ⟨y58, hy58⟩ : ∃ y_ : List ByteArray, y_ = (([sm0, sm1, sm2, sm3, sm4, (⟨#[120, 32, 121, 59, 51, 59, 48, 32, 49, 32, 121, 61, 120, 46, 110, 59, 49, 32, 50, 32, 120, 61, 121, 46, 110]⟩ : ByteArray), (⟨#[120, 32, 121, 59, 51, 59, 48, 32, 49, 32, 120, 61, 110, 101, 119, 59, 49, 32, 50, 32, 120, 61, 110, 117, 108, 108]⟩ : ByteArray), sm5, sm6, sm7] : List ByteArray)) := ⟨_, rfl⟩
 replace H : (some y58) = some r := Zh hy58 H
 have Ny58 := Qa hy58
 clear hy58
 obtain rfl := Option.some.inj H
 go_enter Tryz.func115, Tryz.ntmps115
 go_wp2_with (first | ((with_reducible refine Qk (N := 1) rfl ?_); refine Kd.R_lit Qe _ 9 ?hg (N := 1) ?hd (xs := ([sm0, sm1, sm2, sm3, sm4, (⟨#[120, 32, 121, 59, 51, 59, 48, 32, 49, 32, 121, 61, 120, 46, 110, 59, 49, 32, 50, 32, 120, 61, 121, 46, 110]⟩ : ByteArray), (⟨#[120, 32, 121, 59, 51, 59, 48, 32, 49, 32, 120, 61, 110, 101, 119, 59, 49, 32, 50, 32, 120, 61, 110, 117, 108, 108]⟩ : ByteArray), sm5, sm6, sm7] : List ByteArray)) (inner := [.string sm0, .string sm1, .string sm2, .string sm3, .string sm4, .string (⟨#[120, 32, 121, 59, 51, 59, 48, 32, 49, 32, 121, 61, 120, 46, 110, 59, 49, 32, 50, 32, 120, 61, 121, 46, 110]⟩ : ByteArray), .string (⟨#[120, 32, 121, 59, 51, 59, 48, 32, 49, 32, 120, 61, 110, 101, 119, 59, 49, 32, 50, 32, 120, 61, 110, 117, 108, 108]⟩ : ByteArray), .string sm5, .string sm6, .string sm7]) (ok := fun _ => True) (okp := fun _ => True) ?hr ?hp (fun _ hk => hk) trivial (Below.refl _ _) (Nat.le_refl _) (by simp) ?_; (case hd => rfl); (case hg => rfl); (case hr => first | (go_simp; done) | (go_simp; rfl)); (case hp => exact (Zj (show Kd.M Qe _ _ _ sm0 [.string sm0] from rfl) (Zj (show Kd.M Qe _ _ _ sm1 [.string sm1] from rfl) (Zj (show Kd.M Qe _ _ _ sm2 [.string sm2] from rfl) (Zj (show Kd.M Qe _ _ _ sm3 [.string sm3] from rfl) (Zj (show Kd.M Qe _ _ _ sm4 [.string sm4] from rfl) (Zj (show Kd.M Qe _ _ _ (⟨#[120, 32, 121, 59, 51, 59, 48, 32, 49, 32, 121, 61, 120, 46, 110, 59, 49, 32, 50, 32, 120, 61, 121, 46, 110]⟩ : ByteArray) [.string (⟨#[120, 32, 121, 59, 51, 59, 48, 32, 49, 32, 121, 61, 120, 46, 110, 59, 49, 32, 50, 32, 120, 61, 121, 46, 110]⟩ : ByteArray)] from rfl) (Zj (show Kd.M Qe _ _ _ (⟨#[120, 32, 121, 59, 51, 59, 48, 32, 49, 32, 120, 61, 110, 101, 119, 59, 49, 32, 50, 32, 120, 61, 110, 117, 108, 108]⟩ : ByteArray) [.string (⟨#[120, 32, 121, 59, 51, 59, 48, 32, 49, 32, 120, 61, 110, 101, 119, 59, 49, 32, 50, 32, 120, 61, 110, 117, 108, 108]⟩ : ByteArray)] from rfl) (Zj (show Kd.M Qe _ _ _ sm5 [.string sm5] from rfl) (Zj (show Kd.M Qe _ _ _ sm6 [.string sm6] from rfl) (Zj (show Kd.M Qe _ _ _ sm7 [.string sm7] from rfl) (Reps.none _ _)))))))))))); intro v375 w1 ho2 hb hg_ hnew_; clear hg_ hnew_; (first | rw [← Ny58.out] at ho2 | (simp only [Int.reduceToNat] at ho2; rw [← Ny58.out] at ho2)); have HO92 := Lw ho2 (Bb0 HB.out); replace HB := Sb (Bb0 HB.out) hb; clear hb ho2))
 go_ret
 exact ⟨_, Ze, Br HO92.out, Bb0 HB.out⟩
def spec_l6Sample.f (k : Nat) (s0_0 : List Int) (s0_1 : Int) (s0_2 : Int) : Option (List ByteArray × Int × (List (S52)) × Int × Int) := (spec_l6Samples.f).bind fun t42 => ((spec_l1Below.f s0_0 s0_1 s0_2 (Qf ((t42.length : Int) - 1))).bind fun bt43 => (if 0 ≤ (Qf (1 + bt43.1)) then (if (Qf (1 + bt43.1)) < (t42.length : Int) then ((spec_ParseProgram.f k (rdOf ByteArray.empty t42 (Qf (1 + bt43.1)))).bind fun bt44 => (some (bt44.1, bt44.2.1, bt44.2.2.1, bt43.2.1, bt43.2.2))) else (none)) else (none)))
theorem spec_l6Sample.mono : ∀ a0 a1 a2 k, LeO (spec_l6Sample.f k a0 a1 a2) (spec_l6Sample.f (k + 1) a0 a1 a2) := by
 intro a0 a1 a2 k
 unfold spec_l6Sample.f
 exact Lm1 spec_ParseProgram.mono
theorem spec_l6Sample.calls (k : Nat) (g : Nat) (s0_0 : List Int) (s0_1 : Int) (s0_2 : Int) (r1 : List ByteArray) (r2 : Int) (r3 : List (S52)) (r4 : Int) (r5 : Int) (w0 w : Zc) (hI : IsS104 w0 w g s0_0 s0_1 s0_2) (hB : Qz w0.heap.size w0 w) (h : spec_l6Sample.f k s0_0 s0_1 s0_2 = some (r1, r2, r3, r4, r5)) :
  Zt Qo 93 #[.pointer (some ⟨g, 0, none⟩)] w fun e w' => ∃ v0_ v2_ : Value, e = .returned (.agg #[v0_, .int .i64 r2, v2_]) ∧ Kd.R Qe 9 w' w.heap.size (fun _ => True) v0_ r1 ∧ Kd.R k52 52 w' w.heap.size (fun _ => True) v2_ r3 ∧ IsS104 w0 w' g s0_0 r4 r5 ∧ Qz w0.heap.size w0 w' ∧ KeepBut w w' g none := by
 have hu30 := Ql
 have HI0 := Qa hI
 have HK := Qa (KeepBut.refl w g none)
 have HL := Qa hB.size
 clear hI
 have HW0 := Qa hB.size
 have HB := Qa hB
 clear hB
 have H : ((spec_l6Samples.f).bind fun t42 => ((spec_l1Below.f s0_0 s0_1 s0_2 (Qf ((t42.length : Int) - 1))).bind fun bt43 => (if 0 ≤ (Qf (1 + bt43.1)) then (if (Qf (1 + bt43.1)) < (t42.length : Int) then ((spec_ParseProgram.f k (rdOf ByteArray.empty t42 (Qf (1 + bt43.1)))).bind fun bt44 => (some (bt44.1, bt44.2.1, bt44.2.2.1, bt43.2.1, bt43.2.2))) else (none)) else (none)))) = some (r1, r2, r3, r4, r5) := h
 clear h
 obtain ⟨t42, A2, H⟩ := Ob H
 (try dsimp only at H)
 obtain ⟨⟨t43, t71, t72⟩, A3, H⟩ := Ob H
 (try dsimp only at H)
 obtain ⟨ji4, hji4⟩ : ∃ j_ : Int, (Qf (1 + t43)) = j_ := ⟨_, rfl⟩
 replace H : (if 0 ≤ (ji4) then (if (ji4) < (t42.length : Int) then ((spec_ParseProgram.f k (rdOf ByteArray.empty t42 (ji4))).bind fun bt44 => (some (bt44.1, bt44.2.1, bt44.2.2.1, t71, t72))) else (none)) else (none)) = some (r1, r2, r3, r4, r5) := by first | (rw [hji4] at H; exact H) | (simp only [hji4] at H ⊢; exact H)
 (try rw [hji4] at A2)
 (try rw [hji4] at A3)
 have hji4w : (IntKind.i64.wrap (1 + t43)) = ji4 := (i64_w _).trans hji4
 by_cases c5 : 0 ≤ (ji4)
 ·rw [if_pos c5] at H
  replace c5 := decide_eq_true c5; by_cases c6 : (ji4) < (t42.length : Int)
  ·rw [if_pos c6] at H; replace c6 := decide_eq_true c6; obtain ⟨⟨t44, t81, t82, t93⟩, A7, H⟩ := Ob H; (try dsimp only at H)
   simp only [Option.some.injEq, Prod.mk.injEq] at H; obtain ⟨rfl, rfl, rfl, rfl, rfl⟩ := H; go_enter Tryz.func93, Tryz.ntmps93; go_wp2_with (first | ((with_reducible refine Qk (N := 2) rfl ?_); refine Bx (N := 2) (cs := #[.slice none 0 0, .int .i64 0, .slice none 0 0]) (t := 30) ?_; intro gb38 hg w8 hbox hb; replace HB := Sb (Bb1 HB.out (IsS104.ge HI0.out)) hb; have BK38 := Qa (hbox); have GW38 := Gk (w := w) (g := g) hg (Kp HK.out); have GE38 := Qa ((Nat.le_trans HW0.out (by rw [hg]; exact (keep_size (w := w) (g := g) (row := none) (Kp HK.out)) : w.heap.size ≤ gb38) : w0.heap.size ≤ gb38)); replace HK := Kw (g := g) (Kp HK.out) hb; have NB0_38 := Qa ((by rw [hg]; exact Nat.ne_of_lt (IsS104.lt (show IsS104 w0 _ g s0_0 s0_1 s0_2 from I104 HI0.out)) : g ≠ gb38)); have NB38_0 := Qa ((by rw [hg]; exact Nat.ne_of_gt (IsS104.lt (show IsS104 w0 _ g s0_0 s0_1 s0_2 from I104 HI0.out)) : gb38 ≠ g)); replace HI0 := Qa (IsS104.below (I104 HI0.out) hb); clear hb hbox hg) | ((with_reducible refine Qc (f := 115) rfl ?_); refine Gl 6 Tryz.func115 #[] ?_; (with_reducible refine (spec_l6Samples.calls  t42 _ A2.out).mono ?_); rintro e w9 ⟨v379, rfl, ho0, hb⟩; refine ⟨_, rfl, ?_⟩; have HO57 := Lk (g := g) ho0 (Kq1 HK.out GW38.out); replace BK38 := Kb BK38 hb; replace HK := Kw (g := g) (Kq1 HK.out GW38.out) hb; replace HB := Sb (Bb2 HB.out (IsS104.ge HI0.out) GE38.out) hb; replace HI0 := Qa (IsS104.below (I104x1 HI0.out NB0_38.out) hb); clear hb; (try clear ho0); obtain ⟨Ao10, co10, eo10⟩ := Qj HO57.out; subst eo10) | ((with_reducible refine Qc (f := 64) rfl ?_); refine Gl 13 Zq #[.pointer (some ⟨g, 0, none⟩), .int .i64 (Qf ((t42.length : Int) - 1))] ?_; (with_reducible refine (spec_l1Below.calls g s0_0 s0_1 s0_2 (Qf ((t42.length : Int) - 1)) t43 t71 t72 w0 _ ?side1 ?side2 A3.out).mono ?_); (case side1 => exact I104x1 HI0.out NB0_38.out); (case side2 => exact Bb2 HB.out (IsS104.ge HI0.out) GE38.out); rintro e w11 ⟨rfl, hi, hb, hk⟩; refine ⟨_, rfl, ?_⟩; replace BK38 := Kc hk BK38 NB38_0; replace HO57 := Ik104 (I104x1 HI0.out NB0_38.out) HO57 hk; replace HK := Kk (Kq1 HK.out GW38.out) hk; replace HB := Qa (hb); replace HI0 := Qa (hi); clear hb hk hi; have p47 : 0 ≤ ((ji4) : Int) := Da; have q47 : (ji4) < (t42.length : Int) := Da; obtain ⟨ad47, e47, hx47_0⟩ := Qi (Qb HO57.out).2.2 (ji4) p47 q47; cases e47; replace p47 := eq_true p47; replace q47 := eq_true q47) | ((with_reducible refine Qc (f := 11) rfl ?_); refine goesL_ (some 17) rfl rfl Tryz.func11 (by kernel_rfl) rfl #[.string (rdOf ByteArray.empty t42 (ji4))] rfl (by (try simp only [List.map_toArray, List.map_cons, List.map_nil]); first | done | (simp only [hji4]; rfl) | rfl | (simp only [List.length_drop, List.length_take]; rfl)) ?_; (with_reducible refine (spec_ParseProgram.calls k (rdOf ByteArray.empty t42 (ji4)) t44 t81 t82 t93 _ A7.out).mono ?_); rintro e w12 ⟨v386, v390, rfl, ho0, ho1, hb⟩; refine ⟨_, rfl, ?_⟩; have HO73 := Lk (g := g) (Kd.R_new' ho0 (Kd.R_lt (Br HO57.out))) (Kq1 HK.out GW38.out); replace HO57 := Ke HO57 hb ho0; have HO74 := Lk (g := g) ho1 (Kq1 HK.out GW38.out); replace BK38 := Kb BK38 hb; replace HK := Kw (g := g) (Kq1 HK.out GW38.out) hb; replace HB := Sb (Bb2 HB.out (IsS104.ge HI0.out) GE38.out) hb; replace HI0 := Qa (IsS104.below (I104x1 HI0.out NB0_38.out) hb); clear hb; (try clear ho0); (try clear ho1)) | ((with_reducible refine Qk (N := 4) rfl ?_); refine Bx (N := 4) (cs := #[.slice none 0 0, .int .i64 0, .slice none 0 0]) (t := 30) ?_; intro gb40 hg w13 hbox hb; replace HO57 := Rb HO57 hb; replace HO73 := Rb HO73 hb; replace HO74 := Rb HO74 hb; replace HB := Sb (Bb2 HB.out (IsS104.ge HI0.out) GE38.out) hb; have BK40 := Qa (hbox); have GW40 := Gk (w := w) (g := g) hg (Kq1 HK.out GW38.out); have GE40 := Qa ((Nat.le_trans HW0.out (by rw [hg]; exact (keep_size (w := w) (g := g) (row := none) (Kq1 HK.out GW38.out)) : w.heap.size ≤ gb40) : w0.heap.size ≤ gb40)); replace HK := Kw (g := g) (Kq1 HK.out GW38.out) hb; have NB38_40 := Nl hg BK38; have NB40_38 := Ng hg BK38; replace BK38 := Kb BK38 hb; have NB0_40 := Qa ((by rw [hg]; exact Nat.ne_of_lt (IsS104.lt (show IsS104 w0 _ g s0_0 t71 t72 from I104x1 HI0.out NB0_38.out)) : g ≠ gb40)); have NB40_0 := Qa ((by rw [hg]; exact Nat.ne_of_gt (IsS104.lt (show IsS104 w0 _ g s0_0 t71 t72 from I104x1 HI0.out NB0_38.out)) : gb40 ≠ g)); replace HI0 := Qa (IsS104.below (I104x1 HI0.out NB0_38.out) hb); clear hb hbox hg; obtain ⟨Ao14, co14, eo14⟩ := Qj HO73.out; subst eo14; have hnb15 := NB40_38.out; have hnc15 := NB38_40.out; have hnb16 := NB40_0.out; have hnc16 := NB0_40.out; obtain ⟨q17_0, q17_1, q17_2, u17_0, u17_1, u17_2⟩ := Cf3 BK40; obtain ⟨Ao18, co18, eo18⟩ := Qj HO74.out; subst eo18; have hnb19 := NB38_0.out; have hnc19 := NB0_38.out; obtain ⟨q20_0, q20_1, q20_2, u20_0, u20_1, u20_2⟩ := Cf3 BK38) | ((with_reducible show bodyPost _ _ _ _ _ _); refine Za (Zy rfl _ _ gb38 30 #[.slice Ao14 t44.length co14, .int .i64 t81, .slice Ao18 t82.length co18] (0, 0) _ rfl (Bm1 BK38.out NB38_40.out) Ql rfl (by kernel_rfl)) rfl ?_; exact ⟨_, _, by first | rfl | (simp [errW_none, errW_some] <;> rfl) | (simp only [← hji4]; first | rfl | (simp [errW_none, errW_some] <;> rfl)) | (simp [*, errW_none, errW_some] <;> rfl), Rs (Qd (Qd HO73.out BK40.out (by decide)) BK38.out (by decide)), Rs (Qd (Qd HO74.out BK40.out (by decide)) BK38.out (by decide)), I104x2 HI0.out NB0_38.out NB0_40.out, Bb3 HB.out (IsS104.ge HI0.out) GE38.out GE40.out, Kq2 HK.out GW38.out GW40.out⟩))
  ·rw [if_neg c6] at H; exact absurd H (by simp)
 ·rw [if_neg c5] at H
  exact absurd H (by simp)
def spec_l2Vars.f  : Option (List ByteArray) := some (([(⟨#[120]⟩ : ByteArray), (⟨#[121]⟩ : ByteArray), (⟨#[116]⟩ : ByteArray)] : List ByteArray))
theorem spec_l2Vars.calls  (r : List ByteArray) (w : Zc) (h : spec_l2Vars.f  = some r) :
  Zt Qo 94 #[] w fun e w' => ∃ v0_ : Value, e = .returned (v0_) ∧ Kd.R Qe 9 w' w.heap.size (fun _ => True) v0_ r ∧ Qz w.heap.size w w' := by
 have HB := Qa (Below.refl w.heap.size w)
 have H : (some (([(⟨#[120]⟩ : ByteArray), (⟨#[121]⟩ : ByteArray), (⟨#[116]⟩ : ByteArray)] : List ByteArray))) = some r := h
 clear h
 obtain ⟨y59, hy59⟩ : ∃ y_ : List ByteArray, y_ = (([(⟨#[120]⟩ : ByteArray), (⟨#[121]⟩ : ByteArray), (⟨#[116]⟩ : ByteArray)] : List ByteArray)) := ⟨_, rfl⟩
 replace H : (some y59) = some r := Zh hy59 H
 have Ny59 := Qa hy59
 clear hy59
 obtain rfl := Option.some.inj H
 go_enter Tryz.func94, Tryz.ntmps94
 go_wp2_with (first | ((with_reducible refine Qk (N := 1) rfl ?_); refine Kd.R_lit Qe _ 9 ?hg (N := 1) ?hd (xs := ([(⟨#[120]⟩ : ByteArray), (⟨#[121]⟩ : ByteArray), (⟨#[116]⟩ : ByteArray)] : List ByteArray)) (inner := [.string (⟨#[120]⟩ : ByteArray), .string (⟨#[121]⟩ : ByteArray), .string (⟨#[116]⟩ : ByteArray)]) (ok := fun _ => True) (okp := fun _ => True) ?hr ?hp (fun _ hk => hk) trivial (Below.refl _ _) (Nat.le_refl _) (by simp) ?_; (case hd => rfl); (case hg => rfl); (case hr => first | (go_simp; done) | (go_simp; rfl)); (case hp => exact (Zj (show Kd.M Qe _ _ _ (⟨#[120]⟩ : ByteArray) [.string (⟨#[120]⟩ : ByteArray)] from rfl) (Zj (show Kd.M Qe _ _ _ (⟨#[121]⟩ : ByteArray) [.string (⟨#[121]⟩ : ByteArray)] from rfl) (Zj (show Kd.M Qe _ _ _ (⟨#[116]⟩ : ByteArray) [.string (⟨#[116]⟩ : ByteArray)] from rfl) (Reps.none _ _))))); intro v395 w1 ho2 hb hg_ hnew_; clear hg_ hnew_; (first | rw [← Ny59.out] at ho2 | (simp only [Int.reduceToNat] at ho2; rw [← Ny59.out] at ho2)); have HO94 := Lw ho2 (Bb0 HB.out); replace HB := Sb (Bb0 HB.out) hb; clear hb ho2))
 go_ret
 exact ⟨_, Ze, Br HO94.out, Bb0 HB.out⟩
def spec_l1Pick.f (s0_0 : List Int) (s0_1 : Int) (s0_2 : Int) (l1 : List ByteArray) : Option (ByteArray × Int × Int) := (spec_l1Below.f s0_0 s0_1 s0_2 (l1.length : Int)).bind fun bt41 => (if 0 ≤ bt41.1 then (if bt41.1 < (l1.length : Int) then (some (rdOf ByteArray.empty l1 bt41.1, bt41.2.1, bt41.2.2)) else (none)) else (none))
theorem spec_l1Pick.calls (g : Nat) (s0_0 : List Int) (s0_1 : Int) (s0_2 : Int) (A1 : Option Addr) (c1 : Nat) (l1 : List ByteArray) (r1 : ByteArray) (r2 : Int) (r3 : Int) (w0 w : Zc) (hI : IsS104 w0 w g s0_0 s0_1 s0_2) (hB : Qz w0.heap.size w0 w) (hr1 : Kd.C Qe w A1 l1.length l1) (hc1 : l1.length ≤ c1) (hf1 : ∀ ad, A1 = some ad → 0 < l1.length → ad.block ≠ g) (h : spec_l1Pick.f s0_0 s0_1 s0_2 l1 = some (r1, r2, r3)) :
  Zt Qo 92 #[.pointer (some ⟨g, 0, none⟩), .slice A1 l1.length c1] w fun e w' => e = .returned (.string r1) ∧ IsS104 w0 w' g s0_0 r2 r3 ∧ Qz w0.heap.size w0 w' ∧ KeepBut w w' g none := by
 have HR1 := Qa hr1
 have HC1 := Qa hc1
 clear hr1 hc1
 have HI0 := Qa hI
 have HK := Qa (KeepBut.refl w g none)
 have HL := Qa hB.size
 clear hI
 have HW0 := Qa hB.size
 have HB := Qa hB
 clear hB
 have H : ((spec_l1Below.f s0_0 s0_1 s0_2 (l1.length : Int)).bind fun bt41 => (if 0 ≤ bt41.1 then (if bt41.1 < (l1.length : Int) then (some (rdOf ByteArray.empty l1 bt41.1, bt41.2.1, bt41.2.2)) else (none)) else (none))) = some (r1, r2, r3) := h
 clear h
 obtain ⟨⟨t41, t95, t96⟩, A3, H⟩ := Ob H
 (try dsimp only at H)
 by_cases c4 : 0 ≤ t41
 ·rw [if_pos c4] at H
  replace c4 := decide_eq_true c4; by_cases c5 : t41 < (l1.length : Int)
  ·rw [if_pos c5] at H; replace c5 := decide_eq_true c5; simp only [Option.some.injEq, Prod.mk.injEq] at H; obtain ⟨rfl, rfl, rfl⟩ := H; go_enter Tryz.func92, Tryz.ntmps92; go_wp2_with (first | ((with_reducible refine Qc (f := 64) rfl ?_); refine Gl 9 Zq #[.pointer (some ⟨g, 0, none⟩), .int .i64 (l1.length : Int)] ?_; (with_reducible refine (spec_l1Below.calls g s0_0 s0_1 s0_2 (l1.length : Int) t41 t95 t96 w0 _ ?side1 ?side2 A3.out).mono ?_); (case side1 => exact I104 HI0.out); (case side2 => exact Bb1 HB.out (IsS104.ge HI0.out)); rintro e w6 ⟨rfl, hi, hb, hk⟩; refine ⟨_, rfl, ?_⟩; replace HK := Kk (Kp HK.out) hk; replace HB := Qa (hb); replace HI0 := Qa (hi); clear hb hk hi; have p45 : 0 ≤ (t41 : Int) := Da; have q45 : t41 < (l1.length : Int) := Da; obtain ⟨ad45, e45, hx45_0⟩ := Qi HR1.out t41 p45 q45; cases e45; replace hx45_0 := keep_cell HK.out hx45_0 (by first | (rw [add_block]; exact hf1 _ rfl (by omega)) | exact hf1 _ rfl (by omega) | exact hf1 ad45 rfl (by omega)); replace p45 := eq_true p45; replace q45 := eq_true q45)); go_ret; exact ⟨Ze, I104 HI0.out, Bb1 HB.out (IsS104.ge HI0.out), Kp HK.out⟩
  ·rw [if_neg c5] at H; exact absurd H (by simp)
 ·rw [if_neg c4] at H
  exact absurd H (by simp)
def spec_l4Draw.j0 : Nat → Int → List Int → Int → Int → Int → ByteArray → ByteArray → Option (Int × ByteArray × ByteArray × Int × Int)
 | 0, _, _, _, _, _, _, _ => none
 | k + 1, x4, x97, x61, x62, x83, x60, x98 => if x4 > 1 then ((spec_l2Vars.f).bind fun t70 => ((spec_l1Pick.f x97 x61 x62 t70).bind fun bt65 => (some (x83, x60, bt65.1, bt65.2.1, bt65.2.2)))) else (some (x83, x60, x98, x61, x62))
def spec_l4Draw.f (k : Nat) (s0_0 : List Int) (s0_1 : Int) (s0_2 : Int) : Option (Int × ByteArray × ByteArray × Int × Int) := (spec_l1Below.f s0_0 s0_1 s0_2 12).bind fun bt39 => ((spec_NamesOf.f k (Qf (1 + bt39.1))).bind fun t46 => (if t46 > 0 then ((spec_l2Vars.f).bind fun t63 => ((spec_l1Pick.f s0_0 bt39.2.1 bt39.2.2 t63).bind fun bt48 => (spec_l4Draw.j0 k t46 s0_0 bt48.2.1 bt48.2.2 (Qf (1 + bt39.1)) bt48.1 (⟨#[]⟩ : ByteArray)))) else (spec_l4Draw.j0 k t46 s0_0 bt39.2.1 bt39.2.2 (Qf (1 + bt39.1)) (⟨#[]⟩ : ByteArray) (⟨#[]⟩ : ByteArray))))
theorem spec_l4Draw.mono_l : ∀ k, (∀ y0 y1 y2 y3 y4 y5 y6, LeO (spec_l4Draw.j0 k y0 y1 y2 y3 y4 y5 y6) (spec_l4Draw.j0 (k + 1) y0 y1 y2 y3 y4 y5 y6))
 | 0 => fun _ _ _ _ _ _ _ r h => by simp [spec_l4Draw.j0] at h
 | k + 1 => by
  have ih0 := spec_l4Draw.mono_l k
  ·intro y0 y1 y2 y3 y4 y5 y6; unfold spec_l4Draw.j0; exact Lm2 ih0 spec_NamesOf.mono
theorem spec_l4Draw.mono : ∀ a0 a1 a2 k, LeO (spec_l4Draw.f k a0 a1 a2) (spec_l4Draw.f (k + 1) a0 a1 a2) := by
 intro a0 a1 a2 k
 have ih0 := spec_l4Draw.mono_l k
 unfold spec_l4Draw.f
 exact Lm2 ih0 spec_NamesOf.mono
theorem spec_l4Draw.calls (k : Nat) (g : Nat) (s0_0 : List Int) (s0_1 : Int) (s0_2 : Int) (r1 : Int) (r2 : ByteArray) (r3 : ByteArray) (r4 : Int) (r5 : Int) (w0 w : Zc) (hI : IsS104 w0 w g s0_0 s0_1 s0_2) (hB : Qz w0.heap.size w0 w) (h : spec_l4Draw.f k s0_0 s0_1 s0_2 = some (r1, r2, r3, r4, r5)) :
  Zt Qo 95 #[.pointer (some ⟨g, 0, none⟩)] w fun e w' => e = .returned (.agg #[.int .i64 r1, .string r2, .string r3]) ∧ IsS104 w0 w' g s0_0 r4 r5 ∧ Qz w0.heap.size w0 w' ∧ KeepBut w w' g none := by
 have hu50 := Qy
 have HI0 := Qa hI
 have HK := Qa (KeepBut.refl w g none)
 have HL := Qa hB.size
 clear hI
 have HW0 := Qa hB.size
 have HB := Qa hB
 clear hB
 have H : ((spec_l1Below.f s0_0 s0_1 s0_2 12).bind fun bt39 => ((spec_NamesOf.f k (Qf (1 + bt39.1))).bind fun t46 => (if t46 > 0 then ((spec_l2Vars.f).bind fun t63 => ((spec_l1Pick.f s0_0 bt39.2.1 bt39.2.2 t63).bind fun bt48 => (spec_l4Draw.j0 k t46 s0_0 bt48.2.1 bt48.2.2 (Qf (1 + bt39.1)) bt48.1 (⟨#[]⟩ : ByteArray)))) else (spec_l4Draw.j0 k t46 s0_0 bt39.2.1 bt39.2.2 (Qf (1 + bt39.1)) (⟨#[]⟩ : ByteArray) (⟨#[]⟩ : ByteArray))))) = some (r1, r2, r3, r4, r5) := h
 clear h
 obtain ⟨⟨t39, t66, t67⟩, A2, H⟩ := Ob H
 (try dsimp only at H)
 obtain ⟨t46, A3, H⟩ := Ob H
 (try dsimp only at H)
 have HC4 := Qa H
 clear H
 go_enter Tryz.func95, Tryz.ntmps95
 go_upto_if 13 with (first | ((with_reducible refine Qk (N := 2) rfl ?_); refine Bx (N := 2) (cs := #[.int .i64 0, .string (⟨#[]⟩ : ByteArray), .string (⟨#[]⟩ : ByteArray)]) (t := 50) ?_; intro gb36 hg w5 hbox hb; replace HB := Sb (Bb1 HB.out (IsS104.ge HI0.out)) hb; have BK36 := Qa (hbox); have GW36 := Gk (w := w) (g := g) hg (Kp HK.out); have GE36 := Qa ((Nat.le_trans HW0.out (by rw [hg]; exact (keep_size (w := w) (g := g) (row := none) (Kp HK.out)) : w.heap.size ≤ gb36) : w0.heap.size ≤ gb36)); replace HK := Kw (g := g) (Kp HK.out) hb; have NB0_36 := Qa ((by rw [hg]; exact Nat.ne_of_lt (IsS104.lt (show IsS104 w0 _ g s0_0 s0_1 s0_2 from I104 HI0.out)) : g ≠ gb36)); have NB36_0 := Qa ((by rw [hg]; exact Nat.ne_of_gt (IsS104.lt (show IsS104 w0 _ g s0_0 s0_1 s0_2 from I104 HI0.out)) : gb36 ≠ g)); replace HI0 := Qa (IsS104.below (I104 HI0.out) hb); clear hb hbox hg) | ((with_reducible refine Qc (f := 64) rfl ?_); refine Gl 6 Zq #[.pointer (some ⟨g, 0, none⟩), .int .i64 12] ?_; (with_reducible refine (spec_l1Below.calls g s0_0 s0_1 s0_2 12 t39 t66 t67 w0 _ ?side1 ?side2 A2.out).mono ?_); (case side1 => exact I104x1 HI0.out NB0_36.out); (case side2 => exact Bb2 HB.out (IsS104.ge HI0.out) GE36.out); rintro e w6 ⟨rfl, hi, hb, hk⟩; refine ⟨_, rfl, ?_⟩; replace BK36 := Kc hk BK36 NB36_0; replace HK := Kk (Kq1 HK.out GW36.out) hk; replace HB := Qa (hb); replace HI0 := Qa (hi); clear hb hk hi) | ((with_reducible refine Qk (N := 3) rfl ?_); refine Bx (N := 3) (cs := #[.int .i64 0, .string (⟨#[]⟩ : ByteArray), .string (⟨#[]⟩ : ByteArray)]) (t := 50) ?_; intro gb37 hg w7 hbox hb; replace HB := Sb (Bb2 HB.out (IsS104.ge HI0.out) GE36.out) hb; have BK37 := Qa (hbox); have GW37 := Gk (w := w) (g := g) hg (Kq1 HK.out GW36.out); have GE37 := Qa ((Nat.le_trans HW0.out (by rw [hg]; exact (keep_size (w := w) (g := g) (row := none) (Kq1 HK.out GW36.out)) : w.heap.size ≤ gb37) : w0.heap.size ≤ gb37)); replace HK := Kw (g := g) (Kq1 HK.out GW36.out) hb; have NB36_37 := Nl hg BK36; have NB37_36 := Ng hg BK36; replace BK36 := Kb BK36 hb; have NB0_37 := Qa ((by rw [hg]; exact Nat.ne_of_lt (IsS104.lt (show IsS104 w0 _ g s0_0 t66 t67 from I104x1 HI0.out NB0_36.out)) : g ≠ gb37)); have NB37_0 := Qa ((by rw [hg]; exact Nat.ne_of_gt (IsS104.lt (show IsS104 w0 _ g s0_0 t66 t67 from I104x1 HI0.out NB0_36.out)) : gb37 ≠ g)); replace HI0 := Qa (IsS104.below (I104x1 HI0.out NB0_36.out) hb); clear hb hbox hg; have hnb8 := NB37_36.out; have hnc8 := NB36_37.out; have hnb9 := NB37_0.out; have hnc9 := NB0_37.out; obtain ⟨q10_0, q10_1, q10_2, u10_0, u10_1, u10_2⟩ := Cf3 BK37) | ((with_reducible refine Qc (f := 68) rfl ?_); refine Gl 11 Tryz.func68 #[.int .i64 (Qf (1 + t39))] ?_; (with_reducible refine (spec_NamesOf.calls k (Qf (1 + t39)) t46 _ A3.out).mono ?_); rintro e w' ⟨rfl, ⟨nd, rfl⟩⟩; refine ⟨_, rfl, ?_⟩))
 (try simp only [Act.put, List.setIfInBounds_toArray, List.set_cons_zero, List.set_cons_succ])
 go_cut [] (fun wc => ∃ (kq : Nat) (x61_3 : Int) (x62_3 : Int) (x60_3 : ByteArray), Qg (spec_l4Draw.j0 kq t46 s0_0 x61_3 x62_3 (Qf (1 + t39)) x60_3 (⟨#[]⟩ : ByteArray) = some (r1, r2, r3, r4, r5)) ∧ Qg (kq ≤ k) ∧ Qg (wc.heap[gb36]? = some (.cells #[.int .i64 0, .string (⟨#[]⟩ : ByteArray), .string (⟨#[]⟩ : ByteArray)] 50 (0, 0))) ∧ Qg (wc.heap[gb37]? = some (.cells #[.int .i64 (Qf (1 + t39)), .string x60_3, .string (⟨#[]⟩ : ByteArray)] 50 (0, 0))) ∧ Qg (IsS104 w0 wc g s0_0 x61_3 x62_3) ∧ Qg (KeepBut w wc g none) ∧ Qg (Qz w0.heap.size w0 wc))
 case first =>
  have H := HC4.out; clear HC4; by_cases c11 : t46 > 0
  ·rw [if_pos c11] at H; replace c11 := decide_eq_true c11; (first | rw [c11] | (simp only [i64_w, i32_w]; rw [c11]) | skip)
   obtain ⟨t63, A12, H⟩ := Ob H; (try dsimp only at H)
   obtain ⟨⟨t48, t84, t85⟩, A13, H⟩ := Ob H; (try dsimp only at H)
   have H' := Qa H; clear H; go_wp2_with (first | ((with_reducible refine Qc (f := 94) rfl ?_); refine Gl 15 Tryz.func94 #[] ?_; (with_reducible refine (spec_l2Vars.calls  t63 _ A12.out).mono ?_); rintro e w14 ⟨v408, rfl, ho0, hb⟩; refine ⟨_, rfl, ?_⟩; have HO68 := Lk (g := g) ho0 (Kq2 HK.out GW36.out GW37.out); replace BK36 := Kf BK36 NB36_37.out hb; replace BK37 := Kx0 (.cells #[.int .i64 (Qf (1 + t39)), .string (⟨#[]⟩ : ByteArray), .string (⟨#[]⟩ : ByteArray)] 50 (0, 0)) BK37 hb; replace HK := Kw (g := g) (Kq2 HK.out GW36.out GW37.out) hb; replace HB := Sb (Bb3 HB.out (IsS104.ge HI0.out) GE36.out GE37.out) hb; replace HI0 := Qa (IsS104.below (show IsS104 w0 _ g s0_0 t66 t67 from I104x2 HI0.out NB0_36.out NB0_37.out) hb); clear hb; (try clear ho0); obtain ⟨Ao15, co15, eo15⟩ := Qj HO68.out; subst eo15) | ((with_reducible refine Qc (f := 92) rfl ?_); refine Gl 16 Tryz.func92 #[.pointer (some ⟨g, 0, none⟩), .slice Ao15 t63.length co15] ?_; (with_reducible refine (spec_l1Pick.calls g s0_0 t66 t67 _ _ t63 t48 t84 t85 w0 _ ?side1 ?side2 ?side3 ?side4 ?side5 A13.out).mono ?_); (case side1 => exact I104x2 HI0.out NB0_36.out NB0_37.out); (case side2 => exact Bb3 HB.out (IsS104.ge HI0.out) GE36.out GE37.out); (case side3 => exact Bc (Qb HO68.out).2.2); (case side4 => exact (Qb HO68.out).2.1); (case side5 => exact far_slice (IsS104.own_ne HI0.out HO68.out (by decide))); rintro e w16 ⟨rfl, hi, hb, hk⟩; refine ⟨_, rfl, ?_⟩; replace BK36 := Kc hk BK36 NB36_0; replace BK37 := Kc hk BK37 NB37_0; replace HO68 := Ik104 (I104x2 HI0.out NB0_36.out NB0_37.out) HO68 hk; replace HK := Kk (Kq2 HK.out GW36.out GW37.out) hk; replace HB := Qa (hb); replace HI0 := Qa (hi); clear hb hk hi; have hnb17 := NB37_36.out; have hnc17 := NB36_37.out; have hnb18 := NB37_0.out; have hnc18 := NB0_37.out; obtain ⟨q19_0, q19_1, q19_2, u19_0, u19_1, u19_2⟩ := Cf3 BK37)); go_meet
   case rel => exact ⟨_, (t84), (t85), (t48), H', ⟨by first | omega | exact Nat.le_refl _⟩, ⟨Bf BK36.out NB36_37.out⟩, ⟨Bq BK37.out⟩, ⟨I104x2 HI0.out NB0_36.out NB0_37.out⟩, ⟨Kq2 HK.out GW36.out GW37.out⟩, ⟨Bb3 HB.out (IsS104.ge HI0.out) GE36.out GE37.out⟩⟩
  ·rw [if_neg c11] at H; replace c11 := decide_eq_false c11; (first | rw [c11] | (simp only [i64_w, i32_w]; rw [c11]) | skip)
   have H' := Qa H; clear H; go_wp2; go_meet
   case rel => exact ⟨_, (t66), (t67), ((⟨#[]⟩ : ByteArray)), H', ⟨by first | omega | exact Nat.le_refl _⟩, ⟨Bf BK36.out NB36_37.out⟩, ⟨Bq BK37.out⟩, ⟨I104x2 HI0.out NB0_36.out NB0_37.out⟩, ⟨Kq2 HK.out GW36.out GW37.out⟩, ⟨Bb3 HB.out (IsS104.ge HI0.out) GE36.out GE37.out⟩⟩
 case rest =>
  clear HC4; (try clear c1)
  (try clear p2)
  (try clear c6)
  (try clear p6)
  (try clear c8)
  (try clear c9)
  (try clear c11)
  (try clear c11)
  (try clear c17)
  (try clear c18)
  (try clear q10_0)
  (try clear q10_1)
  (try clear q10_2)
  (try clear q19_0)
  (try clear q19_1)
  (try clear q19_2)
  (try clear u10_0)
  (try clear u10_1)
  (try clear u10_2)
  (try clear u19_0)
  (try clear u19_1)
  (try clear u19_2)
  obtain ⟨kq, x61_3, x62_3, x60_3, HA, HJ3, BK36, BK37, HI0, HK, HB⟩ := hcut; cases kq with
  | zero => exact absurd HA.out (by simp [spec_l4Draw.j0])
  | succ kj3 =>
   have H := HA.out; clear HA; simp only [spec_l4Draw.j0] at H; by_cases c20 : t46 > 1
   ·rw [if_pos c20] at H; replace c20 := decide_eq_true c20; obtain ⟨t70, A21, H⟩ := Ob H; (try dsimp only at H)
    obtain ⟨⟨t65, t99, t418⟩, A22, H⟩ := Ob H; (try dsimp only at H)
    simp only [Option.some.injEq, Prod.mk.injEq] at H; obtain ⟨rfl, rfl, rfl, rfl, rfl⟩ := H; go_wp2_with (first | ((with_reducible refine Qc (f := 94) rfl ?_); refine Gl 21 Tryz.func94 #[] ?_; (with_reducible refine (spec_l2Vars.calls  t70 _ A21.out).mono ?_); rintro e w23 ⟨v414, rfl, ho0, hb⟩; refine ⟨_, rfl, ?_⟩; have HO69 := Lk (g := g) ho0 (Kq2 HK.out GW36.out GW37.out); replace BK36 := Kb BK36 hb; replace BK37 := Kb BK37 hb; replace HK := Kw (g := g) (Kq2 HK.out GW36.out GW37.out) hb; replace HB := Sb (Bb3 HB.out (IsS104.ge HI0.out) GE36.out GE37.out) hb; replace HI0 := Qa (IsS104.below (I104x2 HI0.out NB0_36.out NB0_37.out) hb); clear hb; (try clear ho0); obtain ⟨Ao24, co24, eo24⟩ := Qj HO69.out; subst eo24) | ((with_reducible refine Qc (f := 92) rfl ?_); refine Gl 22 Tryz.func92 #[.pointer (some ⟨g, 0, none⟩), .slice Ao24 t70.length co24] ?_; (with_reducible refine (spec_l1Pick.calls g s0_0 x61_3 x62_3 _ _ t70 t65 t99 t418 w0 _ ?side1 ?side2 ?side3 ?side4 ?side5 A22.out).mono ?_); (case side1 => exact I104x2 HI0.out NB0_36.out NB0_37.out); (case side2 => exact Bb3 HB.out (IsS104.ge HI0.out) GE36.out GE37.out); (case side3 => exact Bc (Qb HO69.out).2.2); (case side4 => exact (Qb HO69.out).2.1); (case side5 => exact far_slice (IsS104.own_ne HI0.out HO69.out (by decide))); rintro e w25 ⟨rfl, hi, hb, hk⟩; refine ⟨_, rfl, ?_⟩; replace BK36 := Kc hk BK36 NB36_0; replace BK37 := Kc hk BK37 NB37_0; replace HO69 := Ik104 (I104x2 HI0.out NB0_36.out NB0_37.out) HO69 hk; replace HK := Kk (Kq2 HK.out GW36.out GW37.out) hk; replace HB := Qa (hb); replace HI0 := Qa (hi); clear hb hk hi; have hnb26 := NB37_36.out; have hnc26 := NB36_37.out; have hnb27 := NB37_0.out; have hnc27 := NB0_37.out; obtain ⟨q28_0, q28_1, q28_2, u28_0, u28_1, u28_2⟩ := Cf3 BK37; have hnb29 := NB36_0.out; have hnc29 := NB0_36.out; obtain ⟨q30_0, q30_1, q30_2, u30_0, u30_1, u30_2⟩ := Cf3 BK36) | ((with_reducible show bodyPost _ _ _ _ _ _); refine Za (Zy rfl _ _ gb36 50 #[.int .i64 (Qf (1 + t39)), .string x60_3, .string t65] (0, 0) _ rfl (Bm1 BK36.out NB36_37.out) Qy rfl (by kernel_rfl)) rfl ?_; exact ⟨Ze, I104x2 HI0.out NB0_36.out NB0_37.out, Bb3 HB.out (IsS104.ge HI0.out) GE36.out GE37.out, Kq2 HK.out GW36.out GW37.out⟩))
   ·rw [if_neg c20] at H; replace c20 := decide_eq_false c20; simp only [Option.some.injEq, Prod.mk.injEq] at H; obtain ⟨rfl, rfl, rfl, rfl, rfl⟩ := H; have hnb31 := NB37_36.out; have hnc31 := NB36_37.out; have hnb32 := NB37_0.out; have hnc32 := NB0_37.out; obtain ⟨q33_0, q33_1, q33_2, u33_0, u33_1, u33_2⟩ := Cf3 BK37; have hnb34 := NB36_0.out; have hnc34 := NB0_36.out; obtain ⟨q35_0, q35_1, q35_2, u35_0, u35_1, u35_2⟩ := Cf3 BK36; go_wp2; refine Za (Zy rfl _ _ gb36 50 #[.int .i64 (Qf (1 + t39)), .string x60_3, .string (⟨#[]⟩ : ByteArray)] (0, 0) _ rfl (Bq BK36.out) Qy rfl (by kernel_rfl)) rfl ?_; exact ⟨Ze, I104x2 HI0.out NB0_36.out NB0_37.out, Bb3 HB.out (IsS104.ge HI0.out) GE36.out GE37.out, Kq2 HK.out GW36.out GW37.out⟩
end Go.Proofs.YtndkkpjofddfjaaGreatDoor.PFnPrograms
