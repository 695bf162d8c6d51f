/- A part of the walk through the printed functions; no condition. -/
import Derived.Test.YtndkkpjofddfjaaGreatDoorXAuto
import Derived.Test.YtndkkpjofddfjaaGreatDoorPFnExactParseProgramx0
import Derived.Test.YtndkkpjofddfjaaGreatDoorPFnExactParseProgramx4
namespace Go.Proofs.YtndkkpjofddfjaaGreatDoor.PFnExactParseProgram
open Go.RowKit Go.Proofs.YtndkkpjofddfjaaGreatDoorW.PrintWords Go.Proofs.YtndkkpjofddfjaaGreatDoorW.PrintLast Go.Proofs.YtndkkpjofddfjaaGreatDoorW.PrintMore
attribute [local go_sem] max2_int min2_int max_two min_two max_three min_three max_four min_four
set_option maxHeartbeats 32000000
set_option maxRecDepth 100000
attribute [local irreducible] Go.World.setCell
set_option linter.unusedVariables false
set_option linter.unusedSimpArgs false
open Go.Proofs.YtndkkpjofddfjaaGreatDoorW.PrintWords.Aside0 renaming mk → Qa
open Go.RowKit renaming wrap64 → Qb, Below → Qv
open Go.Proofs.YtndkkpjofddfjaaGreatDoorW.PrintWords renaming gate_callee → Qd, Aside0 → Qe
mutual
def spec_l1Read.j0 : Nat → ByteArray → Int → Bool → Option (Int × Bool)
 | 0, _, _, _ => none
 | k + 1, x0, x1, x6 => if x6 = true then (if 1 ≤ (x0.size : Int) then (spec_l1Read.j1 k x0 x1 x6 (x0.extract 1 x0.size)) else (none)) else (spec_l1Read.j1 k x0 x1 x6 x0)
def spec_l1Read.j1 : Nat → ByteArray → Int → Bool → ByteArray → Option (Int × Bool)
 | 0, _, _, _, _ => none
 | k + 1, x0, x1, x6, x7 => if (x7.size : Int) < 1 then (spec_l1Read.j2 k x0 x6 x7 true) else (spec_l1Read.j2 k x0 x6 x7 (decide ((x7.size : Int) > x1)))
def spec_l1Read.j2 : Nat → ByteArray → Bool → ByteArray → Bool → Option (Int × Bool)
 | 0, _, _, _, _ => none
 | k + 1, x0, x6, x7, x30 => if x30 = true then (some (0, false)) else (spec_l1Read.l0 k x0 x6 x7 0 0)
def spec_l1Read.l0 : Nat → ByteArray → Bool → ByteArray → Int → Int → Option (Int × Bool)
 | 0, _, _, _, _, _ => none
 | k + 1, x0, x6, x7, x8, x9 => if x9 < (x7.size : Int) then (if 0 ≤ x9 then (if (bt x7 x9) < 48 then (some (0, false)) else (if (bt x7 x9) > 57 then (some (0, false)) else (spec_l1Read.l0 k x0 x6 x7 (Qb ((Qb (10 * x8)) + (((bt x7 x9) - 48) % 256))) (Qb (x9 + 1))))) else (none)) else (if x6 = true then ((spec_FormatInt.f k (Qb (-x8))).bind fun t34 => (if t34.toList = x0.toList then (some (Qb (-x8), true)) else (some (0, false)))) else ((spec_FormatInt.f k x8).bind fun t35 => (if t35.toList = x0.toList then (some (x8, true)) else (some (0, false)))))
end
def spec_l1Read.f (k : Nat) (a0 : ByteArray) (a1 : Int) : Option (Int × Bool) := if (a0.size : Int) > 0 then (if 0 < (a0.size : Int) then (spec_l1Read.j0 k a0 a1 ((bt a0 0) == 45)) else (none)) else (spec_l1Read.j0 k a0 a1 false)
theorem spec_l1Read.mono_l : ∀ k, (∀ y0 y1 y2, LeO (spec_l1Read.j0 k y0 y1 y2) (spec_l1Read.j0 (k + 1) y0 y1 y2)) ∧ (∀ y0 y1 y2 y3, LeO (spec_l1Read.j1 k y0 y1 y2 y3) (spec_l1Read.j1 (k + 1) y0 y1 y2 y3)) ∧ (∀ y0 y1 y2 y3, LeO (spec_l1Read.j2 k y0 y1 y2 y3) (spec_l1Read.j2 (k + 1) y0 y1 y2 y3)) ∧ (∀ y0 y1 y2 y3 y4, LeO (spec_l1Read.l0 k y0 y1 y2 y3 y4) (spec_l1Read.l0 (k + 1) y0 y1 y2 y3 y4))
 | 0 => ⟨fun _ _ _ r h => by simp [spec_l1Read.j0] at h, fun _ _ _ _ r h => by simp [spec_l1Read.j1] at h, fun _ _ _ _ r h => by simp [spec_l1Read.j2] at h, fun _ _ _ _ _ r h => by simp [spec_l1Read.l0] at h⟩
 | k + 1 => by
  obtain ⟨ih0, ih1, ih2, ih3⟩ := spec_l1Read.mono_l k; refine ⟨?_, ?_, ?_, ?_⟩
  ·intro y0 y1 y2; unfold spec_l1Read.j0; exact Lm5 ih0 ih1 ih2 ih3 spec_FormatInt.mono
  ·intro y0 y1 y2 y3; unfold spec_l1Read.j1; exact Lm5 ih0 ih1 ih2 ih3 spec_FormatInt.mono
  ·intro y0 y1 y2 y3; unfold spec_l1Read.j2; exact Lm5 ih0 ih1 ih2 ih3 spec_FormatInt.mono
  ·intro y0 y1 y2 y3 y4; unfold spec_l1Read.l0; exact Lm5 ih0 ih1 ih2 ih3 spec_FormatInt.mono
theorem spec_l1Read.mono : ∀ a0 a1 k, LeO (spec_l1Read.f k a0 a1) (spec_l1Read.f (k + 1) a0 a1) := by
 intro a0 a1 k
 obtain ⟨ih0, ih1, ih2, ih3⟩ := spec_l1Read.mono_l k
 unfold spec_l1Read.f
 exact Lm5 ih0 ih1 ih2 ih3 spec_FormatInt.mono
theorem spec_l1Read.calls (k : Nat) (a0 : ByteArray) (a1 : Int) (r1 : Int) (r2 : Bool) (w : World) (h : spec_l1Read.f k a0 a1 = some (r1, r2)) :
  Calls Tryz.prog 79 #[.string a0, .int .i64 a1] w fun e w' => e = .returned (.tuple #[.int .i64 r1, .bool r2]) ∧ Qv w.heap.size w w' := by
 have HB := Qa (Below.refl w.heap.size w)
 have H : (if (a0.size : Int) > 0 then (if 0 < (a0.size : Int) then (spec_l1Read.j0 k a0 a1 ((bt a0 0) == 45)) else (none)) else (spec_l1Read.j0 k a0 a1 false)) = some (r1, r2) := h
 clear h
 have HC3 := Qa H
 clear H
 go_enter Tryz.func79, Tryz.ntmps79
 go_upto_region 1 with (fail)
 go_cut [6] (fun v6 wc => ∃ (kq : Nat) (x6_2 : Bool), v6 = .bool x6_2 ∧ Qe (spec_l1Read.j0 kq a0 a1 x6_2 = some (r1, r2)) ∧ Qe (kq ≤ k) ∧ Qe (Qv w.heap.size w wc))
 case first =>
  have H := HC3.out; clear HC3; by_cases c4 : (a0.size : Int) > 0
  ·rw [if_pos c4] at H; have c4b0 := decide_eq_true c4; have c4b1 : decide (0 < a0.size) = true := decide_eq_true (by omega); clear c4; (first | rw [c4b0] | (simp only [i64_w, i32_w]; rw [c4b0]) | skip)
   by_cases c5 : 0 < (a0.size : Int)
   ·rw [if_pos c5] at H; have c5b0 := decide_eq_true c5; have c5b1 : decide (0 < a0.size) = true := decide_eq_true (by omega); clear c5; have H' := Qa H; clear H; have p6 : 0 ≤ (0 : Int) := (by omega); have q6 : 0 < a0.size := (by have : (0 : Int) < (a0.size : Int) := Da; omega); have hx6 : ∀ h : 0 < a0.size, ((a0[0]'h).toNat : Int) = bt a0 0 := bt_at a0 0; clear p6; have qi6 : (0 < (a0.size : Int)) = True := eq_true (Da); replace q6 := eq_true q6; go_wp2; go_meet
    case rel => exact ⟨_, (((bt a0 0) == 45)), Zf, H', ⟨by first | omega | exact Nat.le_refl _⟩, ⟨Bb0 HB.out⟩⟩
   ·rw [if_neg c5] at H; exact absurd H (by simp)
  ·rw [if_neg c4] at H; have c4b0 := decide_eq_false c4; have c4b1 : decide (0 < a0.size) = false := decide_eq_false (by omega); clear c4; (first | rw [c4b0] | (simp only [i64_w, i32_w]; rw [c4b0]) | skip)
   have H' := Qa H; clear H; go_wp2; go_meet
   case rel => exact ⟨_, (false), Zf, H', ⟨by first | omega | exact Nat.le_refl _⟩, ⟨Bb0 HB.out⟩⟩
 case rest =>
  clear HC3; (try clear p2)
  (try clear c4)
  (try clear c4b0)
  (try clear c4b1)
  (try clear c5)
  (try clear c5b0)
  (try clear c5b1)
  (try clear p6)
  (try clear q6)
  (try clear hx6)
  (try clear qi6)
  (try clear p6)
  (try clear q6)
  obtain ⟨kq, x6_2, rfl, HA, HJ2, HB⟩ := hcut; cases kq with
  | zero => exact absurd HA.out (by simp [spec_l1Read.j0])
  | succ kj2 =>
   have H := HA.out; clear HA; simp only [spec_l1Read.j0] at H; have HC7 := Qa H; clear H; go_upto_if 19 with (fail)
   go_cut [7] (fun v7 wc => ∃ (kq : Nat) (x7_6 : ByteArray), v7 = .string x7_6 ∧ Qe (spec_l1Read.j1 kq a0 a1 x6_2 x7_6 = some (r1, r2)) ∧ Qe (kq ≤ kj2) ∧ Qe (Qv w.heap.size w wc))
   case first =>
    have H := HC7.out; clear HC7; by_cases c8 : x6_2 = true
    ·subst c8; rw [if_pos rfl] at H; by_cases c9 : 1 ≤ (a0.size : Int)
     ·rw [if_pos c9] at H; have c9b0 := eq_true c9; have c9b1 := decide_eq_true c9; clear c9; have H' := Qa H; clear H; go_wp2; go_meet
      case rel => exact ⟨_, (a0.extract 1 a0.size), Zf, H', ⟨by have := HJ2.out; first | omega | exact Nat.le_refl _⟩, ⟨Bb0 HB.out⟩⟩
     ·rw [if_neg c9] at H; exact absurd H (by simp)
    ·replace c8 := Bool.eq_false_iff.mpr c8; subst c8; rw [if_neg (show ¬ (false = true) by decide)] at H; have H' := Qa H; clear H; go_wp2; go_meet
     case rel => exact ⟨_, (a0), Zf, H', ⟨by have := HJ2.out; first | omega | exact Nat.le_refl _⟩, ⟨Bb0 HB.out⟩⟩
   case rest =>
    clear HC7; (try clear p2)
    (try clear c4)
    (try clear c4b0)
    (try clear c4b1)
    (try clear c5)
    (try clear c5b0)
    (try clear c5b1)
    (try clear p6)
    (try clear q6)
    (try clear hx6)
    (try clear qi6)
    (try clear c7)
    (try clear c8)
    (try clear c9)
    (try clear c9b0)
    (try clear c9b1)
    (try clear p2)
    (try clear p6)
    (try clear q6)
    obtain ⟨kq, x7_6, rfl, HA, HJ6, HB⟩ := hcut; cases kq with
    | zero => exact absurd HA.out (by simp [spec_l1Read.j1])
    | succ kj6 =>
     have H := HA.out; clear HA; simp only [spec_l1Read.j1] at H; have HC10 := Qa H; clear H; go_upto_region 5 with (fail)
     go_cut [30] (fun v30 wc => ∃ (kq : Nat) (x30_9 : Bool), v30 = .bool x30_9 ∧ Qe (spec_l1Read.j2 kq a0 x6_2 x7_6 x30_9 = some (r1, r2)) ∧ Qe (kq ≤ kj6) ∧ Qe (Qv w.heap.size w wc))
     case first =>
      have H := HC10.out; clear HC10; by_cases c11 : (x7_6.size : Int) < 1
      ·rw [if_pos c11] at H; have c11b0 := decide_eq_true c11; have c11b1 : decide (x7_6.size < 1) = true := decide_eq_true (by omega); clear c11; (first | rw [c11b0] | (simp only [i64_w, i32_w]; rw [c11b0]) | skip)
       have H' := Qa H; clear H; go_wp2; go_meet
       case rel => exact ⟨_, (true), Zf, H', ⟨by have := HJ2.out; have := HJ6.out; first | omega | exact Nat.le_refl _⟩, ⟨Bb0 HB.out⟩⟩
      ·rw [if_neg c11] at H; have c11b0 := decide_eq_false c11; have c11b1 : decide (x7_6.size < 1) = false := decide_eq_false (by omega); clear c11; (first | rw [c11b0] | (simp only [i64_w, i32_w]; rw [c11b0]) | skip)
       have H' := Qa H; clear H; go_wp2; go_meet
       case rel => exact ⟨_, (decide ((x7_6.size : Int) > a1)), Zf, H', ⟨by have := HJ2.out; have := HJ6.out; first | omega | exact Nat.le_refl _⟩, ⟨Bb0 HB.out⟩⟩
     case rest =>
      clear HC10; (try clear c1)
      (try clear p2)
      (try clear c4)
      (try clear c4b0)
      (try clear c4b1)
      (try clear c5)
      (try clear c5b0)
      (try clear c5b1)
      (try clear p6)
      (try clear q6)
      (try clear hx6)
      (try clear qi6)
      (try clear c7)
      (try clear c8)
      (try clear c9)
      (try clear c9b0)
      (try clear c9b1)
      (try clear c11)
      (try clear c11b0)
      (try clear c11b1)
      (try clear p2)
      (try clear p6)
      (try clear q6)
      obtain ⟨kq, x30_9, rfl, HA, HJ9, HB⟩ := hcut; cases kq with
      | zero => exact absurd HA.out (by simp [spec_l1Read.j2])
      | succ kj9 =>
       have H := HA.out; clear HA; simp only [spec_l1Read.j2] at H; by_cases c12 : x30_9 = true
       ·subst c12; rw [if_pos rfl] at H; simp only [Option.some.injEq, Prod.mk.injEq] at H; obtain ⟨rfl, rfl⟩ := H; go_wp2; go_ret2; exact ⟨Ze, Bb0 HB.out⟩
       ·replace c12 := Bool.eq_false_iff.mpr c12; subst c12; rw [if_neg (show ¬ (false = true) by decide)] at H; have H' := Qa H; clear H; go_wp2; go_loopg [8, 9] kj9 (fun kq v8 v9 w' => ∃ (x8_4 : Int) (x9_4 : Int), v8 = .int .i64 x8_4 ∧ v9 = .int .i64 x9_4 ∧ Qe (spec_l1Read.l0 kq a0 x6_2 x7_6 x8_4 x9_4 = some (r1, r2)) ∧ Qe (kq ≤ kj9) ∧ Qe (Qv w.heap.size w w'))
        case atStart => exact ⟨(0), (0), Zf, Zf, H', ⟨Nat.le_refl _⟩, ⟨Bb0 HB.out⟩⟩
        case round =>
         clear H'; (try clear c1)
         (try clear p2)
         (try clear c4)
         (try clear c4b0)
         (try clear c4b1)
         (try clear c5)
         (try clear c5b0)
         (try clear c5b1)
         (try clear p6)
         (try clear q6)
         (try clear hx6)
         (try clear qi6)
         (try clear c7)
         (try clear c8)
         (try clear c9)
         (try clear c9b0)
         (try clear c9b1)
         (try clear c11)
         (try clear c11b0)
         (try clear c11b1)
         (try clear c12)
         (try clear p2)
         (try clear p6)
         (try clear q6)
         obtain ⟨x8_4, x9_4, rfl, rfl, HA, HK4, HB⟩ := hrel; cases gk with
         | zero => exact absurd HA.out (by simp [spec_l1Read.l0])
         | succ k4 =>
          have H := HA.out; clear HA; simp only [spec_l1Read.l0] at H; by_cases c13 : x9_4 < (x7_6.size : Int)
          ·rw [if_pos c13] at H; replace c13 := decide_eq_true c13; by_cases c14 : 0 ≤ x9_4
           ·rw [if_pos c14] at H; replace c14 := decide_eq_true c14; by_cases c16 : (bt x7_6 x9_4) < 48
            ·rw [if_pos c16] at H; replace c16 := decide_eq_true c16; simp only [Option.some.injEq, Prod.mk.injEq] at H; obtain ⟨rfl, rfl⟩ := H; have p15 : 0 ≤ (x9_4 : Int) := Da; have q15 : x9_4 < (x7_6.size : Int) := Da; have hx15 := bt_at x7_6 x9_4; replace p15 := eq_true p15; replace q15 := eq_true q15; go_wp2; go_ret2; exact ⟨Ze, Bb0 HB.out⟩
            ·rw [if_neg c16] at H; replace c16 := decide_eq_false c16; by_cases c18 : (bt x7_6 x9_4) > 57
             ·rw [if_pos c18] at H; replace c18 := decide_eq_true c18; simp only [Option.some.injEq, Prod.mk.injEq] at H; obtain ⟨rfl, rfl⟩ := H; have p15 : 0 ≤ (x9_4 : Int) := Da; have q15 : x9_4 < (x7_6.size : Int) := Da; have hx15 := bt_at x7_6 x9_4; replace p15 := eq_true p15; replace q15 := eq_true q15; have p17 : 0 ≤ (x9_4 : Int) := Da; have q17 : x9_4 < (x7_6.size : Int) := Da; have hx17 := bt_at x7_6 x9_4; replace p17 := eq_true p17; replace q17 := eq_true q17; go_wp2; go_ret2; exact ⟨Ze, Bb0 HB.out⟩
             ·rw [if_neg c18] at H; replace c18 := decide_eq_false c18; have H' := Qa H; clear H; have p15 : 0 ≤ (x9_4 : Int) := Da; have q15 : x9_4 < (x7_6.size : Int) := Da; have hx15 := bt_at x7_6 x9_4; replace p15 := eq_true p15; replace q15 := eq_true q15; have p17 : 0 ≤ (x9_4 : Int) := Da; have q17 : x9_4 < (x7_6.size : Int) := Da; have hx17 := bt_at x7_6 x9_4; replace p17 := eq_true p17; replace q17 := eq_true q17; have p19 : 0 ≤ (x9_4 : Int) := Da; have q19 : x9_4 < (x7_6.size : Int) := Da; have hx19 := bt_at x7_6 x9_4; replace p19 := eq_true p19; replace q19 := eq_true q19; go_wp2; go_roundg k4
              case measure => have := HJ2.out; have := HJ6.out; have := HJ9.out; have := HK4.out; omega
              case rel => exact ⟨(Qb ((Qb (10 * x8_4)) + (((bt x7_6 x9_4) - 48) % 256))), (Qb (x9_4 + 1)), Zf, Zf, H', ⟨by have := HJ2.out; have := HJ6.out; have := HJ9.out; have := HK4.out; omega⟩, ⟨Bb0 HB.out⟩⟩
           ·rw [if_neg c14] at H; exact absurd H (by simp)
          ·rw [if_neg c13] at H; replace c13 := decide_eq_false c13; by_cases c20 : x6_2 = true
           ·subst c20; rw [if_pos rfl] at H; obtain ⟨t34, A21, H⟩ := Ob H; (try dsimp only at H)
            by_cases c22 : t34.toList = a0.toList
            ·rw [if_pos c22] at H; have c22b0 := beq_iff_eq.mpr c22; have c22b1 := bne_eq_false_iff_eq.mpr c22; clear c22; simp only [Option.some.injEq, Prod.mk.injEq] at H; obtain ⟨rfl, rfl⟩ := H; go_wp2_with (first | ((with_reducible refine Qd (f := 30) rfl ?_); refine Gl 59 Tryz.func30 #[.int .i64 (Qb (-x8_4))] ?_; (with_reducible refine (spec_FormatInt.calls k4 (Qb (-x8_4)) t34 _ A21.out).mono ?_); rintro e w23 ⟨rfl, hb⟩; refine ⟨_, rfl, ?_⟩; replace HB := Sb (Bb0 HB.out) hb; clear hb)); go_ret2; exact ⟨Ze, Bb0 HB.out⟩
            ·rw [if_neg c22] at H; have c22b0 := beq_eq_false_iff_ne.mpr c22; have c22b1 := bne_iff_ne.mpr c22; simp only [Option.some.injEq, Prod.mk.injEq] at H; obtain ⟨rfl, rfl⟩ := H; go_wp2_with (first | ((with_reducible refine Qd (f := 30) rfl ?_); refine Gl 59 Tryz.func30 #[.int .i64 (Qb (-x8_4))] ?_; (with_reducible refine (spec_FormatInt.calls k4 (Qb (-x8_4)) t34 _ A21.out).mono ?_); rintro e w24 ⟨rfl, hb⟩; refine ⟨_, rfl, ?_⟩; replace HB := Sb (Bb0 HB.out) hb; clear hb)); go_ret2; exact ⟨Ze, Bb0 HB.out⟩
           ·replace c20 := Bool.eq_false_iff.mpr c20; subst c20; rw [if_neg (show ¬ (false = true) by decide)] at H; obtain ⟨t35, A25, H⟩ := Ob H; (try dsimp only at H)
            by_cases c26 : t35.toList = a0.toList
            ·rw [if_pos c26] at H; have c26b0 := beq_iff_eq.mpr c26; have c26b1 := bne_eq_false_iff_eq.mpr c26; clear c26; simp only [Option.some.injEq, Prod.mk.injEq] at H; obtain ⟨rfl, rfl⟩ := H; go_wp2_with (first | ((with_reducible refine Qd (f := 30) rfl ?_); refine Gl 59 Tryz.func30 #[.int .i64 x8_4] ?_; (with_reducible refine (spec_FormatInt.calls k4 x8_4 t35 _ A25.out).mono ?_); rintro e w27 ⟨rfl, hb⟩; refine ⟨_, rfl, ?_⟩; replace HB := Sb (Bb0 HB.out) hb; clear hb)); go_ret2; exact ⟨Ze, Bb0 HB.out⟩
            ·rw [if_neg c26] at H; have c26b0 := beq_eq_false_iff_ne.mpr c26; have c26b1 := bne_iff_ne.mpr c26; simp only [Option.some.injEq, Prod.mk.injEq] at H; obtain ⟨rfl, rfl⟩ := H; go_wp2_with (first | ((with_reducible refine Qd (f := 30) rfl ?_); refine Gl 59 Tryz.func30 #[.int .i64 x8_4] ?_; (with_reducible refine (spec_FormatInt.calls k4 x8_4 t35 _ A25.out).mono ?_); rintro e w28 ⟨rfl, hb⟩; refine ⟨_, rfl, ?_⟩; replace HB := Sb (Bb0 HB.out) hb; clear hb)); go_ret2; exact ⟨Ze, Bb0 HB.out⟩
def spec_ParseNumber.f (k : Nat) (a0 : ByteArray) : Option (Int × Bool) := (spec_l1Read.f k a0 6).bind fun bt29 => (if bt29.2 = true then (if bt29.1 < 0 then (some (0, false)) else (some (bt29.1, true))) else (some (0, false)))
theorem spec_ParseNumber.mono : ∀ a0 k, LeO (spec_ParseNumber.f k a0) (spec_ParseNumber.f (k + 1) a0) := by
 intro a0 k
 unfold spec_ParseNumber.f
 exact Lm1 spec_l1Read.mono
theorem spec_ParseNumber.calls (k : Nat) (a0 : ByteArray) (r1 : Int) (r2 : Bool) (w : World) (h : spec_ParseNumber.f k a0 = some (r1, r2)) :
  Calls Tryz.prog 40 #[.string a0] w fun e w' => e = .returned (.tuple #[.int .i64 r1, .bool r2]) ∧ Qv w.heap.size w w' := by
 have HB := Qa (Below.refl w.heap.size w)
 have H : ((spec_l1Read.f k a0 6).bind fun bt29 => (if bt29.2 = true then (if bt29.1 < 0 then (some (0, false)) else (some (bt29.1, true))) else (some (0, false)))) = some (r1, r2) := h
 clear h
 obtain ⟨⟨t29, t36⟩, A2, H⟩ := Ob H
 (try dsimp only at H)
 by_cases c3 : t36 = true
 ·subst c3
  rw [if_pos rfl] at H; by_cases c4 : t29 < 0
  ·rw [if_pos c4] at H; replace c4 := decide_eq_true c4; simp only [Option.some.injEq, Prod.mk.injEq] at H; obtain ⟨rfl, rfl⟩ := H; go_enter Tryz.func40, Tryz.ntmps40; go_wp2_with (first | ((with_reducible refine Qd (f := 79) rfl ?_); refine Gl 8 Tryz.func79 #[.string a0, .int .i64 6] ?_; (with_reducible refine (spec_l1Read.calls k a0 6 t29 true _ A2.out).mono ?_); rintro e w5 ⟨rfl, hb⟩; refine ⟨_, rfl, ?_⟩; replace HB := Sb (Bb0 HB.out) hb; clear hb)); go_ret2; exact ⟨Ze, Bb0 HB.out⟩
  ·rw [if_neg c4] at H; replace c4 := decide_eq_false c4; simp only [Option.some.injEq, Prod.mk.injEq] at H; obtain ⟨rfl, rfl⟩ := H; go_enter Tryz.func40, Tryz.ntmps40; go_wp2_with (first | ((with_reducible refine Qd (f := 79) rfl ?_); refine Gl 8 Tryz.func79 #[.string a0, .int .i64 6] ?_; (with_reducible refine (spec_l1Read.calls k a0 6 t29 true _ A2.out).mono ?_); rintro e w6 ⟨rfl, hb⟩; refine ⟨_, rfl, ?_⟩; replace HB := Sb (Bb0 HB.out) hb; clear hb)); go_ret2; exact ⟨Ze, Bb0 HB.out⟩
 ·replace c3 := Bool.eq_false_iff.mpr c3
  subst c3; rw [if_neg (show ¬ (false = true) by decide)] at H; simp only [Option.some.injEq, Prod.mk.injEq] at H; obtain ⟨rfl, rfl⟩ := H; go_enter Tryz.func40, Tryz.ntmps40; go_wp2_with (first | ((with_reducible refine Qd (f := 79) rfl ?_); refine Gl 8 Tryz.func79 #[.string a0, .int .i64 6] ?_; (with_reducible refine (spec_l1Read.calls k a0 6 t29 false _ A2.out).mono ?_); rintro e w7 ⟨rfl, hb⟩; refine ⟨_, rfl, ?_⟩; replace HB := Sb (Bb0 HB.out) hb; clear hb)); go_ret2; exact ⟨Ze, Bb0 HB.out⟩
mutual
def spec_l5Words.l0 : Nat → ByteArray → List ByteArray → ByteArray → Int → Option (List ByteArray)
 | 0, _, _, _, _ => none
 | k + 1, x0, x3, x4, x5 => if x5 ≤ (x0.size : Int) then (if x5 < (x0.size : Int) then (if 0 ≤ x5 then (if (bt x0 x5) ≥ 97 then (spec_l5Words.j1 k x0 x3 x4 x5 (decide ((bt x0 x5) ≤ 122))) else (spec_l5Words.j1 k x0 x3 x4 x5 false)) else (none)) else (spec_l5Words.j1 k x0 x3 x4 x5 false)) else (some x3)
def spec_l5Words.j1 : Nat → ByteArray → List ByteArray → ByteArray → Int → Bool → Option (List ByteArray)
 | 0, _, _, _, _, _ => none
 | k + 1, x0, x3, x4, x5, x28 => if x28 = true then (if 0 ≤ x5 then (if x5 ≤ (Qb (x5 + 1)) then (if (Qb (x5 + 1)) ≤ (x0.size : Int) then (if x4.size + (x0.extract (x5 : Int).toNat ((Qb (x5 + 1)) : Int).toNat).size ≤ 9223372036854775807 then (spec_l5Words.l0 k x0 x3 (x4 ++ (x0.extract (x5 : Int).toNat ((Qb (x5 + 1)) : Int).toNat)) (Qb (x5 + 1))) else (none)) else (none)) else (none)) else (none)) else (if x4.toList = ([] : List UInt8) then (spec_l5Words.l0 k x0 x3 (⟨#[]⟩ : ByteArray) (Qb (x5 + 1))) else (if x3.length < 8796093022208 then (spec_l5Words.l0 k x0 (x3 ++ [x4]) (⟨#[]⟩ : ByteArray) (Qb (x5 + 1))) else (none)))
end
def spec_l5Words.f (k : Nat) (a0 : ByteArray) : Option (List ByteArray) := spec_l5Words.l0 k a0 (([] : List ByteArray)) (⟨#[]⟩ : ByteArray) 0
theorem spec_l5Words.mono_l : ∀ k, (∀ y0 y1 y2 y3, LeO (spec_l5Words.l0 k y0 y1 y2 y3) (spec_l5Words.l0 (k + 1) y0 y1 y2 y3)) ∧ (∀ y0 y1 y2 y3 y4, LeO (spec_l5Words.j1 k y0 y1 y2 y3 y4) (spec_l5Words.j1 (k + 1) y0 y1 y2 y3 y4))
 | 0 => ⟨fun _ _ _ _ r h => by simp [spec_l5Words.l0] at h, fun _ _ _ _ _ r h => by simp [spec_l5Words.j1] at h⟩
 | k + 1 => by
  obtain ⟨ih0, ih1⟩ := spec_l5Words.mono_l k; refine ⟨?_, ?_⟩
  ·intro y0 y1 y2 y3; unfold spec_l5Words.l0; exact Lm2 ih0 ih1
  ·intro y0 y1 y2 y3 y4; unfold spec_l5Words.j1; exact Lm2 ih0 ih1
theorem spec_l5Words.mono : ∀ a0 k, LeO (spec_l5Words.f k a0) (spec_l5Words.f (k + 1) a0) := by
 intro a0 k
 obtain ⟨ih0, ih1⟩ := spec_l5Words.mono_l k
 unfold spec_l5Words.f
 exact Lm2 ih0 ih1
theorem spec_l5Words.calls (k : Nat) (a0 : ByteArray) (r : List ByteArray) (w : World) (h : spec_l5Words.f k a0 = some r) :
  Calls Tryz.prog 107 #[.string a0] w fun e w' => ∃ v0_ : Value, e = .returned (v0_) ∧ Kd.R Kd.string 9 w' w.heap.size (fun _ => True) v0_ r ∧ Qv w.heap.size w w' := by
 have HB := Qa (Below.refl w.heap.size w)
 have H : (spec_l5Words.l0 k a0 (([] : List ByteArray)) (⟨#[]⟩ : ByteArray) 0) = some r := h
 clear h
 obtain ⟨y31, hy31⟩ : ∃ y_ : List ByteArray, y_ = (([] : List ByteArray)) := ⟨_, rfl⟩
 replace H : (spec_l5Words.l0 k a0 y31 (⟨#[]⟩ : ByteArray) 0) = some r := Zh hy31 H
 have Ny31 := Qa hy31
 clear hy31
 have H' := Qa H
 clear H
 go_enter Tryz.func107, Tryz.ntmps107
 go_wp2_with (first | ((with_reducible refine gate_dst (N := 6) rfl ?_); refine Kd.R_lit Kd.string _ 9 ?hg (N := 6) ?hd (xs := ([] : List ByteArray)) (inner := []) (ok := fun _ => True) (okp := fun _ => True) ?hr ?hp (fun _ hk => hk) trivial (Below.refl _ _) (Nat.le_refl _) (by simp) ?_; (case hd => rfl); (case hg => rfl); (case hr => first | (go_simp; done) | (go_simp; rfl)); (case hp => exact (Reps.none _ _)); intro v39 w2 ho3 hb hg_ hnew_; clear hg_ hnew_; (first | rw [← Ny31.out] at ho3 | (simp only [Int.reduceToNat] at ho3; rw [← Ny31.out] at ho3)); have HO37 := Lw ho3 (Bb0 HB.out); replace HB := Sb (Bb0 HB.out) hb; clear hb ho3))
 go_loopg [3, 4, 5] k (fun kq v3 v4 v5 w' => ∃ (x3_1 : List ByteArray) (x4_1 : ByteArray) (x5_1 : Int), v4 = .string x4_1 ∧ v5 = .int .i64 x5_1 ∧ Qe (spec_l5Words.l0 kq a0 x3_1 x4_1 x5_1 = some r) ∧ Qe (kq ≤ k) ∧ Qe (Kd.R Kd.string 9 w' w.heap.size (fun _ => True) v3 x3_1) ∧ Qe (Qv w.heap.size w w'))
 case atStart => exact ⟨(y31), ((⟨#[]⟩ : ByteArray)), (0), Zf, Zf, H', ⟨Nat.le_refl _⟩, ⟨Br HO37.out⟩, ⟨Bb0 HB.out⟩⟩
 case round =>
  clear H'; (try clear c1)
  (try clear p2)
  obtain ⟨x3_1, x4_1, x5_1, rfl, rfl, HA, HK1, HO_3, HB⟩ := hrel; cases gk with
  | zero => exact absurd HA.out (by simp [spec_l5Words.l0])
  | succ k1 =>
   have H := HA.out; clear HA; simp only [spec_l5Words.l0] at H; by_cases c4 : x5_1 ≤ (a0.size : Int)
   ·rw [if_pos c4] at H; replace c4 := decide_eq_true c4; have HC5 := Qa H; clear H; go_upto_region 6 with (fail)
    go_cut [28] (fun v28 wc => ∃ (kq : Nat) (x28_4 : Bool), v28 = .bool x28_4 ∧ Qe (spec_l5Words.j1 kq a0 x3_1 x4_1 x5_1 x28_4 = some r) ∧ Qe (kq ≤ k1) ∧ Qe (Kd.R Kd.string 9 wc w.heap.size (fun _ => True) u3 x3_1) ∧ Qe (Qv w.heap.size w wc))
    case first =>
     have H := HC5.out; clear HC5; by_cases c6 : x5_1 < (a0.size : Int)
     ·rw [if_pos c6] at H; replace c6 := decide_eq_true c6; (first | rw [c6] | (simp only [i64_w, i32_w]; rw [c6]) | skip)
      by_cases c7 : 0 ≤ x5_1
      ·rw [if_pos c7] at H; replace c7 := decide_eq_true c7; by_cases c9 : (bt a0 x5_1) ≥ 97
       ·rw [if_pos c9] at H; replace c9 := decide_eq_true c9; have H' := Qa H; clear H; have p8 : 0 ≤ (x5_1 : Int) := Da; have q8 : x5_1 < (a0.size : Int) := Da; have hx8 := bt_at a0 x5_1; replace p8 := eq_true p8; replace q8 := eq_true q8; have p10 : 0 ≤ (x5_1 : Int) := Da; have q10 : x5_1 < (a0.size : Int) := Da; have hx10 := bt_at a0 x5_1; replace p10 := eq_true p10; replace q10 := eq_true q10; go_wp2; go_meet
        case rel => exact ⟨_, (decide ((bt a0 x5_1) ≤ 122)), Zf, H', ⟨by have := HK1.out; first | omega | exact Nat.le_refl _⟩, ⟨Br HO_3.out⟩, ⟨Bb0 HB.out⟩⟩
       ·rw [if_neg c9] at H; replace c9 := decide_eq_false c9; have H' := Qa H; clear H; have p8 : 0 ≤ (x5_1 : Int) := Da; have q8 : x5_1 < (a0.size : Int) := Da; have hx8 := bt_at a0 x5_1; replace p8 := eq_true p8; replace q8 := eq_true q8; go_wp2; go_meet
        case rel => exact ⟨_, (false), Zf, H', ⟨by have := HK1.out; first | omega | exact Nat.le_refl _⟩, ⟨Br HO_3.out⟩, ⟨Bb0 HB.out⟩⟩
      ·rw [if_neg c7] at H; exact absurd H (by simp)
     ·rw [if_neg c6] at H; replace c6 := decide_eq_false c6; (first | rw [c6] | (simp only [i64_w, i32_w]; rw [c6]) | skip)
      have H' := Qa H; clear H; go_wp2; go_meet
      case rel => exact ⟨_, (false), Zf, H', ⟨by have := HK1.out; first | omega | exact Nat.le_refl _⟩, ⟨Br HO_3.out⟩, ⟨Bb0 HB.out⟩⟩
    case rest =>
     clear HC5; (try clear c1)
     (try clear p1)
     (try clear q1)
     (try clear hx1)
     (try clear p2)
     (try clear c4)
     (try clear c4)
     (try clear c6)
     (try clear c6)
     (try clear c7)
     (try clear c7)
     (try clear p8)
     (try clear q8)
     (try clear hx8)
     (try clear c9)
     (try clear c9)
     (try clear c10)
     (try clear p10)
     (try clear q10)
     (try clear hx10)
     (try clear p10)
     (try clear p2)
     (try clear p8)
     (try clear q10)
     (try clear q8)
     obtain ⟨kq, x28_4, rfl, HA, HJ4, HO_3, HB⟩ := hcut; cases kq with
     | zero => exact absurd HA.out (by simp [spec_l5Words.j1])
     | succ kj4 =>
      have H := HA.out; clear HA; simp only [spec_l5Words.j1] at H; by_cases c11 : x28_4 = true
      ·subst c11; rw [if_pos rfl] at H; by_cases c12 : 0 ≤ x5_1
       ·rw [if_pos c12] at H; have c12b0 := eq_true c12; have c12b1 := decide_eq_true c12; clear c12; by_cases c13 : x5_1 ≤ (Qb (x5_1 + 1))
        ·rw [if_pos c13] at H; have c13b0 := eq_true c13; have c13b1 := decide_eq_true c13; by_cases c14 : (Qb (x5_1 + 1)) ≤ (a0.size : Int)
         ·rw [if_pos c14] at H; have c14b0 := eq_true c14; have c14b1 := decide_eq_true c14; by_cases c15 : x4_1.size + (a0.extract (x5_1 : Int).toNat ((Qb (x5_1 + 1)) : Int).toNat).size ≤ 9223372036854775807
          ·rw [if_pos c15] at H; have c15b0 := eq_true c15; have c15b1 := decide_eq_true c15; try have c15b2 : (9223372036854775807 < x4_1.size + (a0.extract (x5_1 : Int).toNat ((Qb (x5_1 + 1)) : Int).toNat).size) = False := eq_false (Nat.not_lt.2 c15)
           have H' := Qa H; clear H; go_wp2; go_roundg kj4
           case measure => have := HK1.out; have := HJ4.out; omega
           case rel => exact ⟨(x3_1), (x4_1 ++ (a0.extract (x5_1 : Int).toNat ((Qb (x5_1 + 1)) : Int).toNat)), (Qb (x5_1 + 1)), Zf, Zf, H', ⟨by have := HK1.out; have := HJ4.out; omega⟩, ⟨Br HO_3.out⟩, ⟨Bb0 HB.out⟩⟩
          ·rw [if_neg c15] at H; exact absurd H (by simp)
         ·rw [if_neg c14] at H; exact absurd H (by simp)
        ·rw [if_neg c13] at H; exact absurd H (by simp)
       ·rw [if_neg c12] at H; exact absurd H (by simp)
      ·replace c11 := Bool.eq_false_iff.mpr c11; subst c11; rw [if_neg (show ¬ (false = true) by decide)] at H; by_cases c16 : x4_1.toList = ([] : List UInt8)
       ·rw [if_pos c16] at H; have c16b0 := beq_iff_eq.mpr c16; have c16b1 := bne_eq_false_iff_eq.mpr c16; clear c16; have H' := Qa H; clear H; go_wp2; go_roundg kj4
        case measure => have := HK1.out; have := HJ4.out; omega
        case rel => exact ⟨(x3_1), ((⟨#[]⟩ : ByteArray)), (Qb (x5_1 + 1)), Zf, Zf, H', ⟨by have := HK1.out; have := HJ4.out; omega⟩, ⟨Br HO_3.out⟩, ⟨Bb0 HB.out⟩⟩
       ·rw [if_neg c16] at H; have c16b0 := beq_eq_false_iff_ne.mpr c16; have c16b1 := bne_iff_ne.mpr c16; by_cases c17 : x3_1.length < 8796093022208
        ·rw [if_pos c17] at H; have LMc17 := Qa c17; clear c17; obtain ⟨y33, hy33⟩ : ∃ y_ : List ByteArray, y_ = (x3_1 ++ [x4_1]) := ⟨_, rfl⟩; replace H : (spec_l5Words.l0 kj4 a0 y33 (⟨#[]⟩ : ByteArray) (Qb (x5_1 + 1))) = some r := Zh hy33 H; have Ny33 := Qa hy33; clear hy33; have H' := Qa H; clear H; go_wp2_with (first | ((with_reducible refine gate_builtin (b := .append) (xs := #[.tmp 38, .tmp 40]) rfl ?_); at_builtin; refine Kd.R_append Kd.string (w0 := w) w.heap.size rfl (.tmp 38) (.tmp 40) 22 9 (.string ⟨#[]⟩) 16 rfl Tryz.underlying22 info9 rfl (by decide) (by omega) u3 x3_1 x4_1 [.string x4_1] (fun _ => True) (fun _ => False) rfl rfl ?aP (fun _ hk => hk.elim) ?aF ?aO ?aB ?aS ?aL ?_; (case aP => exact rfl); (case aB => exact (Bb0 HB.out)); (case aF => exact (fun _ _ => trivial)); (case aO => exact (Br HO_3.out)); (case aS => exact (below_size (Bb0 HB.out))); (case aL => have := LMc17.out; omega); intro v40 w18 ho hb hg hat; rw [← Ny33.out] at ho; replace HB := Qa (hb); have HO38 := Qa (ho); clear HO_3; clear ho hb hg hat)); go_roundg kj4
         case measure => have := HK1.out; have := HJ4.out; omega
         case rel => exact ⟨(y33), ((⟨#[]⟩ : ByteArray)), (Qb (x5_1 + 1)), Zf, Zf, H', ⟨by have := HK1.out; have := HJ4.out; omega⟩, ⟨Br HO38.out⟩, ⟨Bb0 HB.out⟩⟩
        ·rw [if_neg c17] at H; exact absurd H (by simp)
   ·rw [if_neg c4] at H; replace c4 := decide_eq_false c4; obtain rfl := Option.some.inj H; go_wp2; go_ret; exact ⟨_, Ze, Br HO_3.out, Bb0 HB.out⟩
end Go.Proofs.YtndkkpjofddfjaaGreatDoor.PFnExactParseProgram
