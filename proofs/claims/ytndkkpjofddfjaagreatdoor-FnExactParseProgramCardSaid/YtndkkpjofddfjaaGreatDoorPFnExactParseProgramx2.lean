/- A part of the walk through the printed functions; no condition. -/
import Derived.Test.YtndkkpjofddfjaaGreatDoorXAuto
import Derived.Test.YtndkkpjofddfjaaGreatDoorPFnExactParseProgramx0
import Derived.Test.YtndkkpjofddfjaaGreatDoorPFnExactParseProgramx1
namespace Go.Proofs.YtndkkpjofddfjaaGreatDoor.PFnExactParseProgram
open Go.RowKit Go.Proofs.YtndkkpjofddfjaaGreatDoorW.PrintWords Go.Proofs.YtndkkpjofddfjaaGreatDoorW.PrintLast Go.Proofs.YtndkkpjofddfjaaGreatDoorW.PrintMore
attribute [local go_sem] max2_int min2_int max_two min_two max_three min_three max_four min_four
set_option maxHeartbeats 32000000
set_option maxRecDepth 100000
attribute [local irreducible] Go.World.setCell
set_option linter.unusedVariables false
set_option linter.unusedSimpArgs false
open Go.Proofs.YtndkkpjofddfjaaGreatDoorW.PrintWords.Aside0 renaming mk → Qa
open Go.Proofs.YtndkkpjofddfjaaGreatDoorW.PrintWords.Drawn0 renaming refl → Qn, step → Qo
def spec_IsName.l0 : Nat → ByteArray → Int → Option (Bool)
 | 0, _, _ => none
 | k + 1, x0, x3 => if x3 < (x0.size : Int) then (if 0 ≤ x3 then (if (bt x0 x3) < 97 then (some false) else (if (bt x0 x3) > 122 then (some false) else (spec_IsName.l0 k x0 (wrap64 (x3 + 1))))) else (none)) else ((spec_l1In.f (x0.size : Int) 1 2).bind fun t19 => (some t19))
def spec_IsName.f (k : Nat) (a0 : ByteArray) : Option (Bool) := spec_IsName.l0 k a0 0
theorem spec_IsName.mono_l : ∀ k, (∀ y0 y1, LeO (spec_IsName.l0 k y0 y1) (spec_IsName.l0 (k + 1) y0 y1))
 | 0 => fun _ _ r h => by simp [spec_IsName.l0] at h
 | k + 1 => by
  have ih0 := spec_IsName.mono_l k
  ·intro y0 y1; unfold spec_IsName.l0; exact Lm1 ih0
theorem spec_IsName.mono : ∀ a0 k, LeO (spec_IsName.f k a0) (spec_IsName.f (k + 1) a0) := by
 intro a0 k
 have ih0 := spec_IsName.mono_l k
 unfold spec_IsName.f
 exact Lm1 ih0
theorem spec_IsName.calls (k : Nat) (a0 : ByteArray) (r : Bool) (w : World) (h : spec_IsName.f k a0 = some r) :
  Calls Tryz.prog 69 #[.string a0] w fun e w' => e = .returned (.bool r) ∧ Drawn0 w w' := by
 have H : (spec_IsName.l0 k a0 0) = some r := h
 clear h
 have H' := Qa H
 clear H
 go_enter Tryz.func69, Tryz.ntmps69
 go_wp2
 go_loopg [3] k (fun kq v3 w' => ∃ (x3_1 : Int), v3 = .int .i64 x3_1 ∧ Aside0 (spec_IsName.l0 kq a0 x3_1 = some r) ∧ Aside0 (kq ≤ k) ∧ Drawn0 w w')
 case atStart => exact ⟨(0), Zf, H', ⟨Nat.le_refl _⟩, by repeat (first | exact Qn _ | apply Qo)⟩
 case round =>
  clear H'; obtain ⟨x3_1, rfl, HA, HK1, ⟨m1, rfl⟩⟩ := hrel; cases gk with
  | zero => exact absurd HA.out (by simp [spec_IsName.l0])
  | succ k1 =>
   have H := HA.out; clear HA; simp only [spec_IsName.l0] at H; by_cases c2 : x3_1 < (a0.size : Int)
   ·rw [if_pos c2] at H; replace c2 := decide_eq_true c2; by_cases c3 : 0 ≤ x3_1
    ·rw [if_pos c3] at H; replace c3 := decide_eq_true c3; by_cases c5 : (bt a0 x3_1) < 97
     ·rw [if_pos c5] at H; replace c5 := decide_eq_true c5; obtain rfl := Option.some.inj H; have p4 : 0 ≤ (x3_1 : Int) := Da; have q4 : x3_1 < (a0.size : Int) := Da; have hx4 := bt_at a0 x3_1; replace p4 := eq_true p4; replace q4 := eq_true q4; go_wp2; go_ret; exact ⟨by first | rfl | (simp; done) | (simp [*]; done), by repeat (first | exact Qn _ | apply Qo)⟩
     ·rw [if_neg c5] at H; replace c5 := decide_eq_false c5; by_cases c7 : (bt a0 x3_1) > 122
      ·rw [if_pos c7] at H; replace c7 := decide_eq_true c7; obtain rfl := Option.some.inj H; have p4 : 0 ≤ (x3_1 : Int) := Da; have q4 : x3_1 < (a0.size : Int) := Da; have hx4 := bt_at a0 x3_1; replace p4 := eq_true p4; replace q4 := eq_true q4; have p6 : 0 ≤ (x3_1 : Int) := Da; have q6 : x3_1 < (a0.size : Int) := Da; have hx6 := bt_at a0 x3_1; replace p6 := eq_true p6; replace q6 := eq_true q6; go_wp2; go_ret; exact ⟨by first | rfl | (simp; done) | (simp [*]; done), by repeat (first | exact Qn _ | apply Qo)⟩
      ·rw [if_neg c7] at H; replace c7 := decide_eq_false c7; have H' := Qa H; clear H; have p4 : 0 ≤ (x3_1 : Int) := Da; have q4 : x3_1 < (a0.size : Int) := Da; have hx4 := bt_at a0 x3_1; replace p4 := eq_true p4; replace q4 := eq_true q4; have p6 : 0 ≤ (x3_1 : Int) := Da; have q6 : x3_1 < (a0.size : Int) := Da; have hx6 := bt_at a0 x3_1; replace p6 := eq_true p6; replace q6 := eq_true q6; go_wp2; go_roundg k1
       case measure => have := HK1.out; omega
       case rel => exact ⟨(wrap64 (x3_1 + 1)), Zf, H', ⟨by have := HK1.out; omega⟩, by repeat (first | exact Qn _ | apply Qo)⟩
    ·rw [if_neg c3] at H; exact absurd H (by simp)
   ·rw [if_neg c2] at H; replace c2 := decide_eq_false c2; obtain ⟨t19, A8, H⟩ := Ob H; (try dsimp only at H)
    obtain rfl := Option.some.inj H; go_wp2_with (first | ((with_reducible refine gate_callee (f := 57) rfl ?_); refine Gl 22 Tryz.func57 #[.int .i64 (a0.size : Int), .int .i64 1, .int .i64 2] ?_; (with_reducible refine (spec_l1In.calls (a0.size : Int) 1 2 t19 _ A8.out).mono ?_); rintro e w' ⟨rfl, ⟨nd, rfl⟩⟩; refine ⟨_, rfl, ?_⟩)); go_ret; exact ⟨by first | rfl | (simp; done) | (simp [*]; done), by repeat (first | exact Qn _ | apply Qo)⟩
def spec_IndexOf.l0 : Nat → List ByteArray → ByteArray → Int → Option (Int)
 | 0, _, _, _ => none
 | k + 1, x0, x1, x5 => if x5 < (x0.length : Int) then (if 0 ≤ x5 then (if (rdOf ByteArray.empty x0 x5).toList = x1.toList then (some x5) else (spec_IndexOf.l0 k x0 x1 (wrap64 (x5 + 1)))) else (none)) else (some (-1))
def spec_IndexOf.f (k : Nat) (l0 : List ByteArray) (a1 : ByteArray) : Option (Int) := spec_IndexOf.l0 k l0 a1 0
theorem spec_IndexOf.mono_l : ∀ k, (∀ y0 y1 y2, LeO (spec_IndexOf.l0 k y0 y1 y2) (spec_IndexOf.l0 (k + 1) y0 y1 y2))
 | 0 => fun _ _ _ r h => by simp [spec_IndexOf.l0] at h
 | k + 1 => by
  have ih0 := spec_IndexOf.mono_l k
  ·intro y0 y1 y2; unfold spec_IndexOf.l0; exact Lm1 ih0
theorem spec_IndexOf.mono : ∀ a0 a1 k, LeO (spec_IndexOf.f k a0 a1) (spec_IndexOf.f (k + 1) a0 a1) := by
 intro a0 a1 k
 have ih0 := spec_IndexOf.mono_l k
 unfold spec_IndexOf.f
 exact Lm1 ih0
theorem spec_IndexOf.calls (k : Nat) (A0 : Option Addr) (c0 : Nat) (l0 : List ByteArray) (a1 : ByteArray) (r : Int) (w : World) (hr0 : Kd.C Kd.string w A0 l0.length l0) (hc0 : l0.length ≤ c0) (h : spec_IndexOf.f k l0 a1 = some r) :
  Calls Tryz.prog 91 #[.slice A0 l0.length c0, .string a1] w fun e w' => e = .returned (.int .i64 r) ∧ Drawn0 w w' := by
 have HR0 := Qa hr0
 have HC0 := Qa hc0
 clear hr0 hc0
 have H : (spec_IndexOf.l0 k l0 a1 0) = some r := h
 clear h
 have H' := Qa H
 clear H
 go_enter Tryz.func91, Tryz.ntmps91
 go_wp2
 go_loopg [5] k (fun kq v5 w' => ∃ (x5_1 : Int), v5 = .int .i64 x5_1 ∧ Aside0 (spec_IndexOf.l0 kq l0 a1 x5_1 = some r) ∧ Aside0 (kq ≤ k) ∧ Drawn0 w w')
 case atStart => exact ⟨(0), Zf, H', ⟨Nat.le_refl _⟩, by repeat (first | exact Qn _ | apply Qo)⟩
 case round =>
  clear H'; (try clear p2)
  obtain ⟨x5_1, rfl, HA, HK1, ⟨m1, rfl⟩⟩ := hrel; cases gk with
  | zero => exact absurd HA.out (by simp [spec_IndexOf.l0])
  | succ k1 =>
   have H := HA.out; clear HA; simp only [spec_IndexOf.l0] at H; by_cases c3 : x5_1 < (l0.length : Int)
   ·rw [if_pos c3] at H; replace c3 := decide_eq_true c3; by_cases c4 : 0 ≤ x5_1
    ·rw [if_pos c4] at H; replace c4 := decide_eq_true c4; by_cases c5 : (rdOf ByteArray.empty l0 x5_1).toList = a1.toList
     ·rw [if_pos c5] at H; have c5b0 := beq_iff_eq.mpr c5; have c5b1 := bne_eq_false_iff_eq.mpr c5; clear c5; obtain rfl := Option.some.inj H; have p17 : 0 ≤ (x5_1 : Int) := Da; have q17 : x5_1 < (l0.length : Int) := Da; obtain ⟨ad17, e17, hx17_0⟩ := Kd.at_string HR0.out x5_1 p17 q17; cases e17
      replace p17 := eq_true p17; replace q17 := eq_true q17; go_wp2; go_ret; exact ⟨by first | rfl | (simp; done) | (simp [*]; done), by repeat (first | exact Qn _ | apply Qo)⟩
     ·rw [if_neg c5] at H; have c5b0 := beq_eq_false_iff_ne.mpr c5; have c5b1 := bne_iff_ne.mpr c5; have H' := Qa H; clear H; have p17 : 0 ≤ (x5_1 : Int) := Da; have q17 : x5_1 < (l0.length : Int) := Da; obtain ⟨ad17, e17, hx17_0⟩ := Kd.at_string HR0.out x5_1 p17 q17; cases e17
      replace p17 := eq_true p17; replace q17 := eq_true q17; go_wp2; go_roundg k1
      case measure => have := HK1.out; omega
      case rel => exact ⟨(wrap64 (x5_1 + 1)), Zf, H', ⟨by have := HK1.out; omega⟩, by repeat (first | exact Qn _ | apply Qo)⟩
    ·rw [if_neg c4] at H; exact absurd H (by simp)
   ·rw [if_neg c3] at H; replace c3 := decide_eq_false c3; obtain rfl := Option.some.inj H; go_wp2; go_ret; exact ⟨by first | rfl | (simp; done) | (simp [*]; done), by repeat (first | exact Qn _ | apply Qo)⟩
def spec_AreVars.l0 : Nat → List ByteArray → Int → Option (Bool)
 | 0, _, _ => none
 | k + 1, x0, x3 => if x3 < (x0.length : Int) then (if 0 ≤ x3 then ((spec_IsName.f k (rdOf ByteArray.empty x0 x3)).bind fun t20 => (if t20 = true then ((spec_IndexOf.f k x0 (rdOf ByteArray.empty x0 x3)).bind fun t18 => (if t18 = x3 then (spec_AreVars.l0 k x0 (wrap64 (x3 + 1))) else (some false))) else (some false))) else (none)) else ((spec_l1In.f (x0.length : Int) 1 4).bind fun t21 => (some t21))
def spec_AreVars.f (k : Nat) (l0 : List ByteArray) : Option (Bool) := spec_AreVars.l0 k l0 0
theorem spec_AreVars.mono_l : ∀ k, (∀ y0 y1, LeO (spec_AreVars.l0 k y0 y1) (spec_AreVars.l0 (k + 1) y0 y1))
 | 0 => fun _ _ r h => by simp [spec_AreVars.l0] at h
 | k + 1 => by
  have ih0 := spec_AreVars.mono_l k
  ·intro y0 y1; unfold spec_AreVars.l0; exact Lm3 ih0 spec_IndexOf.mono spec_IsName.mono
theorem spec_AreVars.mono : ∀ a0 k, LeO (spec_AreVars.f k a0) (spec_AreVars.f (k + 1) a0) := by
 intro a0 k
 have ih0 := spec_AreVars.mono_l k
 unfold spec_AreVars.f
 exact Lm3 ih0 spec_IndexOf.mono spec_IsName.mono
theorem spec_AreVars.calls (k : Nat) (A0 : Option Addr) (c0 : Nat) (l0 : List ByteArray) (r : Bool) (w : World) (hr0 : Kd.C Kd.string w A0 l0.length l0) (hc0 : l0.length ≤ c0) (h : spec_AreVars.f k l0 = some r) :
  Calls Tryz.prog 59 #[.slice A0 l0.length c0] w fun e w' => e = .returned (.bool r) ∧ Drawn0 w w' := by
 have HR0 := Qa hr0
 have HC0 := Qa hc0
 clear hr0 hc0
 have H : (spec_AreVars.l0 k l0 0) = some r := h
 clear h
 have H' := Qa H
 clear H
 go_enter Tryz.func59, Tryz.ntmps59
 go_wp2
 go_loopg [3] k (fun kq v3 w' => ∃ (x3_1 : Int), v3 = .int .i64 x3_1 ∧ Aside0 (spec_AreVars.l0 kq l0 x3_1 = some r) ∧ Aside0 (kq ≤ k) ∧ Drawn0 w w')
 case atStart => exact ⟨(0), Zf, H', ⟨Nat.le_refl _⟩, by repeat (first | exact Qn _ | apply Qo)⟩
 case round =>
  clear H'; obtain ⟨x3_1, rfl, HA, HK1, ⟨m1, rfl⟩⟩ := hrel; cases gk with
  | zero => exact absurd HA.out (by simp [spec_AreVars.l0])
  | succ k1 =>
   have H := HA.out; clear HA; simp only [spec_AreVars.l0] at H; by_cases c2 : x3_1 < (l0.length : Int)
   ·rw [if_pos c2] at H; replace c2 := decide_eq_true c2; by_cases c3 : 0 ≤ x3_1
    ·rw [if_pos c3] at H; replace c3 := decide_eq_true c3; obtain ⟨t20, A4, H⟩ := Ob H; (try dsimp only at H)
     by_cases c5 : t20 = true
     ·subst c5; rw [if_pos rfl] at H; obtain ⟨t18, A6, H⟩ := Ob H; (try dsimp only at H)
      by_cases c7 : t18 = x3_1
      ·rw [if_pos c7] at H; have c7b0 := beq_iff_eq.mpr c7; have c7b1 := bne_eq_false_iff_eq.mpr c7; clear c7; have H' := Qa H; clear H; have p15 : 0 ≤ (x3_1 : Int) := Da; have q15 : x3_1 < (l0.length : Int) := Da; obtain ⟨ad15, e15, hx15_0⟩ := Kd.at_string HR0.out x3_1 p15 q15; cases e15
       replace p15 := eq_true p15; replace q15 := eq_true q15; go_wp2_with (first | ((with_reducible refine gate_callee (f := 69) rfl ?_); refine Gl 14 Tryz.func69 #[.string (rdOf ByteArray.empty l0 x3_1)] ?_; (with_reducible refine (spec_IsName.calls k1 (rdOf ByteArray.empty l0 x3_1) true _ A4.out).mono ?_); rintro e w' ⟨rfl, ⟨nd, rfl⟩⟩; refine ⟨_, rfl, ?_⟩; have p16 : 0 ≤ (x3_1 : Int) := Da; have q16 : x3_1 < (l0.length : Int) := Da; obtain ⟨ad16, e16, hx16_0⟩ := Kd.at_string HR0.out x3_1 p16 q16; obtain rfl : ad15 = ad16 := (by injection e16); replace p16 := eq_true p16; replace q16 := eq_true q16) | (go_at_call 91; (with_reducible refine (spec_IndexOf.calls k1 _ _ l0 (rdOf ByteArray.empty l0 x3_1) t18 _ ?side1 ?side2 A6.out).mono ?_); (case side1 => exact Bc HR0.out); (case side2 => exact HC0.out); rintro e w' ⟨rfl, ⟨nd, rfl⟩⟩)); go_roundg k1
       case measure => have := HK1.out; omega
       case rel => exact ⟨(wrap64 (x3_1 + 1)), Zf, H', ⟨by have := HK1.out; omega⟩, by repeat (first | exact Qn _ | apply Qo)⟩
      ·rw [if_neg c7] at H; have c7b0 := beq_eq_false_iff_ne.mpr c7; have c7b1 := bne_iff_ne.mpr c7; obtain rfl := Option.some.inj H; have p15 : 0 ≤ (x3_1 : Int) := Da; have q15 : x3_1 < (l0.length : Int) := Da; obtain ⟨ad15, e15, hx15_0⟩ := Kd.at_string HR0.out x3_1 p15 q15; cases e15
       replace p15 := eq_true p15; replace q15 := eq_true q15; go_wp2_with (first | ((with_reducible refine gate_callee (f := 69) rfl ?_); refine Gl 14 Tryz.func69 #[.string (rdOf ByteArray.empty l0 x3_1)] ?_; (with_reducible refine (spec_IsName.calls k1 (rdOf ByteArray.empty l0 x3_1) true _ A4.out).mono ?_); rintro e w' ⟨rfl, ⟨nd, rfl⟩⟩; refine ⟨_, rfl, ?_⟩; have p16 : 0 ≤ (x3_1 : Int) := Da; have q16 : x3_1 < (l0.length : Int) := Da; obtain ⟨ad16, e16, hx16_0⟩ := Kd.at_string HR0.out x3_1 p16 q16; obtain rfl : ad15 = ad16 := (by injection e16); replace p16 := eq_true p16; replace q16 := eq_true q16) | (go_at_call 91; (with_reducible refine (spec_IndexOf.calls k1 _ _ l0 (rdOf ByteArray.empty l0 x3_1) t18 _ ?side1 ?side2 A6.out).mono ?_); (case side1 => exact Bc HR0.out); (case side2 => exact HC0.out); rintro e w' ⟨rfl, ⟨nd, rfl⟩⟩)); go_ret; exact ⟨by first | rfl | (simp; done) | (simp [*]; done), by repeat (first | exact Qn _ | apply Qo)⟩
     ·replace c5 := Bool.eq_false_iff.mpr c5; subst c5; rw [if_neg (show ¬ (false = true) by decide)] at H; obtain rfl := Option.some.inj H; have p15 : 0 ≤ (x3_1 : Int) := Da; have q15 : x3_1 < (l0.length : Int) := Da; obtain ⟨ad15, e15, hx15_0⟩ := Kd.at_string HR0.out x3_1 p15 q15; cases e15
      replace p15 := eq_true p15; replace q15 := eq_true q15; go_wp2_with (first | ((with_reducible refine gate_callee (f := 69) rfl ?_); refine Gl 14 Tryz.func69 #[.string (rdOf ByteArray.empty l0 x3_1)] ?_; (with_reducible refine (spec_IsName.calls k1 (rdOf ByteArray.empty l0 x3_1) false _ A4.out).mono ?_); rintro e w' ⟨rfl, ⟨nd, rfl⟩⟩; refine ⟨_, rfl, ?_⟩)); go_ret; exact ⟨by first | rfl | (simp; done) | (simp [*]; done), by repeat (first | exact Qn _ | apply Qo)⟩
    ·rw [if_neg c3] at H; exact absurd H (by simp)
   ·rw [if_neg c2] at H; replace c2 := decide_eq_false c2; obtain ⟨t21, A8, H⟩ := Ob H; (try dsimp only at H)
    obtain rfl := Option.some.inj H; go_wp2_with (first | ((with_reducible refine gate_callee (f := 57) rfl ?_); refine Gl 28 Tryz.func57 #[.int .i64 (l0.length : Int), .int .i64 1, .int .i64 4] ?_; (with_reducible refine (spec_l1In.calls (l0.length : Int) 1 4 t21 _ A8.out).mono ?_); rintro e w' ⟨rfl, ⟨nd, rfl⟩⟩; refine ⟨_, rfl, ?_⟩)); go_ret; exact ⟨by first | rfl | (simp; done) | (simp [*]; done), by repeat (first | exact Qn _ | apply Qo)⟩
def spec_NamesOf.j0 : Nat → Int → Bool → Option (Int)
 | 0, _, _ => none
 | k + 1, x3, x6 => if x6 = true then (some 1) else (if x3 = 4 then (some 2) else (if x3 = 5 then (some 2) else (if x3 = 7 then (some 2) else (if x3 = 11 then (some 2) else (if x3 = 12 then (some 2) else (some (-1)))))))
def spec_NamesOf.f (k : Nat) (a0 : Int) : Option (Int) := if a0 = 1 then (some 0) else (if a0 = 2 then (spec_NamesOf.j0 k a0 (a0 == 2)) else (if a0 = 3 then (spec_NamesOf.j0 k a0 (a0 == 3)) else (if a0 = 6 then (spec_NamesOf.j0 k a0 (a0 == 6)) else (if a0 = 8 then (spec_NamesOf.j0 k a0 (a0 == 8)) else (if a0 = 9 then (spec_NamesOf.j0 k a0 (a0 == 9)) else (spec_NamesOf.j0 k a0 (a0 == 10)))))))
theorem spec_NamesOf.mono_l : ∀ k, (∀ y0 y1, LeO (spec_NamesOf.j0 k y0 y1) (spec_NamesOf.j0 (k + 1) y0 y1))
 | 0 => fun _ _ r h => by simp [spec_NamesOf.j0] at h
 | k + 1 => by
  have ih0 := spec_NamesOf.mono_l k
  ·intro y0 y1; unfold spec_NamesOf.j0; exact Lm1 ih0
theorem spec_NamesOf.mono : ∀ a0 k, LeO (spec_NamesOf.f k a0) (spec_NamesOf.f (k + 1) a0) := by
 intro a0 k
 have ih0 := spec_NamesOf.mono_l k
 unfold spec_NamesOf.f
 exact Lm1 ih0
theorem spec_NamesOf.calls (k : Nat) (a0 : Int) (r : Int) (w : World) (h : spec_NamesOf.f k a0 = some r) :
  Calls Tryz.prog 68 #[.int .i64 a0] w fun e w' => e = .returned (.int .i64 r) ∧ Drawn0 w w' := by
 have H : (if a0 = 1 then (some 0) else (if a0 = 2 then (spec_NamesOf.j0 k a0 (a0 == 2)) else (if a0 = 3 then (spec_NamesOf.j0 k a0 (a0 == 3)) else (if a0 = 6 then (spec_NamesOf.j0 k a0 (a0 == 6)) else (if a0 = 8 then (spec_NamesOf.j0 k a0 (a0 == 8)) else (if a0 = 9 then (spec_NamesOf.j0 k a0 (a0 == 9)) else (spec_NamesOf.j0 k a0 (a0 == 10)))))))) = some r := h
 clear h
 by_cases c2 : a0 = 1
 ·rw [if_pos c2] at H
  have c2b0 := beq_iff_eq.mpr c2; have c2b1 := bne_eq_false_iff_eq.mpr c2; clear c2; obtain rfl := Option.some.inj H; go_enter Tryz.func68, Tryz.ntmps68; go_wp2; go_ret; exact ⟨by first | rfl | (simp; done) | (simp [*]; done), by repeat (first | exact Qn _ | apply Qo)⟩
 ·rw [if_neg c2] at H
  have c2b0 := beq_eq_false_iff_ne.mpr c2; have c2b1 := bne_iff_ne.mpr c2; have HC3 := Qa H; clear H; go_enter Tryz.func68, Tryz.ntmps68; go_upto_if 6 with (fail)
  go_cut [6] (fun v6 wc => ∃ (kq : Nat) (x6_2 : Bool), v6 = .bool x6_2 ∧ Aside0 (spec_NamesOf.j0 kq a0 x6_2 = some r) ∧ Aside0 (kq ≤ k) ∧ Drawn0 w wc)
  case first =>
   have H := HC3.out; clear HC3; by_cases c4 : a0 = 2
   ·rw [if_pos c4] at H; have c4b0 := beq_iff_eq.mpr c4; have c4b1 := bne_eq_false_iff_eq.mpr c4; clear c4; (first | rw [c4b0] | (simp only [i64_w, i32_w]; rw [c4b0]) | skip)
    have H' := Qa H; clear H; go_wp2; go_meet
    case rel => exact ⟨_, ((a0 == 2)), Zf, H', ⟨by first | omega | exact Nat.le_refl _⟩, by repeat (first | exact Qn _ | apply Qo)⟩
   ·rw [if_neg c4] at H; have c4b0 := beq_eq_false_iff_ne.mpr c4; have c4b1 := bne_iff_ne.mpr c4; (first | rw [c4b0] | (simp only [i64_w, i32_w]; rw [c4b0]) | skip)
    by_cases c5 : a0 = 3
    ·rw [if_pos c5] at H; have c5b0 := beq_iff_eq.mpr c5; have c5b1 := bne_eq_false_iff_eq.mpr c5; clear c5; have H' := Qa H; clear H; go_wp2; go_meet
     case rel => exact ⟨_, ((a0 == 3)), Zf, H', ⟨by first | omega | exact Nat.le_refl _⟩, by repeat (first | exact Qn _ | apply Qo)⟩
    ·rw [if_neg c5] at H; have c5b0 := beq_eq_false_iff_ne.mpr c5; have c5b1 := bne_iff_ne.mpr c5; by_cases c6 : a0 = 6
     ·rw [if_pos c6] at H; have c6b0 := beq_iff_eq.mpr c6; have c6b1 := bne_eq_false_iff_eq.mpr c6; clear c6; have H' := Qa H; clear H; go_wp2; go_meet
      case rel => exact ⟨_, ((a0 == 6)), Zf, H', ⟨by first | omega | exact Nat.le_refl _⟩, by repeat (first | exact Qn _ | apply Qo)⟩
     ·rw [if_neg c6] at H; have c6b0 := beq_eq_false_iff_ne.mpr c6; have c6b1 := bne_iff_ne.mpr c6; by_cases c7 : a0 = 8
      ·rw [if_pos c7] at H; have c7b0 := beq_iff_eq.mpr c7; have c7b1 := bne_eq_false_iff_eq.mpr c7; clear c7; have H' := Qa H; clear H; go_wp2; go_meet
       case rel => exact ⟨_, ((a0 == 8)), Zf, H', ⟨by first | omega | exact Nat.le_refl _⟩, by repeat (first | exact Qn _ | apply Qo)⟩
      ·rw [if_neg c7] at H; have c7b0 := beq_eq_false_iff_ne.mpr c7; have c7b1 := bne_iff_ne.mpr c7; by_cases c8 : a0 = 9
       ·rw [if_pos c8] at H; have c8b0 := beq_iff_eq.mpr c8; have c8b1 := bne_eq_false_iff_eq.mpr c8; clear c8; have H' := Qa H; clear H; go_wp2; go_meet
        case rel => exact ⟨_, ((a0 == 9)), Zf, H', ⟨by first | omega | exact Nat.le_refl _⟩, by repeat (first | exact Qn _ | apply Qo)⟩
       ·rw [if_neg c8] at H; have c8b0 := beq_eq_false_iff_ne.mpr c8; have c8b1 := bne_iff_ne.mpr c8; have H' := Qa H; clear H; go_wp2; go_meet
        case rel => exact ⟨_, ((a0 == 10)), Zf, H', ⟨by first | omega | exact Nat.le_refl _⟩, by repeat (first | exact Qn _ | apply Qo)⟩
  case rest =>
   clear HC3; (try clear c2)
   (try clear c2b0)
   (try clear c2b1)
   (try clear p2)
   (try clear c4)
   (try clear c4b0)
   (try clear c4b1)
   (try clear c5)
   (try clear c5b0)
   (try clear c5b1)
   (try clear c6)
   (try clear c6b0)
   (try clear c6b1)
   (try clear c7)
   (try clear c7b0)
   (try clear c7b1)
   (try clear c8)
   (try clear c8b0)
   (try clear c8b1)
   obtain ⟨kq, x6_2, rfl, HA, HJ2, ⟨mc2, rfl⟩⟩ := hcut; cases kq with
   | zero => exact absurd HA.out (by simp [spec_NamesOf.j0])
   | succ kj2 =>
    have H := HA.out; clear HA; simp only [spec_NamesOf.j0] at H; by_cases c9 : x6_2 = true
    ·subst c9; rw [if_pos rfl] at H; obtain rfl := Option.some.inj H; go_wp2; go_ret; exact ⟨by first | rfl | (simp; done) | (simp [*]; done), by repeat (first | exact Qn _ | apply Qo)⟩
    ·replace c9 := Bool.eq_false_iff.mpr c9; subst c9; rw [if_neg (show ¬ (false = true) by decide)] at H; by_cases c10 : a0 = 4
     ·rw [if_pos c10] at H; have c10b0 := beq_iff_eq.mpr c10; have c10b1 := bne_eq_false_iff_eq.mpr c10; clear c10; obtain rfl := Option.some.inj H; go_wp2; go_ret; exact ⟨by first | rfl | (simp; done) | (simp [*]; done), by repeat (first | exact Qn _ | apply Qo)⟩
     ·rw [if_neg c10] at H; have c10b0 := beq_eq_false_iff_ne.mpr c10; have c10b1 := bne_iff_ne.mpr c10; by_cases c11 : a0 = 5
      ·rw [if_pos c11] at H; have c11b0 := beq_iff_eq.mpr c11; have c11b1 := bne_eq_false_iff_eq.mpr c11; clear c11; obtain rfl := Option.some.inj H; go_wp2; go_ret; exact ⟨by first | rfl | (simp; done) | (simp [*]; done), by repeat (first | exact Qn _ | apply Qo)⟩
      ·rw [if_neg c11] at H; have c11b0 := beq_eq_false_iff_ne.mpr c11; have c11b1 := bne_iff_ne.mpr c11; by_cases c12 : a0 = 7
       ·rw [if_pos c12] at H; have c12b0 := beq_iff_eq.mpr c12; have c12b1 := bne_eq_false_iff_eq.mpr c12; clear c12; obtain rfl := Option.some.inj H; go_wp2; go_ret; exact ⟨by first | rfl | (simp; done) | (simp [*]; done), by repeat (first | exact Qn _ | apply Qo)⟩
       ·rw [if_neg c12] at H; have c12b0 := beq_eq_false_iff_ne.mpr c12; have c12b1 := bne_iff_ne.mpr c12; by_cases c13 : a0 = 11
        ·rw [if_pos c13] at H; have c13b0 := beq_iff_eq.mpr c13; have c13b1 := bne_eq_false_iff_eq.mpr c13; clear c13; obtain rfl := Option.some.inj H; go_wp2; go_ret; exact ⟨by first | rfl | (simp; done) | (simp [*]; done), by repeat (first | exact Qn _ | apply Qo)⟩
        ·rw [if_neg c13] at H; have c13b0 := beq_eq_false_iff_ne.mpr c13; have c13b1 := bne_iff_ne.mpr c13; by_cases c14 : a0 = 12
         ·rw [if_pos c14] at H; have c14b0 := beq_iff_eq.mpr c14; have c14b1 := bne_eq_false_iff_eq.mpr c14; clear c14; obtain rfl := Option.some.inj H; go_wp2; go_ret; exact ⟨by first | rfl | (simp; done) | (simp [*]; done), by repeat (first | exact Qn _ | apply Qo)⟩
         ·rw [if_neg c14] at H; have c14b0 := beq_eq_false_iff_ne.mpr c14; have c14b1 := bne_iff_ne.mpr c14; obtain rfl := Option.some.inj H; go_wp2; go_ret; exact ⟨by first | rfl | (simp; done) | (simp [*]; done), by repeat (first | exact Qn _ | apply Qo)⟩
end Go.Proofs.YtndkkpjofddfjaaGreatDoor.PFnExactParseProgram
