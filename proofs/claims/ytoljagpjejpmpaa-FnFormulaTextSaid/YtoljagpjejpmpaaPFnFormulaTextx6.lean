/- A part of the walk through the printed functions; no condition. -/
import Derived.Test.YtoljagpjejpmpaaXAuto
import Derived.Test.YtoljagpjejpmpaaPFnFormulaTextx0
import Derived.Test.YtoljagpjejpmpaaPFnFormulaTextx5
namespace Go.Proofs.Ytoljagpjejpmpaa.PFnFormulaText
open Go.RowKit Go.Proofs.YtoljagpjejpmpaaW.PrintWords Go.Proofs.YtoljagpjejpmpaaW.PrintLast Go.Proofs.YtoljagpjejpmpaaW.PrintMore
attribute [local go_sem] max2_int min2_int max_two min_two max_three min_three max_four min_four
set_option maxHeartbeats 32000000
set_option maxRecDepth 100000
attribute [local irreducible] Go.World.setCell
set_option linter.unusedVariables false
set_option linter.unusedSimpArgs false
open Go.Proofs.YtoljagpjejpmpaaW.PrintWords.Aside0 renaming mk → Qa
open Go.Proofs.YtoljagpjejpmpaaW.PrintWords renaming gate_callee → Qb, Aside0 → Qf, gate_dst → Qk
open Go.RowKit renaming wrap64 → Qg
open Go.Proofs.YtoljagpjejpmpaaW.PrintWords.Drawn0 renaming refl → Ql, step → Qm
def impl_IsFormula.f (k : Nat) (a0 : Int) (a1_0 : Int) (a1_1 : Int) (a1_2 : Int) (a1_3 : Int) (l1_4 : List (S32)) : Option (Bool) := (impl_SizeOf.f k a1_0 a1_1 a1_2 a1_3 l1_4).bind fun t26 => (if t26 ≤ 40 then ((impl_DepthOf.f k a1_0 a1_1 a1_2 a1_3 l1_4).bind fun t27 => (if t27 ≤ 12 then ((impl_Formula_isWell.f k a1_0 a1_1 a1_2 a1_3 l1_4 a0).bind fun t28 => (some t28)) else (some false))) else (some false))
theorem impl_IsFormula.mono : ∀ a0 a1 a2 a3 a4 a5 k, LeO (impl_IsFormula.f k a0 a1 a2 a3 a4 a5) (impl_IsFormula.f (k + 1) a0 a1 a2 a3 a4 a5) := by
 intro a0 a1 a2 a3 a4 a5 k
 unfold impl_IsFormula.f
 exact Lm3 impl_DepthOf.mono impl_Formula_isWell.mono impl_SizeOf.mono
theorem impl_IsFormula.calls (k : Nat) (a0 : Int) (a1_0 : Int) (a1_1 : Int) (a1_2 : Int) (a1_3 : Int) (A1_4 : Option Addr) (c1_4 : Nat) (l1_4 : List (S32)) (r : Bool) (w : World) (hr1_4 : Kd.C k32 w A1_4 l1_4.length l1_4) (hc1_4 : l1_4.length ≤ c1_4) (h : impl_IsFormula.f k a0 a1_0 a1_1 a1_2 a1_3 l1_4 = some r) :
  Calls Try.prog 36 #[.int .i64 a0, .agg #[.int .i64 a1_0, .int .i64 a1_1, .int .i64 a1_2, .int .i64 a1_3, .slice A1_4 l1_4.length c1_4]] w fun e w' => e = .returned (.bool r) ∧ Below w.heap.size w w' := by
 have hu32 := Try.underlying32
 have HR1_4 := Qa hr1_4
 have HC1_4 := Qa hc1_4
 clear hr1_4 hc1_4
 have HB := Qa (Below.refl w.heap.size w)
 have H : ((impl_SizeOf.f k a1_0 a1_1 a1_2 a1_3 l1_4).bind fun t26 => (if t26 ≤ 40 then ((impl_DepthOf.f k a1_0 a1_1 a1_2 a1_3 l1_4).bind fun t27 => (if t27 ≤ 12 then ((impl_Formula_isWell.f k a1_0 a1_1 a1_2 a1_3 l1_4 a0).bind fun t28 => (some t28)) else (some false))) else (some false))) = some r := h
 clear h
 obtain ⟨t26, A3, H⟩ := Ob H
 (try dsimp only at H)
 by_cases c4 : t26 ≤ 40
 ·rw [if_pos c4] at H
  replace c4 := decide_eq_true c4; obtain ⟨t27, A5, H⟩ := Ob H; (try dsimp only at H)
  by_cases c6 : t27 ≤ 12
  ·rw [if_pos c6] at H; replace c6 := decide_eq_true c6; obtain ⟨t28, A7, H⟩ := Ob H; (try dsimp only at H)
   obtain rfl := Option.some.inj H; go_enter Try.func36, Try.ntmps36; go_wp2_with (first | ((with_reducible refine Qk (N := 3) rfl ?_); refine Bx (N := 3) (cs := #[.int .i64 a1_0, .int .i64 a1_1, .int .i64 a1_2, .int .i64 a1_3, .slice A1_4 l1_4.length c1_4]) (t := 32) ?_; intro gb23 hg w8 hbox hb; have BK23 := Qa (hbox); have GW23 := Gs (w := w) hg (Bb0 HB.out); have GE23 := GW23; replace HB := Sb (Bb0 HB.out) hb; clear hb hbox hg; obtain ⟨q9_0, q9_1, q9_2, q9_3, q9_4, u9_0, u9_1, u9_2, u9_3, u9_4⟩ := Cf5 BK23) | ((with_reducible refine Qb (f := 31) rfl ?_); refine Gl 6 Try.func31 #[.agg #[.int .i64 a1_0, .int .i64 a1_1, .int .i64 a1_2, .int .i64 a1_3, .slice A1_4 l1_4.length c1_4]] ?_; (with_reducible refine (impl_SizeOf.calls k a1_0 a1_1 a1_2 a1_3 _ _ l1_4 t26 _ ?_ ?_ A3.out).mono ?_); exact Bc (Kd.C_below HR1_4.out HB.out); exact HC1_4.out; rintro e w10 ⟨rfl, hb⟩; refine ⟨_, rfl, ?_⟩; replace BK23 := Kb BK23 hb; replace HB := Sb (Bb1 HB.out GE23.out) hb; clear hb; obtain ⟨q11_0, q11_1, q11_2, q11_3, q11_4, u11_0, u11_1, u11_2, u11_3, u11_4⟩ := Cf5 BK23) | (go_at_call 32; (with_reducible refine (impl_DepthOf.calls k a1_0 a1_1 a1_2 a1_3 _ _ l1_4 t27 _ ?_ ?_ A5.out).mono ?_); exact Bc (Kd.C_below HR1_4.out HB.out); exact HC1_4.out; rintro e w12 ⟨rfl, hb⟩; replace BK23 := Kb BK23 hb; replace HB := Sb (Bb1 HB.out GE23.out) hb; clear hb; obtain ⟨q13_0, q13_1, q13_2, q13_3, q13_4, u13_0, u13_1, u13_2, u13_3, u13_4⟩ := Cf5 BK23) | (go_at_call 73; (with_reducible refine (impl_Formula_isWell.calls k a1_0 a1_1 a1_2 a1_3 _ _ l1_4 a0 t28 _ ?_ ?_ A7.out).mono ?_); exact Bc (Kd.C_below HR1_4.out HB.out); exact HC1_4.out; rintro e w14 ⟨rfl, hb⟩; replace BK23 := Kb BK23 hb; replace HB := Sb (Bb1 HB.out GE23.out) hb; clear hb)); go_ret; exact ⟨Ze, Bb1 HB.out GE23.out⟩
  ·rw [if_neg c6] at H; replace c6 := decide_eq_false c6; obtain rfl := Option.some.inj H; go_enter Try.func36, Try.ntmps36; go_wp2_with (first | ((with_reducible refine Qk (N := 3) rfl ?_); refine Bx (N := 3) (cs := #[.int .i64 a1_0, .int .i64 a1_1, .int .i64 a1_2, .int .i64 a1_3, .slice A1_4 l1_4.length c1_4]) (t := 32) ?_; intro gb23 hg w15 hbox hb; have BK23 := Qa (hbox); have GW23 := Gs (w := w) hg (Bb0 HB.out); have GE23 := GW23; replace HB := Sb (Bb0 HB.out) hb; clear hb hbox hg; obtain ⟨q16_0, q16_1, q16_2, q16_3, q16_4, u16_0, u16_1, u16_2, u16_3, u16_4⟩ := Cf5 BK23) | ((with_reducible refine Qb (f := 31) rfl ?_); refine Gl 6 Try.func31 #[.agg #[.int .i64 a1_0, .int .i64 a1_1, .int .i64 a1_2, .int .i64 a1_3, .slice A1_4 l1_4.length c1_4]] ?_; (with_reducible refine (impl_SizeOf.calls k a1_0 a1_1 a1_2 a1_3 _ _ l1_4 t26 _ ?_ ?_ A3.out).mono ?_); exact Bc (Kd.C_below HR1_4.out HB.out); exact HC1_4.out; rintro e w17 ⟨rfl, hb⟩; refine ⟨_, rfl, ?_⟩; replace BK23 := Kb BK23 hb; replace HB := Sb (Bb1 HB.out GE23.out) hb; clear hb; obtain ⟨q18_0, q18_1, q18_2, q18_3, q18_4, u18_0, u18_1, u18_2, u18_3, u18_4⟩ := Cf5 BK23) | (go_at_call 32; (with_reducible refine (impl_DepthOf.calls k a1_0 a1_1 a1_2 a1_3 _ _ l1_4 t27 _ ?_ ?_ A5.out).mono ?_); exact Bc (Kd.C_below HR1_4.out HB.out); exact HC1_4.out; rintro e w19 ⟨rfl, hb⟩; replace BK23 := Kb BK23 hb; replace HB := Sb (Bb1 HB.out GE23.out) hb; clear hb)); go_ret; exact ⟨Ze, Bb1 HB.out GE23.out⟩
 ·rw [if_neg c4] at H
  replace c4 := decide_eq_false c4; obtain rfl := Option.some.inj H; go_enter Try.func36, Try.ntmps36; go_wp2_with (first | ((with_reducible refine Qk (N := 3) rfl ?_); refine Bx (N := 3) (cs := #[.int .i64 a1_0, .int .i64 a1_1, .int .i64 a1_2, .int .i64 a1_3, .slice A1_4 l1_4.length c1_4]) (t := 32) ?_; intro gb23 hg w20 hbox hb; have BK23 := Qa (hbox); have GW23 := Gs (w := w) hg (Bb0 HB.out); have GE23 := GW23; replace HB := Sb (Bb0 HB.out) hb; clear hb hbox hg; obtain ⟨q21_0, q21_1, q21_2, q21_3, q21_4, u21_0, u21_1, u21_2, u21_3, u21_4⟩ := Cf5 BK23) | ((with_reducible refine Qb (f := 31) rfl ?_); refine Gl 6 Try.func31 #[.agg #[.int .i64 a1_0, .int .i64 a1_1, .int .i64 a1_2, .int .i64 a1_3, .slice A1_4 l1_4.length c1_4]] ?_; (with_reducible refine (impl_SizeOf.calls k a1_0 a1_1 a1_2 a1_3 _ _ l1_4 t26 _ ?_ ?_ A3.out).mono ?_); exact Bc (Kd.C_below HR1_4.out HB.out); exact HC1_4.out; rintro e w22 ⟨rfl, hb⟩; refine ⟨_, rfl, ?_⟩; replace BK23 := Kb BK23 hb; replace HB := Sb (Bb1 HB.out GE23.out) hb; clear hb)); go_ret; exact ⟨Ze, Bb1 HB.out GE23.out⟩
def impl_IsName.l0 : Nat → ByteArray → Int → Int → Option (Bool)
 | 0, _, _, _ => none
 | k + 1, x0, x5, x6 => if x6 < x5 then (if 0 ≤ x6 then (if x6 < (x0.size : Int) then (if (bt x0 x6) < 97 then (some false) else (if (bt x0 x6) > 122 then (some false) else (impl_IsName.l0 k x0 x5 (Qg (x6 + 1))))) else (none)) else (none)) else ((impl_within.f (x0.size : Int) 1 2).bind fun t31 => (some t31))
def impl_IsName.f (k : Nat) (a0 : ByteArray) : Option (Bool) := impl_IsName.l0 k a0 (a0.size : Int) 0
theorem impl_IsName.mono_l : ∀ k, (∀ y0 y1 y2, LeO (impl_IsName.l0 k y0 y1 y2) (impl_IsName.l0 (k + 1) y0 y1 y2))
 | 0 => fun _ _ _ r h => by simp [impl_IsName.l0] at h
 | k + 1 => by
  have ih0 := impl_IsName.mono_l k
  ·intro y0 y1 y2; unfold impl_IsName.l0; exact Lm1 ih0
theorem impl_IsName.mono : ∀ a0 k, LeO (impl_IsName.f k a0) (impl_IsName.f (k + 1) a0) := by
 intro a0 k
 have ih0 := impl_IsName.mono_l k
 unfold impl_IsName.f
 exact Lm1 ih0
theorem impl_IsName.calls (k : Nat) (a0 : ByteArray) (r : Bool) (w : World) (h : impl_IsName.f k a0 = some r) :
  Calls Try.prog 81 #[.string a0] w fun e w' => e = .returned (.bool r) ∧ Drawn0 w w' := by
 have H : (impl_IsName.l0 k a0 (a0.size : Int) 0) = some r := h
 clear h
 have H' := Qa H
 clear H
 go_enter Try.func81, Try.ntmps81
 go_wp2
 go_loopg [6] k (fun kq v6 w' => ∃ (x6_1 : Int), v6 = .int .i64 x6_1 ∧ Qf (impl_IsName.l0 kq a0 (a0.size : Int) x6_1 = some r) ∧ Qf (kq ≤ k) ∧ Drawn0 w w')
 case atStart => exact ⟨(0), Zf, H', ⟨Nat.le_refl _⟩, by repeat (first | exact Ql _ | apply Qm)⟩
 case round =>
  clear H'; obtain ⟨x6_1, rfl, HA, HK1, ⟨m1, rfl⟩⟩ := hrel; cases gk with
  | zero => exact absurd HA.out (by simp [impl_IsName.l0])
  | succ k1 =>
   have H := HA.out; clear HA; simp only [impl_IsName.l0] at H; by_cases c2 : x6_1 < (a0.size : Int)
   ·rw [if_pos c2] at H; replace c2 := decide_eq_true c2; by_cases c3 : 0 ≤ x6_1
    ·rw [if_pos c3] at H; replace c3 := decide_eq_true c3; by_cases c4 : x6_1 < (a0.size : Int)
     ·rw [if_pos c4] at H; replace c4 := decide_eq_true c4; by_cases c6 : (bt a0 x6_1) < 97
      ·rw [if_pos c6] at H; replace c6 := decide_eq_true c6; obtain rfl := Option.some.inj H; have p5 : 0 ≤ (x6_1 : Int) := Da; have q5 : x6_1 < (a0.size : Int) := Da; have hx5 := bt_at a0 x6_1; replace p5 := eq_true p5; replace q5 := eq_true q5; go_wp2; go_ret; exact ⟨by first | rfl | (simp; done) | (simp [*]; done), by repeat (first | exact Ql _ | apply Qm)⟩
      ·rw [if_neg c6] at H; replace c6 := decide_eq_false c6; by_cases c8 : (bt a0 x6_1) > 122
       ·rw [if_pos c8] at H; replace c8 := decide_eq_true c8; obtain rfl := Option.some.inj H; have p5 : 0 ≤ (x6_1 : Int) := Da; have q5 : x6_1 < (a0.size : Int) := Da; have hx5 := bt_at a0 x6_1; replace p5 := eq_true p5; replace q5 := eq_true q5; have p7 : 0 ≤ (x6_1 : Int) := Da; have q7 : x6_1 < (a0.size : Int) := Da; have hx7 := bt_at a0 x6_1; replace p7 := eq_true p7; replace q7 := eq_true q7; go_wp2; go_ret; exact ⟨by first | rfl | (simp; done) | (simp [*]; done), by repeat (first | exact Ql _ | apply Qm)⟩
       ·rw [if_neg c8] at H; replace c8 := decide_eq_false c8; have H' := Qa H; clear H; have p5 : 0 ≤ (x6_1 : Int) := Da; have q5 : x6_1 < (a0.size : Int) := Da; have hx5 := bt_at a0 x6_1; replace p5 := eq_true p5; replace q5 := eq_true q5; have p7 : 0 ≤ (x6_1 : Int) := Da; have q7 : x6_1 < (a0.size : Int) := Da; have hx7 := bt_at a0 x6_1; replace p7 := eq_true p7; replace q7 := eq_true q7; go_wp2; go_roundg k1
        case measure => have := HK1.out; omega
        case rel => exact ⟨(Qg (x6_1 + 1)), Zf, H', ⟨by have := HK1.out; omega⟩, by repeat (first | exact Ql _ | apply Qm)⟩
     ·rw [if_neg c4] at H; exact absurd H (by simp)
    ·rw [if_neg c3] at H; exact absurd H (by simp)
   ·rw [if_neg c2] at H; replace c2 := decide_eq_false c2; obtain ⟨t31, A9, H⟩ := Ob H; (try dsimp only at H)
    obtain rfl := Option.some.inj H; go_wp2_with (first | ((with_reducible refine Qb (f := 66) rfl ?_); refine Gl 22 Try.func66 #[.int .i64 (a0.size : Int), .int .i64 1, .int .i64 2] ?_; (with_reducible refine (impl_within.calls (a0.size : Int) 1 2 t31 _ A9.out).mono ?_); rintro e w' ⟨rfl, ⟨nd, rfl⟩⟩; refine ⟨_, rfl, ?_⟩)); go_ret; exact ⟨by first | rfl | (simp; done) | (simp [*]; done), by repeat (first | exact Ql _ | apply Qm)⟩
def slices_Index_string_string.l0 : Nat → List ByteArray → ByteArray → Int → Int → Option (Int)
 | 0, _, _, _, _ => none
 | k + 1, x0, x1, x7, x8 => if x8 < x7 then (if 0 ≤ x8 then (if x8 < (x0.length : Int) then (if x1.toList = (rdOf ByteArray.empty x0 x8).toList then (some x8) else (slices_Index_string_string.l0 k x0 x1 x7 (Qg (x8 + 1)))) else (none)) else (none)) else (some (-1))
def slices_Index_string_string.f (k : Nat) (l0 : List ByteArray) (a1 : ByteArray) : Option (Int) := slices_Index_string_string.l0 k l0 a1 (l0.length : Int) 0
theorem slices_Index_string_string.mono_l : ∀ k, (∀ y0 y1 y2 y3, LeO (slices_Index_string_string.l0 k y0 y1 y2 y3) (slices_Index_string_string.l0 (k + 1) y0 y1 y2 y3))
 | 0 => fun _ _ _ _ r h => by simp [slices_Index_string_string.l0] at h
 | k + 1 => by
  have ih0 := slices_Index_string_string.mono_l k
  ·intro y0 y1 y2 y3; unfold slices_Index_string_string.l0; exact Lm1 ih0
theorem slices_Index_string_string.mono : ∀ a0 a1 k, LeO (slices_Index_string_string.f k a0 a1) (slices_Index_string_string.f (k + 1) a0 a1) := by
 intro a0 a1 k
 have ih0 := slices_Index_string_string.mono_l k
 unfold slices_Index_string_string.f
 exact Lm1 ih0
theorem slices_Index_string_string.calls (k : Nat) (A0 : Option Addr) (c0 : Nat) (l0 : List ByteArray) (a1 : ByteArray) (r : Int) (w : World) (hr0 : Kd.C Kd.string w A0 l0.length l0) (hc0 : l0.length ≤ c0) (h : slices_Index_string_string.f k l0 a1 = some r) :
  Calls Try.prog 109 #[.slice A0 l0.length c0, .string a1] w fun e w' => e = .returned (.int .i64 r) ∧ Drawn0 w w' := by
 have HR0 := Qa hr0
 have HC0 := Qa hc0
 clear hr0 hc0
 have H : (slices_Index_string_string.l0 k l0 a1 (l0.length : Int) 0) = some r := h
 clear h
 have H' := Qa H
 clear H
 go_enter Try.func109, Try.ntmps109
 go_wp2
 go_loopg [8] k (fun kq v8 w' => ∃ (x8_1 : Int), v8 = .int .i64 x8_1 ∧ Qf (slices_Index_string_string.l0 kq l0 a1 (l0.length : Int) x8_1 = some r) ∧ Qf (kq ≤ k) ∧ Drawn0 w w')
 case atStart => exact ⟨(0), Zf, H', ⟨Nat.le_refl _⟩, by repeat (first | exact Ql _ | apply Qm)⟩
 case round =>
  clear H'; (try clear c1)
  (try clear p2)
  obtain ⟨x8_1, rfl, HA, HK1, ⟨m1, rfl⟩⟩ := hrel; cases gk with
  | zero => exact absurd HA.out (by simp [slices_Index_string_string.l0])
  | succ k1 =>
   have H := HA.out; clear HA; simp only [slices_Index_string_string.l0] at H; by_cases c3 : x8_1 < (l0.length : Int)
   ·rw [if_pos c3] at H; replace c3 := decide_eq_true c3; by_cases c4 : 0 ≤ x8_1
    ·rw [if_pos c4] at H; replace c4 := decide_eq_true c4; by_cases c5 : x8_1 < (l0.length : Int)
     ·rw [if_pos c5] at H; replace c5 := decide_eq_true c5; by_cases c6 : a1.toList = (rdOf ByteArray.empty l0 x8_1).toList
      ·rw [if_pos c6] at H; have c6b0 := beq_iff_eq.mpr c6; have c6b1 := bne_eq_false_iff_eq.mpr c6; clear c6; obtain rfl := Option.some.inj H; have p25 : 0 ≤ (x8_1 : Int) := Da; have q25 : x8_1 < (l0.length : Int) := Da; obtain ⟨ad25, e25, hx25_0⟩ := Kd.at_string HR0.out x8_1 p25 q25; cases e25
       replace p25 := eq_true p25; replace q25 := eq_true q25; go_wp2; go_ret; exact ⟨by first | rfl | (simp; done) | (simp [*]; done), by repeat (first | exact Ql _ | apply Qm)⟩
      ·rw [if_neg c6] at H; have c6b0 := beq_eq_false_iff_ne.mpr c6; have c6b1 := bne_iff_ne.mpr c6; have H' := Qa H; clear H; have p25 : 0 ≤ (x8_1 : Int) := Da; have q25 : x8_1 < (l0.length : Int) := Da; obtain ⟨ad25, e25, hx25_0⟩ := Kd.at_string HR0.out x8_1 p25 q25; cases e25
       replace p25 := eq_true p25; replace q25 := eq_true q25; go_wp2; go_roundg k1
       case measure => have := HK1.out; omega
       case rel => exact ⟨(Qg (x8_1 + 1)), Zf, H', ⟨by have := HK1.out; omega⟩, by repeat (first | exact Ql _ | apply Qm)⟩
     ·rw [if_neg c5] at H; exact absurd H (by simp)
    ·rw [if_neg c4] at H; exact absurd H (by simp)
   ·rw [if_neg c3] at H; replace c3 := decide_eq_false c3; obtain rfl := Option.some.inj H; go_wp2; go_ret; exact ⟨by first | rfl | (simp; done) | (simp [*]; done), by repeat (first | exact Ql _ | apply Qm)⟩
def impl_IndexOf.f (k : Nat) (l0 : List ByteArray) (a1 : ByteArray) : Option (Int) := (slices_Index_string_string.f k l0 a1).bind fun t29 => (some t29)
theorem impl_IndexOf.mono : ∀ a0 a1 k, LeO (impl_IndexOf.f k a0 a1) (impl_IndexOf.f (k + 1) a0 a1) := by
 intro a0 a1 k
 unfold impl_IndexOf.f
 exact Lm1 slices_Index_string_string.mono
theorem impl_IndexOf.calls (k : Nat) (A0 : Option Addr) (c0 : Nat) (l0 : List ByteArray) (a1 : ByteArray) (r : Int) (w : World) (hr0 : Kd.C Kd.string w A0 l0.length l0) (hc0 : l0.length ≤ c0) (h : impl_IndexOf.f k l0 a1 = some r) :
  Calls Try.prog 82 #[.slice A0 l0.length c0, .string a1] w fun e w' => e = .returned (.int .i64 r) ∧ Drawn0 w w' := by
 have HR0 := Qa hr0
 have HC0 := Qa hc0
 clear hr0 hc0
 have H : ((slices_Index_string_string.f k l0 a1).bind fun t29 => (some t29)) = some r := h
 clear h
 obtain ⟨t29, A3, H⟩ := Ob H
 (try dsimp only at H)
 obtain rfl := Option.some.inj H
 go_enter Try.func82, Try.ntmps82
 go_wp2_with (first | ((with_reducible refine Qb (f := 109) rfl ?_); refine Gl 7 Try.func109 #[.slice A0 l0.length c0, .string a1] ?_; (with_reducible refine (slices_Index_string_string.calls k _ _ l0 a1 t29 _ ?_ ?_ A3.out).mono ?_); exact Bc HR0.out; exact HC0.out; rintro e w' ⟨rfl, ⟨nd, rfl⟩⟩; refine ⟨_, rfl, ?_⟩))
 go_ret
 exact ⟨by first | rfl | (simp; done) | (simp [*]; done), by repeat (first | exact Ql _ | apply Qm)⟩
def impl_AreVars.l0 : Nat → List ByteArray → List ByteArray → Int → Int → Option (Bool)
 | 0, _, _, _, _ => none
 | k + 1, x0, x5, x6, x7 => if x7 < x6 then (if 0 ≤ x7 then (if x7 < (x5.length : Int) then ((impl_IsName.f k (rdOf ByteArray.empty x5 x7)).bind fun t33 => (if t33 = true then ((impl_IndexOf.f k x0 (rdOf ByteArray.empty x5 x7)).bind fun t30 => (if t30 = x7 then (impl_AreVars.l0 k x0 x5 x6 (Qg (x7 + 1))) else (some false))) else (some false))) else (none)) else (none)) else ((impl_within.f (x0.length : Int) 1 4).bind fun t34 => (some t34))
def impl_AreVars.f (k : Nat) (l0 : List ByteArray) : Option (Bool) := impl_AreVars.l0 k l0 l0 (l0.length : Int) 0
theorem impl_AreVars.mono_l : ∀ k, (∀ y0 y1 y2 y3, LeO (impl_AreVars.l0 k y0 y1 y2 y3) (impl_AreVars.l0 (k + 1) y0 y1 y2 y3))
 | 0 => fun _ _ _ _ r h => by simp [impl_AreVars.l0] at h
 | k + 1 => by
  have ih0 := impl_AreVars.mono_l k
  ·intro y0 y1 y2 y3; unfold impl_AreVars.l0; exact Lm3 ih0 impl_IndexOf.mono impl_IsName.mono
theorem impl_AreVars.mono : ∀ a0 k, LeO (impl_AreVars.f k a0) (impl_AreVars.f (k + 1) a0) := by
 intro a0 k
 have ih0 := impl_AreVars.mono_l k
 unfold impl_AreVars.f
 exact Lm3 ih0 impl_IndexOf.mono impl_IsName.mono
theorem impl_AreVars.calls (k : Nat) (A0 : Option Addr) (c0 : Nat) (l0 : List ByteArray) (r : Bool) (w : World) (hr0 : Kd.C Kd.string w A0 l0.length l0) (hc0 : l0.length ≤ c0) (h : impl_AreVars.f k l0 = some r) :
  Calls Try.prog 46 #[.slice A0 l0.length c0] w fun e w' => e = .returned (.bool r) ∧ Drawn0 w w' := by
 have HR0 := Qa hr0
 have HC0 := Qa hc0
 clear hr0 hc0
 have H : (impl_AreVars.l0 k l0 l0 (l0.length : Int) 0) = some r := h
 clear h
 have H' := Qa H
 clear H
 go_enter Try.func46, Try.ntmps46
 go_wp2
 go_loopg [7] k (fun kq v7 w' => ∃ (x7_1 : Int), v7 = .int .i64 x7_1 ∧ Qf (impl_AreVars.l0 kq l0 l0 (l0.length : Int) x7_1 = some r) ∧ Qf (kq ≤ k) ∧ Drawn0 w w')
 case atStart => exact ⟨(0), Zf, H', ⟨Nat.le_refl _⟩, by repeat (first | exact Ql _ | apply Qm)⟩
 case round =>
  clear H'; obtain ⟨x7_1, rfl, HA, HK1, ⟨m1, rfl⟩⟩ := hrel; cases gk with
  | zero => exact absurd HA.out (by simp [impl_AreVars.l0])
  | succ k1 =>
   have H := HA.out; clear HA; simp only [impl_AreVars.l0] at H; by_cases c2 : x7_1 < (l0.length : Int)
   ·rw [if_pos c2] at H; replace c2 := decide_eq_true c2; by_cases c3 : 0 ≤ x7_1
    ·rw [if_pos c3] at H; replace c3 := decide_eq_true c3; by_cases c4 : x7_1 < (l0.length : Int)
     ·rw [if_pos c4] at H; replace c4 := decide_eq_true c4; obtain ⟨t33, A5, H⟩ := Ob H; (try dsimp only at H)
      by_cases c6 : t33 = true
      ·subst c6; rw [if_pos rfl] at H; obtain ⟨t30, A7, H⟩ := Ob H; (try dsimp only at H)
       by_cases c8 : t30 = x7_1
       ·rw [if_pos c8] at H; have c8b0 := beq_iff_eq.mpr c8; have c8b1 := bne_eq_false_iff_eq.mpr c8; clear c8; have H' := Qa H; clear H; have p24 : 0 ≤ (x7_1 : Int) := Da; have q24 : x7_1 < (l0.length : Int) := Da; obtain ⟨ad24, e24, hx24_0⟩ := Kd.at_string HR0.out x7_1 p24 q24; cases e24
        replace p24 := eq_true p24; replace q24 := eq_true q24; go_wp2_with (first | ((with_reducible refine Qb (f := 81) rfl ?_); refine Gl 13 Try.func81 #[.string (rdOf ByteArray.empty l0 x7_1)] ?_; (with_reducible refine (impl_IsName.calls k1 (rdOf ByteArray.empty l0 x7_1) true _ A5.out).mono ?_); rintro e w' ⟨rfl, ⟨nd, rfl⟩⟩; refine ⟨_, rfl, ?_⟩) | (go_at_call 82; (with_reducible refine (impl_IndexOf.calls k1 _ _ l0 (rdOf ByteArray.empty l0 x7_1) t30 _ ?_ ?_ A7.out).mono ?_); exact Bc HR0.out; exact HC0.out; rintro e w' ⟨rfl, ⟨nd, rfl⟩⟩)); go_roundg k1
        case measure => have := HK1.out; omega
        case rel => exact ⟨(Qg (x7_1 + 1)), Zf, H', ⟨by have := HK1.out; omega⟩, by repeat (first | exact Ql _ | apply Qm)⟩
       ·rw [if_neg c8] at H; have c8b0 := beq_eq_false_iff_ne.mpr c8; have c8b1 := bne_iff_ne.mpr c8; obtain rfl := Option.some.inj H; have p24 : 0 ≤ (x7_1 : Int) := Da; have q24 : x7_1 < (l0.length : Int) := Da; obtain ⟨ad24, e24, hx24_0⟩ := Kd.at_string HR0.out x7_1 p24 q24; cases e24
        replace p24 := eq_true p24; replace q24 := eq_true q24; go_wp2_with (first | ((with_reducible refine Qb (f := 81) rfl ?_); refine Gl 13 Try.func81 #[.string (rdOf ByteArray.empty l0 x7_1)] ?_; (with_reducible refine (impl_IsName.calls k1 (rdOf ByteArray.empty l0 x7_1) true _ A5.out).mono ?_); rintro e w' ⟨rfl, ⟨nd, rfl⟩⟩; refine ⟨_, rfl, ?_⟩) | (go_at_call 82; (with_reducible refine (impl_IndexOf.calls k1 _ _ l0 (rdOf ByteArray.empty l0 x7_1) t30 _ ?_ ?_ A7.out).mono ?_); exact Bc HR0.out; exact HC0.out; rintro e w' ⟨rfl, ⟨nd, rfl⟩⟩)); go_ret; exact ⟨by first | rfl | (simp; done) | (simp [*]; done), by repeat (first | exact Ql _ | apply Qm)⟩
      ·replace c6 := Bool.eq_false_iff.mpr c6; subst c6; rw [if_neg (show ¬ (false = true) by decide)] at H; obtain rfl := Option.some.inj H; have p24 : 0 ≤ (x7_1 : Int) := Da; have q24 : x7_1 < (l0.length : Int) := Da; obtain ⟨ad24, e24, hx24_0⟩ := Kd.at_string HR0.out x7_1 p24 q24; cases e24
       replace p24 := eq_true p24; replace q24 := eq_true q24; go_wp2_with (first | ((with_reducible refine Qb (f := 81) rfl ?_); refine Gl 13 Try.func81 #[.string (rdOf ByteArray.empty l0 x7_1)] ?_; (with_reducible refine (impl_IsName.calls k1 (rdOf ByteArray.empty l0 x7_1) false _ A5.out).mono ?_); rintro e w' ⟨rfl, ⟨nd, rfl⟩⟩; refine ⟨_, rfl, ?_⟩)); go_ret; exact ⟨by first | rfl | (simp; done) | (simp [*]; done), by repeat (first | exact Ql _ | apply Qm)⟩
     ·rw [if_neg c4] at H; exact absurd H (by simp)
    ·rw [if_neg c3] at H; exact absurd H (by simp)
   ·rw [if_neg c2] at H; replace c2 := decide_eq_false c2; obtain ⟨t34, A9, H⟩ := Ob H; (try dsimp only at H)
    obtain rfl := Option.some.inj H; go_wp2_with (first | ((with_reducible refine Qb (f := 66) rfl ?_); refine Gl 25 Try.func66 #[.int .i64 (l0.length : Int), .int .i64 1, .int .i64 4] ?_; (with_reducible refine (impl_within.calls (l0.length : Int) 1 4 t34 _ A9.out).mono ?_); rintro e w' ⟨rfl, ⟨nd, rfl⟩⟩; refine ⟨_, rfl, ?_⟩)); go_ret; exact ⟨by first | rfl | (simp; done) | (simp [*]; done), by repeat (first | exact Ql _ | apply Qm)⟩
def impl_logicName.f (a0 : Int) : Option (ByteArray) := if 0 ≤ a0 then (if a0 ≤ (Qg (a0 + 1)) then (if (Qg (a0 + 1)) ≤ 4 then (some ((⟨#[117, 118, 119, 122]⟩ : ByteArray).extract (a0 : Int).toNat ((Qg (a0 + 1)) : Int).toNat)) else (none)) else (none)) else (none)
theorem impl_logicName.calls (a0 : Int) (r : ByteArray) (w : World) (h : impl_logicName.f a0 = some r) :
  Calls Try.prog 84 #[.int .i64 a0] w fun e w' => e = .returned (.string r) ∧ Drawn0 w w' := by
 have H : (if 0 ≤ a0 then (if a0 ≤ (Qg (a0 + 1)) then (if (Qg (a0 + 1)) ≤ 4 then (some ((⟨#[117, 118, 119, 122]⟩ : ByteArray).extract (a0 : Int).toNat ((Qg (a0 + 1)) : Int).toNat)) else (none)) else (none)) else (none)) = some r := h
 clear h
 by_cases c2 : 0 ≤ a0
 ·rw [if_pos c2] at H
  have c2b0 := eq_true c2; have c2b1 := decide_eq_true c2; clear c2; by_cases c3 : a0 ≤ (Qg (a0 + 1))
  ·rw [if_pos c3] at H; have c3b0 := eq_true c3; have c3b1 := decide_eq_true c3; by_cases c4 : (Qg (a0 + 1)) ≤ 4
   ·rw [if_pos c4] at H; have c4b0 := eq_true c4; have c4b1 := decide_eq_true c4; obtain rfl := Option.some.inj H; go_enter Try.func84, Try.ntmps84; go_wp2; go_ret; exact ⟨by first | rfl | (simp; done) | (simp [*]; done), by repeat (first | exact Ql _ | apply Qm)⟩
   ·rw [if_neg c4] at H; exact absurd H (by simp)
  ·rw [if_neg c3] at H; exact absurd H (by simp)
 ·rw [if_neg c2] at H
  exact absurd H (by simp)
end Go.Proofs.Ytoljagpjejpmpaa.PFnFormulaText
