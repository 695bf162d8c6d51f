/- A part of the walk through the printed functions; no condition. -/
import Derived.Test.YtoljagpjejpmpaaXAuto
import Derived.Test.YtoljagpjejpmpaaPFnExactParseFormulax0
import Derived.Test.YtoljagpjejpmpaaPFnExactParseFormulax8
import Derived.Test.YtoljagpjejpmpaaPFnExactParseFormulax9
namespace Go.Proofs.Ytoljagpjejpmpaa.PFnExactParseFormula
open Go.RowKit Go.Proofs.YtoljagpjejpmpaaW.PrintWords Go.Proofs.YtoljagpjejpmpaaW.PrintLast Go.Proofs.YtoljagpjejpmpaaW.PrintMore
attribute [local go_sem] max2_int min2_int max_two min_two max_three min_three max_four min_four
set_option maxHeartbeats 32000000
set_option maxRecDepth 100000
attribute [local irreducible] Go.World.setCell
set_option linter.unusedVariables false
set_option linter.unusedSimpArgs false
open Go.Proofs.YtoljagpjejpmpaaW.PrintWords.Aside0 renaming mk → Qa
open Go.Proofs.YtoljagpjejpmpaaW.PrintWords renaming gate_callee → Qc, Aside0 → Qf, gate_dst → Qp
open Go.RowKit renaming wrap64 → Qg
open Go.Proofs.YtoljagpjejpmpaaW.PrintWords.Drawn0 renaming refl → Qi, step → Qj
def spec_IsFormula.f (k : Nat) (a0 : Int) (a1_0 : Int) (a1_1 : Int) (a1_2 : Int) (a1_3 : Int) (l1_4 : List (S32)) : Option (Bool) := (spec_l10Left.f k a1_0 a1_1 a1_2 a1_3 l1_4 40).bind fun t27 => (if t27 ≥ 0 then ((spec_DepthOf.f k a1_0 a1_1 a1_2 a1_3 l1_4).bind fun t28 => (if t28 ≤ 12 then ((spec_l10Form.f k a0 a1_0 a1_1 a1_2 a1_3 l1_4).bind fun t29 => (some t29)) else (some false))) else (some false))
theorem spec_IsFormula.mono : ∀ a0 a1 a2 a3 a4 a5 k, LeO (spec_IsFormula.f k a0 a1 a2 a3 a4 a5) (spec_IsFormula.f (k + 1) a0 a1 a2 a3 a4 a5) := by
 intro a0 a1 a2 a3 a4 a5 k
 unfold spec_IsFormula.f
 exact Lm3 spec_DepthOf.mono spec_l10Form.mono spec_l10Left.mono
theorem spec_IsFormula.calls (k : Nat) (a0 : Int) (a1_0 : Int) (a1_1 : Int) (a1_2 : Int) (a1_3 : Int) (A1_4 : Option Addr) (c1_4 : Nat) (l1_4 : List (S32)) (r : Bool) (w : World) (hr1_4 : Kd.C k32 w A1_4 l1_4.length l1_4) (hc1_4 : l1_4.length ≤ c1_4) (h : spec_IsFormula.f k a0 a1_0 a1_1 a1_2 a1_3 l1_4 = some r) :
  Calls Try.prog 37 #[.int .i64 a0, .agg #[.int .i64 a1_0, .int .i64 a1_1, .int .i64 a1_2, .int .i64 a1_3, .slice A1_4 l1_4.length c1_4]] w fun e w' => e = .returned (.bool r) ∧ Below w.heap.size w w' := by
 have hu32 := Try.underlying32
 have HR1_4 := Qa hr1_4
 have HC1_4 := Qa hc1_4
 clear hr1_4 hc1_4
 have HB := Qa (Below.refl w.heap.size w)
 have H : ((spec_l10Left.f k a1_0 a1_1 a1_2 a1_3 l1_4 40).bind fun t27 => (if t27 ≥ 0 then ((spec_DepthOf.f k a1_0 a1_1 a1_2 a1_3 l1_4).bind fun t28 => (if t28 ≤ 12 then ((spec_l10Form.f k a0 a1_0 a1_1 a1_2 a1_3 l1_4).bind fun t29 => (some t29)) else (some false))) else (some false))) = some r := h
 clear h
 obtain ⟨t27, A3, H⟩ := Ob H
 (try dsimp only at H)
 by_cases c4 : t27 ≥ 0
 ·rw [if_pos c4] at H
  replace c4 := decide_eq_true c4; obtain ⟨t28, A5, H⟩ := Ob H; (try dsimp only at H)
  by_cases c6 : t28 ≤ 12
  ·rw [if_pos c6] at H; replace c6 := decide_eq_true c6; obtain ⟨t29, A7, H⟩ := Ob H; (try dsimp only at H)
   obtain rfl := Option.some.inj H; go_enter Try.func37, Try.ntmps37; go_wp2_with (first | ((with_reducible refine Qp (N := 3) rfl ?_); refine Bx (N := 3) (cs := #[.int .i64 a1_0, .int .i64 a1_1, .int .i64 a1_2, .int .i64 a1_3, .slice A1_4 l1_4.length c1_4]) (t := 32) ?_; intro gb23 hg w8 hbox hb; have BK23 := Qa (hbox); have GW23 := Gs (w := w) hg (Bb0 HB.out); have GE23 := GW23; replace HB := Sb (Bb0 HB.out) hb; clear hb hbox hg; obtain ⟨q9_0, q9_1, q9_2, q9_3, q9_4, u9_0, u9_1, u9_2, u9_3, u9_4⟩ := Cf5 BK23) | ((with_reducible refine Qc (f := 74) rfl ?_); refine Gl 6 Try.func74 #[.agg #[.int .i64 a1_0, .int .i64 a1_1, .int .i64 a1_2, .int .i64 a1_3, .slice A1_4 l1_4.length c1_4], .int .i64 40] ?_; (with_reducible refine (spec_l10Left.calls k a1_0 a1_1 a1_2 a1_3 _ _ l1_4 40 t27 _ ?_ ?_ A3.out).mono ?_); exact Bc (Kd.C_below HR1_4.out HB.out); exact HC1_4.out; rintro e w10 ⟨rfl, hb⟩; refine ⟨_, rfl, ?_⟩; replace BK23 := Kb BK23 hb; replace HB := Sb (Bb1 HB.out GE23.out) hb; clear hb; obtain ⟨q11_0, q11_1, q11_2, q11_3, q11_4, u11_0, u11_1, u11_2, u11_3, u11_4⟩ := Cf5 BK23) | (go_at_call 75; (with_reducible refine (spec_DepthOf.calls k a1_0 a1_1 a1_2 a1_3 _ _ l1_4 t28 _ ?_ ?_ A5.out).mono ?_); exact Bc (Kd.C_below HR1_4.out HB.out); exact HC1_4.out; rintro e w12 ⟨rfl, hb⟩; replace BK23 := Kb BK23 hb; replace HB := Sb (Bb1 HB.out GE23.out) hb; clear hb; obtain ⟨q13_0, q13_1, q13_2, q13_3, q13_4, u13_0, u13_1, u13_2, u13_3, u13_4⟩ := Cf5 BK23) | (go_at_call 76; (with_reducible refine (spec_l10Form.calls k a0 a1_0 a1_1 a1_2 a1_3 _ _ l1_4 t29 _ ?_ ?_ A7.out).mono ?_); exact Bc (Kd.C_below HR1_4.out HB.out); exact HC1_4.out; rintro e w14 ⟨rfl, hb⟩; replace BK23 := Kb BK23 hb; replace HB := Sb (Bb1 HB.out GE23.out) hb; clear hb)); go_ret; exact ⟨Ze, Bb1 HB.out GE23.out⟩
  ·rw [if_neg c6] at H; replace c6 := decide_eq_false c6; obtain rfl := Option.some.inj H; go_enter Try.func37, Try.ntmps37; go_wp2_with (first | ((with_reducible refine Qp (N := 3) rfl ?_); refine Bx (N := 3) (cs := #[.int .i64 a1_0, .int .i64 a1_1, .int .i64 a1_2, .int .i64 a1_3, .slice A1_4 l1_4.length c1_4]) (t := 32) ?_; intro gb23 hg w15 hbox hb; have BK23 := Qa (hbox); have GW23 := Gs (w := w) hg (Bb0 HB.out); have GE23 := GW23; replace HB := Sb (Bb0 HB.out) hb; clear hb hbox hg; obtain ⟨q16_0, q16_1, q16_2, q16_3, q16_4, u16_0, u16_1, u16_2, u16_3, u16_4⟩ := Cf5 BK23) | ((with_reducible refine Qc (f := 74) rfl ?_); refine Gl 6 Try.func74 #[.agg #[.int .i64 a1_0, .int .i64 a1_1, .int .i64 a1_2, .int .i64 a1_3, .slice A1_4 l1_4.length c1_4], .int .i64 40] ?_; (with_reducible refine (spec_l10Left.calls k a1_0 a1_1 a1_2 a1_3 _ _ l1_4 40 t27 _ ?_ ?_ A3.out).mono ?_); exact Bc (Kd.C_below HR1_4.out HB.out); exact HC1_4.out; rintro e w17 ⟨rfl, hb⟩; refine ⟨_, rfl, ?_⟩; replace BK23 := Kb BK23 hb; replace HB := Sb (Bb1 HB.out GE23.out) hb; clear hb; obtain ⟨q18_0, q18_1, q18_2, q18_3, q18_4, u18_0, u18_1, u18_2, u18_3, u18_4⟩ := Cf5 BK23) | (go_at_call 75; (with_reducible refine (spec_DepthOf.calls k a1_0 a1_1 a1_2 a1_3 _ _ l1_4 t28 _ ?_ ?_ A5.out).mono ?_); exact Bc (Kd.C_below HR1_4.out HB.out); exact HC1_4.out; rintro e w19 ⟨rfl, hb⟩; replace BK23 := Kb BK23 hb; replace HB := Sb (Bb1 HB.out GE23.out) hb; clear hb)); go_ret; exact ⟨Ze, Bb1 HB.out GE23.out⟩
 ·rw [if_neg c4] at H
  replace c4 := decide_eq_false c4; obtain rfl := Option.some.inj H; go_enter Try.func37, Try.ntmps37; go_wp2_with (first | ((with_reducible refine Qp (N := 3) rfl ?_); refine Bx (N := 3) (cs := #[.int .i64 a1_0, .int .i64 a1_1, .int .i64 a1_2, .int .i64 a1_3, .slice A1_4 l1_4.length c1_4]) (t := 32) ?_; intro gb23 hg w20 hbox hb; have BK23 := Qa (hbox); have GW23 := Gs (w := w) hg (Bb0 HB.out); have GE23 := GW23; replace HB := Sb (Bb0 HB.out) hb; clear hb hbox hg; obtain ⟨q21_0, q21_1, q21_2, q21_3, q21_4, u21_0, u21_1, u21_2, u21_3, u21_4⟩ := Cf5 BK23) | ((with_reducible refine Qc (f := 74) rfl ?_); refine Gl 6 Try.func74 #[.agg #[.int .i64 a1_0, .int .i64 a1_1, .int .i64 a1_2, .int .i64 a1_3, .slice A1_4 l1_4.length c1_4], .int .i64 40] ?_; (with_reducible refine (spec_l10Left.calls k a1_0 a1_1 a1_2 a1_3 _ _ l1_4 40 t27 _ ?_ ?_ A3.out).mono ?_); exact Bc (Kd.C_below HR1_4.out HB.out); exact HC1_4.out; rintro e w22 ⟨rfl, hb⟩; refine ⟨_, rfl, ?_⟩; replace BK23 := Kb BK23 hb; replace HB := Sb (Bb1 HB.out GE23.out) hb; clear hb)); go_ret; exact ⟨Ze, Bb1 HB.out GE23.out⟩
def spec_IsName.l0 : Nat → ByteArray → Int → Option (Bool)
 | 0, _, _ => none
 | k + 1, x0, x3 => if x3 < (x0.size : Int) then (if 0 ≤ x3 then (if (bt x0 x3) < 97 then (some false) else (if (bt x0 x3) > 122 then (some false) else (spec_IsName.l0 k x0 (Qg (x3 + 1))))) else (none)) else ((spec_l1In.f (x0.size : Int) 1 2).bind fun t31 => (some t31))
def spec_IsName.f (k : Nat) (a0 : ByteArray) : Option (Bool) := spec_IsName.l0 k a0 0
theorem spec_IsName.mono_l : ∀ k, (∀ y0 y1, LeO (spec_IsName.l0 k y0 y1) (spec_IsName.l0 (k + 1) y0 y1))
 | 0 => fun _ _ r h => by simp [spec_IsName.l0] at h
 | k + 1 => by
  have ih0 := spec_IsName.mono_l k
  ·intro y0 y1; unfold spec_IsName.l0; exact Lm1 ih0
theorem spec_IsName.mono : ∀ a0 k, LeO (spec_IsName.f k a0) (spec_IsName.f (k + 1) a0) := by
 intro a0 k
 have ih0 := spec_IsName.mono_l k
 unfold spec_IsName.f
 exact Lm1 ih0
theorem spec_IsName.calls (k : Nat) (a0 : ByteArray) (r : Bool) (w : World) (h : spec_IsName.f k a0 = some r) :
  Calls Try.prog 78 #[.string a0] w fun e w' => e = .returned (.bool r) ∧ Drawn0 w w' := by
 have H : (spec_IsName.l0 k a0 0) = some r := h
 clear h
 have H' := Qa H
 clear H
 go_enter Try.func78, Try.ntmps78
 go_wp2
 go_loopg [3] k (fun kq v3 w' => ∃ (x3_1 : Int), v3 = .int .i64 x3_1 ∧ Qf (spec_IsName.l0 kq a0 x3_1 = some r) ∧ Qf (kq ≤ k) ∧ Drawn0 w w')
 case atStart => exact ⟨(0), Zf, H', ⟨Nat.le_refl _⟩, by repeat (first | exact Qi _ | apply Qj)⟩
 case round =>
  clear H'; obtain ⟨x3_1, rfl, HA, HK1, ⟨m1, rfl⟩⟩ := hrel; cases gk with
  | zero => exact absurd HA.out (by simp [spec_IsName.l0])
  | succ k1 =>
   have H := HA.out; clear HA; simp only [spec_IsName.l0] at H; by_cases c2 : x3_1 < (a0.size : Int)
   ·rw [if_pos c2] at H; replace c2 := decide_eq_true c2; by_cases c3 : 0 ≤ x3_1
    ·rw [if_pos c3] at H; replace c3 := decide_eq_true c3; by_cases c5 : (bt a0 x3_1) < 97
     ·rw [if_pos c5] at H; replace c5 := decide_eq_true c5; obtain rfl := Option.some.inj H; have p4 : 0 ≤ (x3_1 : Int) := Da; have q4 : x3_1 < (a0.size : Int) := Da; have hx4 := bt_at a0 x3_1; replace p4 := eq_true p4; replace q4 := eq_true q4; go_wp2; go_ret; exact ⟨by first | rfl | (simp; done) | (simp [*]; done), by repeat (first | exact Qi _ | apply Qj)⟩
     ·rw [if_neg c5] at H; replace c5 := decide_eq_false c5; by_cases c7 : (bt a0 x3_1) > 122
      ·rw [if_pos c7] at H; replace c7 := decide_eq_true c7; obtain rfl := Option.some.inj H; have p4 : 0 ≤ (x3_1 : Int) := Da; have q4 : x3_1 < (a0.size : Int) := Da; have hx4 := bt_at a0 x3_1; replace p4 := eq_true p4; replace q4 := eq_true q4; have p6 : 0 ≤ (x3_1 : Int) := Da; have q6 : x3_1 < (a0.size : Int) := Da; have hx6 := bt_at a0 x3_1; replace p6 := eq_true p6; replace q6 := eq_true q6; go_wp2; go_ret; exact ⟨by first | rfl | (simp; done) | (simp [*]; done), by repeat (first | exact Qi _ | apply Qj)⟩
      ·rw [if_neg c7] at H; replace c7 := decide_eq_false c7; have H' := Qa H; clear H; have p4 : 0 ≤ (x3_1 : Int) := Da; have q4 : x3_1 < (a0.size : Int) := Da; have hx4 := bt_at a0 x3_1; replace p4 := eq_true p4; replace q4 := eq_true q4; have p6 : 0 ≤ (x3_1 : Int) := Da; have q6 : x3_1 < (a0.size : Int) := Da; have hx6 := bt_at a0 x3_1; replace p6 := eq_true p6; replace q6 := eq_true q6; go_wp2; go_roundg k1
       case measure => have := HK1.out; omega
       case rel => exact ⟨(Qg (x3_1 + 1)), Zf, H', ⟨by have := HK1.out; omega⟩, by repeat (first | exact Qi _ | apply Qj)⟩
    ·rw [if_neg c3] at H; exact absurd H (by simp)
   ·rw [if_neg c2] at H; replace c2 := decide_eq_false c2; obtain ⟨t31, A8, H⟩ := Ob H; (try dsimp only at H)
    obtain rfl := Option.some.inj H; go_wp2_with (first | ((with_reducible refine Qc (f := 77) rfl ?_); refine Gl 22 Try.func77 #[.int .i64 (a0.size : Int), .int .i64 1, .int .i64 2] ?_; (with_reducible refine (spec_l1In.calls (a0.size : Int) 1 2 t31 _ A8.out).mono ?_); rintro e w' ⟨rfl, ⟨nd, rfl⟩⟩; refine ⟨_, rfl, ?_⟩)); go_ret; exact ⟨by first | rfl | (simp; done) | (simp [*]; done), by repeat (first | exact Qi _ | apply Qj)⟩
def spec_IndexOf.l0 : Nat → List ByteArray → ByteArray → Int → Option (Int)
 | 0, _, _, _ => none
 | k + 1, x0, x1, x5 => if x5 < (x0.length : Int) then (if 0 ≤ x5 then (if (rdOf ByteArray.empty x0 x5).toList = x1.toList then (some x5) else (spec_IndexOf.l0 k x0 x1 (Qg (x5 + 1)))) else (none)) else (some (-1))
def spec_IndexOf.f (k : Nat) (l0 : List ByteArray) (a1 : ByteArray) : Option (Int) := spec_IndexOf.l0 k l0 a1 0
theorem spec_IndexOf.mono_l : ∀ k, (∀ y0 y1 y2, LeO (spec_IndexOf.l0 k y0 y1 y2) (spec_IndexOf.l0 (k + 1) y0 y1 y2))
 | 0 => fun _ _ _ r h => by simp [spec_IndexOf.l0] at h
 | k + 1 => by
  have ih0 := spec_IndexOf.mono_l k
  ·intro y0 y1 y2; unfold spec_IndexOf.l0; exact Lm1 ih0
theorem spec_IndexOf.mono : ∀ a0 a1 k, LeO (spec_IndexOf.f k a0 a1) (spec_IndexOf.f (k + 1) a0 a1) := by
 intro a0 a1 k
 have ih0 := spec_IndexOf.mono_l k
 unfold spec_IndexOf.f
 exact Lm1 ih0
theorem spec_IndexOf.calls (k : Nat) (A0 : Option Addr) (c0 : Nat) (l0 : List ByteArray) (a1 : ByteArray) (r : Int) (w : World) (hr0 : Kd.C Kd.string w A0 l0.length l0) (hc0 : l0.length ≤ c0) (h : spec_IndexOf.f k l0 a1 = some r) :
  Calls Try.prog 79 #[.slice A0 l0.length c0, .string a1] w fun e w' => e = .returned (.int .i64 r) ∧ Drawn0 w w' := by
 have HR0 := Qa hr0
 have HC0 := Qa hc0
 clear hr0 hc0
 have H : (spec_IndexOf.l0 k l0 a1 0) = some r := h
 clear h
 have H' := Qa H
 clear H
 go_enter Try.func79, Try.ntmps79
 go_wp2
 go_loopg [5] k (fun kq v5 w' => ∃ (x5_1 : Int), v5 = .int .i64 x5_1 ∧ Qf (spec_IndexOf.l0 kq l0 a1 x5_1 = some r) ∧ Qf (kq ≤ k) ∧ Drawn0 w w')
 case atStart => exact ⟨(0), Zf, H', ⟨Nat.le_refl _⟩, by repeat (first | exact Qi _ | apply Qj)⟩
 case round =>
  clear H'; (try clear p2)
  obtain ⟨x5_1, rfl, HA, HK1, ⟨m1, rfl⟩⟩ := hrel; cases gk with
  | zero => exact absurd HA.out (by simp [spec_IndexOf.l0])
  | succ k1 =>
   have H := HA.out; clear HA; simp only [spec_IndexOf.l0] at H; by_cases c3 : x5_1 < (l0.length : Int)
   ·rw [if_pos c3] at H; replace c3 := decide_eq_true c3; by_cases c4 : 0 ≤ x5_1
    ·rw [if_pos c4] at H; replace c4 := decide_eq_true c4; by_cases c5 : (rdOf ByteArray.empty l0 x5_1).toList = a1.toList
     ·rw [if_pos c5] at H; have c5b0 := beq_iff_eq.mpr c5; have c5b1 := bne_eq_false_iff_eq.mpr c5; clear c5; obtain rfl := Option.some.inj H; have p26 : 0 ≤ (x5_1 : Int) := Da; have q26 : x5_1 < (l0.length : Int) := Da; obtain ⟨ad26, e26, hx26_0⟩ := Kd.at_string HR0.out x5_1 p26 q26; cases e26
      replace p26 := eq_true p26; replace q26 := eq_true q26; go_wp2; go_ret; exact ⟨by first | rfl | (simp; done) | (simp [*]; done), by repeat (first | exact Qi _ | apply Qj)⟩
     ·rw [if_neg c5] at H; have c5b0 := beq_eq_false_iff_ne.mpr c5; have c5b1 := bne_iff_ne.mpr c5; have H' := Qa H; clear H; have p26 : 0 ≤ (x5_1 : Int) := Da; have q26 : x5_1 < (l0.length : Int) := Da; obtain ⟨ad26, e26, hx26_0⟩ := Kd.at_string HR0.out x5_1 p26 q26; cases e26
      replace p26 := eq_true p26; replace q26 := eq_true q26; go_wp2; go_roundg k1
      case measure => have := HK1.out; omega
      case rel => exact ⟨(Qg (x5_1 + 1)), Zf, H', ⟨by have := HK1.out; omega⟩, by repeat (first | exact Qi _ | apply Qj)⟩
    ·rw [if_neg c4] at H; exact absurd H (by simp)
   ·rw [if_neg c3] at H; replace c3 := decide_eq_false c3; obtain rfl := Option.some.inj H; go_wp2; go_ret; exact ⟨by first | rfl | (simp; done) | (simp [*]; done), by repeat (first | exact Qi _ | apply Qj)⟩
def spec_AreVars.l0 : Nat → List ByteArray → Int → Option (Bool)
 | 0, _, _ => none
 | k + 1, x0, x3 => if x3 < (x0.length : Int) then (if 0 ≤ x3 then ((spec_IsName.f k (rdOf ByteArray.empty x0 x3)).bind fun t33 => (if t33 = true then ((spec_IndexOf.f k x0 (rdOf ByteArray.empty x0 x3)).bind fun t30 => (if t30 = x3 then (spec_AreVars.l0 k x0 (Qg (x3 + 1))) else (some false))) else (some false))) else (none)) else ((spec_l1In.f (x0.length : Int) 1 4).bind fun t34 => (some t34))
def spec_AreVars.f (k : Nat) (l0 : List ByteArray) : Option (Bool) := spec_AreVars.l0 k l0 0
theorem spec_AreVars.mono_l : ∀ k, (∀ y0 y1, LeO (spec_AreVars.l0 k y0 y1) (spec_AreVars.l0 (k + 1) y0 y1))
 | 0 => fun _ _ r h => by simp [spec_AreVars.l0] at h
 | k + 1 => by
  have ih0 := spec_AreVars.mono_l k
  ·intro y0 y1; unfold spec_AreVars.l0; exact Lm3 ih0 spec_IndexOf.mono spec_IsName.mono
theorem spec_AreVars.mono : ∀ a0 k, LeO (spec_AreVars.f k a0) (spec_AreVars.f (k + 1) a0) := by
 intro a0 k
 have ih0 := spec_AreVars.mono_l k
 unfold spec_AreVars.f
 exact Lm3 ih0 spec_IndexOf.mono spec_IsName.mono
theorem spec_AreVars.calls (k : Nat) (A0 : Option Addr) (c0 : Nat) (l0 : List ByteArray) (r : Bool) (w : World) (hr0 : Kd.C Kd.string w A0 l0.length l0) (hc0 : l0.length ≤ c0) (h : spec_AreVars.f k l0 = some r) :
  Calls Try.prog 43 #[.slice A0 l0.length c0] w fun e w' => e = .returned (.bool r) ∧ Drawn0 w w' := by
 have HR0 := Qa hr0
 have HC0 := Qa hc0
 clear hr0 hc0
 have H : (spec_AreVars.l0 k l0 0) = some r := h
 clear h
 have H' := Qa H
 clear H
 go_enter Try.func43, Try.ntmps43
 go_wp2
 go_loopg [3] k (fun kq v3 w' => ∃ (x3_1 : Int), v3 = .int .i64 x3_1 ∧ Qf (spec_AreVars.l0 kq l0 x3_1 = some r) ∧ Qf (kq ≤ k) ∧ Drawn0 w w')
 case atStart => exact ⟨(0), Zf, H', ⟨Nat.le_refl _⟩, by repeat (first | exact Qi _ | apply Qj)⟩
 case round =>
  clear H'; obtain ⟨x3_1, rfl, HA, HK1, ⟨m1, rfl⟩⟩ := hrel; cases gk with
  | zero => exact absurd HA.out (by simp [spec_AreVars.l0])
  | succ k1 =>
   have H := HA.out; clear HA; simp only [spec_AreVars.l0] at H; by_cases c2 : x3_1 < (l0.length : Int)
   ·rw [if_pos c2] at H; replace c2 := decide_eq_true c2; by_cases c3 : 0 ≤ x3_1
    ·rw [if_pos c3] at H; replace c3 := decide_eq_true c3; obtain ⟨t33, A4, H⟩ := Ob H; (try dsimp only at H)
     by_cases c5 : t33 = true
     ·subst c5; rw [if_pos rfl] at H; obtain ⟨t30, A6, H⟩ := Ob H; (try dsimp only at H)
      by_cases c7 : t30 = x3_1
      ·rw [if_pos c7] at H; have c7b0 := beq_iff_eq.mpr c7; have c7b1 := bne_eq_false_iff_eq.mpr c7; clear c7; have H' := Qa H; clear H; have p24 : 0 ≤ (x3_1 : Int) := Da; have q24 : x3_1 < (l0.length : Int) := Da; obtain ⟨ad24, e24, hx24_0⟩ := Kd.at_string HR0.out x3_1 p24 q24; cases e24
       replace p24 := eq_true p24; replace q24 := eq_true q24; go_wp2_with (first | ((with_reducible refine Qc (f := 78) rfl ?_); refine Gl 14 Try.func78 #[.string (rdOf ByteArray.empty l0 x3_1)] ?_; (with_reducible refine (spec_IsName.calls k1 (rdOf ByteArray.empty l0 x3_1) true _ A4.out).mono ?_); rintro e w' ⟨rfl, ⟨nd, rfl⟩⟩; refine ⟨_, rfl, ?_⟩; have p25 : 0 ≤ (x3_1 : Int) := Da; have q25 : x3_1 < (l0.length : Int) := Da; obtain ⟨ad25, e25, hx25_0⟩ := Kd.at_string HR0.out x3_1 p25 q25; obtain rfl : ad24 = ad25 := (by injection e25); replace p25 := eq_true p25; replace q25 := eq_true q25) | (go_at_call 79; (with_reducible refine (spec_IndexOf.calls k1 _ _ l0 (rdOf ByteArray.empty l0 x3_1) t30 _ ?_ ?_ A6.out).mono ?_); exact Bc HR0.out; exact HC0.out; rintro e w' ⟨rfl, ⟨nd, rfl⟩⟩)); go_roundg k1
       case measure => have := HK1.out; omega
       case rel => exact ⟨(Qg (x3_1 + 1)), Zf, H', ⟨by have := HK1.out; omega⟩, by repeat (first | exact Qi _ | apply Qj)⟩
      ·rw [if_neg c7] at H; have c7b0 := beq_eq_false_iff_ne.mpr c7; have c7b1 := bne_iff_ne.mpr c7; obtain rfl := Option.some.inj H; have p24 : 0 ≤ (x3_1 : Int) := Da; have q24 : x3_1 < (l0.length : Int) := Da; obtain ⟨ad24, e24, hx24_0⟩ := Kd.at_string HR0.out x3_1 p24 q24; cases e24
       replace p24 := eq_true p24; replace q24 := eq_true q24; go_wp2_with (first | ((with_reducible refine Qc (f := 78) rfl ?_); refine Gl 14 Try.func78 #[.string (rdOf ByteArray.empty l0 x3_1)] ?_; (with_reducible refine (spec_IsName.calls k1 (rdOf ByteArray.empty l0 x3_1) true _ A4.out).mono ?_); rintro e w' ⟨rfl, ⟨nd, rfl⟩⟩; refine ⟨_, rfl, ?_⟩; have p25 : 0 ≤ (x3_1 : Int) := Da; have q25 : x3_1 < (l0.length : Int) := Da; obtain ⟨ad25, e25, hx25_0⟩ := Kd.at_string HR0.out x3_1 p25 q25; obtain rfl : ad24 = ad25 := (by injection e25); replace p25 := eq_true p25; replace q25 := eq_true q25) | (go_at_call 79; (with_reducible refine (spec_IndexOf.calls k1 _ _ l0 (rdOf ByteArray.empty l0 x3_1) t30 _ ?_ ?_ A6.out).mono ?_); exact Bc HR0.out; exact HC0.out; rintro e w' ⟨rfl, ⟨nd, rfl⟩⟩)); go_ret; exact ⟨by first | rfl | (simp; done) | (simp [*]; done), by repeat (first | exact Qi _ | apply Qj)⟩
     ·replace c5 := Bool.eq_false_iff.mpr c5; subst c5; rw [if_neg (show ¬ (false = true) by decide)] at H; obtain rfl := Option.some.inj H; have p24 : 0 ≤ (x3_1 : Int) := Da; have q24 : x3_1 < (l0.length : Int) := Da; obtain ⟨ad24, e24, hx24_0⟩ := Kd.at_string HR0.out x3_1 p24 q24; cases e24
      replace p24 := eq_true p24; replace q24 := eq_true q24; go_wp2_with (first | ((with_reducible refine Qc (f := 78) rfl ?_); refine Gl 14 Try.func78 #[.string (rdOf ByteArray.empty l0 x3_1)] ?_; (with_reducible refine (spec_IsName.calls k1 (rdOf ByteArray.empty l0 x3_1) false _ A4.out).mono ?_); rintro e w' ⟨rfl, ⟨nd, rfl⟩⟩; refine ⟨_, rfl, ?_⟩)); go_ret; exact ⟨by first | rfl | (simp; done) | (simp [*]; done), by repeat (first | exact Qi _ | apply Qj)⟩
    ·rw [if_neg c3] at H; exact absurd H (by simp)
   ·rw [if_neg c2] at H; replace c2 := decide_eq_false c2; obtain ⟨t34, A8, H⟩ := Ob H; (try dsimp only at H)
    obtain rfl := Option.some.inj H; go_wp2_with (first | ((with_reducible refine Qc (f := 77) rfl ?_); refine Gl 28 Try.func77 #[.int .i64 (l0.length : Int), .int .i64 1, .int .i64 4] ?_; (with_reducible refine (spec_l1In.calls (l0.length : Int) 1 4 t34 _ A8.out).mono ?_); rintro e w' ⟨rfl, ⟨nd, rfl⟩⟩; refine ⟨_, rfl, ?_⟩)); go_ret; exact ⟨by first | rfl | (simp; done) | (simp [*]; done), by repeat (first | exact Qi _ | apply Qj)⟩
def spec_l11Logic.f (a0 : Int) : Option (ByteArray) := if 0 ≤ a0 then (if a0 ≤ (Qg (a0 + 1)) then (if (Qg (a0 + 1)) ≤ 4 then (some ((⟨#[117, 118, 119, 122]⟩ : ByteArray).extract (a0 : Int).toNat ((Qg (a0 + 1)) : Int).toNat)) else (none)) else (none)) else (none)
theorem spec_l11Logic.calls (a0 : Int) (r : ByteArray) (w : World) (h : spec_l11Logic.f a0 = some r) :
  Calls Try.prog 80 #[.int .i64 a0] w fun e w' => e = .returned (.string r) ∧ Drawn0 w w' := by
 have H : (if 0 ≤ a0 then (if a0 ≤ (Qg (a0 + 1)) then (if (Qg (a0 + 1)) ≤ 4 then (some ((⟨#[117, 118, 119, 122]⟩ : ByteArray).extract (a0 : Int).toNat ((Qg (a0 + 1)) : Int).toNat)) else (none)) else (none)) else (none)) = some r := h
 clear h
 by_cases c2 : 0 ≤ a0
 ·rw [if_pos c2] at H
  have c2b0 := eq_true c2; have c2b1 := decide_eq_true c2; clear c2; by_cases c3 : a0 ≤ (Qg (a0 + 1))
  ·rw [if_pos c3] at H; have c3b0 := eq_true c3; have c3b1 := decide_eq_true c3; by_cases c4 : (Qg (a0 + 1)) ≤ 4
   ·rw [if_pos c4] at H; have c4b0 := eq_true c4; have c4b1 := decide_eq_true c4; obtain rfl := Option.some.inj H; go_enter Try.func80, Try.ntmps80; go_wp2; go_ret; exact ⟨by first | rfl | (simp; done) | (simp [*]; done), by repeat (first | exact Qi _ | apply Qj)⟩
   ·rw [if_neg c4] at H; exact absurd H (by simp)
  ·rw [if_neg c3] at H; exact absurd H (by simp)
 ·rw [if_neg c2] at H
  exact absurd H (by simp)
end Go.Proofs.Ytoljagpjejpmpaa.PFnExactParseFormula
