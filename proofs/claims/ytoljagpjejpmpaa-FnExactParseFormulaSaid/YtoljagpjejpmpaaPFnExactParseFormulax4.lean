/- A part of the walk through the printed functions; no condition. -/
import Derived.Test.YtoljagpjejpmpaaXAuto
import Derived.Test.YtoljagpjejpmpaaPFnExactParseFormulax0
import Derived.Test.YtoljagpjejpmpaaPFnExactParseFormulax2
import Derived.Test.YtoljagpjejpmpaaPFnExactParseFormulax3
namespace Go.Proofs.Ytoljagpjejpmpaa.PFnExactParseFormula
open Go.RowKit Go.Proofs.YtoljagpjejpmpaaW.PrintWords Go.Proofs.YtoljagpjejpmpaaW.PrintLast Go.Proofs.YtoljagpjejpmpaaW.PrintMore
attribute [local go_sem] max2_int min2_int max_two min_two max_three min_three max_four min_four
set_option maxHeartbeats 32000000
set_option maxRecDepth 100000
attribute [local irreducible] Go.World.setCell
set_option linter.unusedVariables false
set_option linter.unusedSimpArgs false
open Go.RowKit renaming wrap64 → Qg
def impl_IndexOf.f (k : Nat) (l0 : List ByteArray) (a1 : ByteArray) : Option (Int) := (slices_Index_string_string.f k l0 a1).bind fun t11 => (some t11)
theorem impl_IndexOf.mono : ∀ a0 a1 k, LeO (impl_IndexOf.f k a0 a1) (impl_IndexOf.f (k + 1) a0 a1) := by
 intro a0 a1 k
 unfold impl_IndexOf.f
 exact Lm1 slices_Index_string_string.mono
theorem impl_IndexOf.calls (k : Nat) (A0 : Option Addr) (c0 : Nat) (l0 : List ByteArray) (a1 : ByteArray) (r : Int) (w : World) (hr0 : Kd.C Kd.string w A0 l0.length l0) (hc0 : l0.length ≤ c0) (h : impl_IndexOf.f k l0 a1 = some r) :
  Calls Try.prog 82 #[.slice A0 l0.length c0, .string a1] w fun e w' => e = .returned (.int .i64 r) ∧ Drawn0 w w' := by
 have HR0 := Aside0.mk hr0
 have HC0 := Aside0.mk hc0
 clear hr0 hc0
 have H : ((slices_Index_string_string.f k l0 a1).bind fun t11 => (some t11)) = some r := h
 clear h
 obtain ⟨t11, A3, H⟩ := Ob H
 (try dsimp only at H)
 obtain rfl := Option.some.inj H
 go_enter Try.func82, Try.ntmps82
 go_wp2_with (first | ((with_reducible refine gate_callee (f := 109) rfl ?_); refine Gl 7 Try.func109 #[.slice A0 l0.length c0, .string a1] ?_; (with_reducible refine (slices_Index_string_string.calls k _ _ l0 a1 t11 _ ?_ ?_ A3.out).mono ?_); exact Bc HR0.out; exact HC0.out; rintro e w' ⟨rfl, ⟨nd, rfl⟩⟩; refine ⟨_, rfl, ?_⟩))
 go_ret
 exact ⟨by first | rfl | (simp; done) | (simp [*]; done), by repeat (first | exact Drawn0.refl _ | apply Drawn0.step)⟩
def impl_AreVars.l0 : Nat → List ByteArray → List ByteArray → Int → Int → Option (Bool)
 | 0, _, _, _, _ => none
 | k + 1, x0, x5, x6, x7 => if x7 < x6 then (if 0 ≤ x7 then (if x7 < (x5.length : Int) then ((impl_IsName.f k (rdOf ByteArray.empty x5 x7)).bind fun t13 => (if t13 = true then ((impl_IndexOf.f k x0 (rdOf ByteArray.empty x5 x7)).bind fun t12 => (if t12 = x7 then (impl_AreVars.l0 k x0 x5 x6 (Qg (x7 + 1))) else (some false))) else (some false))) else (none)) else (none)) else ((impl_within.f (x0.length : Int) 1 4).bind fun t14 => (some t14))
def impl_AreVars.f (k : Nat) (l0 : List ByteArray) : Option (Bool) := impl_AreVars.l0 k l0 l0 (l0.length : Int) 0
theorem impl_AreVars.mono_l : ∀ k, (∀ y0 y1 y2 y3, LeO (impl_AreVars.l0 k y0 y1 y2 y3) (impl_AreVars.l0 (k + 1) y0 y1 y2 y3))
 | 0 => fun _ _ _ _ r h => by simp [impl_AreVars.l0] at h
 | k + 1 => by
  have ih0 := impl_AreVars.mono_l k
  ·intro y0 y1 y2 y3; unfold impl_AreVars.l0; exact Lm3 ih0 impl_IndexOf.mono impl_IsName.mono
theorem impl_AreVars.mono : ∀ a0 k, LeO (impl_AreVars.f k a0) (impl_AreVars.f (k + 1) a0) := by
 intro a0 k
 have ih0 := impl_AreVars.mono_l k
 unfold impl_AreVars.f
 exact Lm3 ih0 impl_IndexOf.mono impl_IsName.mono
theorem impl_AreVars.calls (k : Nat) (A0 : Option Addr) (c0 : Nat) (l0 : List ByteArray) (r : Bool) (w : World) (hr0 : Kd.C Kd.string w A0 l0.length l0) (hc0 : l0.length ≤ c0) (h : impl_AreVars.f k l0 = some r) :
  Calls Try.prog 46 #[.slice A0 l0.length c0] w fun e w' => e = .returned (.bool r) ∧ Drawn0 w w' := by
 have HR0 := Aside0.mk hr0
 have HC0 := Aside0.mk hc0
 clear hr0 hc0
 have H : (impl_AreVars.l0 k l0 l0 (l0.length : Int) 0) = some r := h
 clear h
 have H' := Aside0.mk H
 clear H
 go_enter Try.func46, Try.ntmps46
 go_wp2
 go_loopg [7] k (fun kq v7 w' => ∃ (x7_1 : Int), v7 = .int .i64 x7_1 ∧ Aside0 (impl_AreVars.l0 kq l0 l0 (l0.length : Int) x7_1 = some r) ∧ Aside0 (kq ≤ k) ∧ Drawn0 w w')
 case atStart => exact ⟨(0), Zf, H', ⟨Nat.le_refl _⟩, by repeat (first | exact Drawn0.refl _ | apply Drawn0.step)⟩
 case round =>
  clear H'; obtain ⟨x7_1, rfl, HA, HK1, ⟨m1, rfl⟩⟩ := hrel; cases gk with
  | zero => exact absurd HA.out (by simp [impl_AreVars.l0])
  | succ k1 =>
   have H := HA.out; clear HA; simp only [impl_AreVars.l0] at H; by_cases c2 : x7_1 < (l0.length : Int)
   ·rw [if_pos c2] at H; replace c2 := decide_eq_true c2; by_cases c3 : 0 ≤ x7_1
    ·rw [if_pos c3] at H; replace c3 := decide_eq_true c3; by_cases c4 : x7_1 < (l0.length : Int)
     ·rw [if_pos c4] at H; replace c4 := decide_eq_true c4; obtain ⟨t13, A5, H⟩ := Ob H; (try dsimp only at H)
      by_cases c6 : t13 = true
      ·subst c6; rw [if_pos rfl] at H; obtain ⟨t12, A7, H⟩ := Ob H; (try dsimp only at H)
       by_cases c8 : t12 = x7_1
       ·rw [if_pos c8] at H; have c8b0 := beq_iff_eq.mpr c8; have c8b1 := bne_eq_false_iff_eq.mpr c8; clear c8; have H' := Aside0.mk H; clear H; have p10 : 0 ≤ (x7_1 : Int) := Da; have q10 : x7_1 < (l0.length : Int) := Da; obtain ⟨ad10, e10, hx10_0⟩ := Kd.at_string HR0.out x7_1 p10 q10; cases e10
        replace p10 := eq_true p10; replace q10 := eq_true q10; go_wp2_with (first | ((with_reducible refine gate_callee (f := 81) rfl ?_); refine Gl 13 Try.func81 #[.string (rdOf ByteArray.empty l0 x7_1)] ?_; (with_reducible refine (impl_IsName.calls k1 (rdOf ByteArray.empty l0 x7_1) true _ A5.out).mono ?_); rintro e w' ⟨rfl, ⟨nd, rfl⟩⟩; refine ⟨_, rfl, ?_⟩) | (go_at_call 82; (with_reducible refine (impl_IndexOf.calls k1 _ _ l0 (rdOf ByteArray.empty l0 x7_1) t12 _ ?_ ?_ A7.out).mono ?_); exact Bc HR0.out; exact HC0.out; rintro e w' ⟨rfl, ⟨nd, rfl⟩⟩)); go_roundg k1
        case measure => have := HK1.out; omega
        case rel => exact ⟨(Qg (x7_1 + 1)), Zf, H', ⟨by have := HK1.out; omega⟩, by repeat (first | exact Drawn0.refl _ | apply Drawn0.step)⟩
       ·rw [if_neg c8] at H; have c8b0 := beq_eq_false_iff_ne.mpr c8; have c8b1 := bne_iff_ne.mpr c8; obtain rfl := Option.some.inj H; have p10 : 0 ≤ (x7_1 : Int) := Da; have q10 : x7_1 < (l0.length : Int) := Da; obtain ⟨ad10, e10, hx10_0⟩ := Kd.at_string HR0.out x7_1 p10 q10; cases e10
        replace p10 := eq_true p10; replace q10 := eq_true q10; go_wp2_with (first | ((with_reducible refine gate_callee (f := 81) rfl ?_); refine Gl 13 Try.func81 #[.string (rdOf ByteArray.empty l0 x7_1)] ?_; (with_reducible refine (impl_IsName.calls k1 (rdOf ByteArray.empty l0 x7_1) true _ A5.out).mono ?_); rintro e w' ⟨rfl, ⟨nd, rfl⟩⟩; refine ⟨_, rfl, ?_⟩) | (go_at_call 82; (with_reducible refine (impl_IndexOf.calls k1 _ _ l0 (rdOf ByteArray.empty l0 x7_1) t12 _ ?_ ?_ A7.out).mono ?_); exact Bc HR0.out; exact HC0.out; rintro e w' ⟨rfl, ⟨nd, rfl⟩⟩)); go_ret; exact ⟨by first | rfl | (simp; done) | (simp [*]; done), by repeat (first | exact Drawn0.refl _ | apply Drawn0.step)⟩
      ·replace c6 := Bool.eq_false_iff.mpr c6; subst c6; rw [if_neg (show ¬ (false = true) by decide)] at H; obtain rfl := Option.some.inj H; have p10 : 0 ≤ (x7_1 : Int) := Da; have q10 : x7_1 < (l0.length : Int) := Da; obtain ⟨ad10, e10, hx10_0⟩ := Kd.at_string HR0.out x7_1 p10 q10; cases e10
       replace p10 := eq_true p10; replace q10 := eq_true q10; go_wp2_with (first | ((with_reducible refine gate_callee (f := 81) rfl ?_); refine Gl 13 Try.func81 #[.string (rdOf ByteArray.empty l0 x7_1)] ?_; (with_reducible refine (impl_IsName.calls k1 (rdOf ByteArray.empty l0 x7_1) false _ A5.out).mono ?_); rintro e w' ⟨rfl, ⟨nd, rfl⟩⟩; refine ⟨_, rfl, ?_⟩)); go_ret; exact ⟨by first | rfl | (simp; done) | (simp [*]; done), by repeat (first | exact Drawn0.refl _ | apply Drawn0.step)⟩
     ·rw [if_neg c4] at H; exact absurd H (by simp)
    ·rw [if_neg c3] at H; exact absurd H (by simp)
   ·rw [if_neg c2] at H; replace c2 := decide_eq_false c2; obtain ⟨t14, A9, H⟩ := Ob H; (try dsimp only at H)
    obtain rfl := Option.some.inj H; go_wp2_with (first | ((with_reducible refine gate_callee (f := 66) rfl ?_); refine Gl 25 Try.func66 #[.int .i64 (l0.length : Int), .int .i64 1, .int .i64 4] ?_; (with_reducible refine (impl_within.calls (l0.length : Int) 1 4 t14 _ A9.out).mono ?_); rintro e w' ⟨rfl, ⟨nd, rfl⟩⟩; refine ⟨_, rfl, ?_⟩)); go_ret; exact ⟨by first | rfl | (simp; done) | (simp [*]; done), by repeat (first | exact Drawn0.refl _ | apply Drawn0.step)⟩
def impl_logicName.f (a0 : Int) : Option (ByteArray) := if 0 ≤ a0 then (if a0 ≤ (Qg (a0 + 1)) then (if (Qg (a0 + 1)) ≤ 4 then (some ((⟨#[117, 118, 119, 122]⟩ : ByteArray).extract (a0 : Int).toNat ((Qg (a0 + 1)) : Int).toNat)) else (none)) else (none)) else (none)
theorem impl_logicName.calls (a0 : Int) (r : ByteArray) (w : World) (h : impl_logicName.f a0 = some r) :
  Calls Try.prog 84 #[.int .i64 a0] w fun e w' => e = .returned (.string r) ∧ Drawn0 w w' := by
 have H : (if 0 ≤ a0 then (if a0 ≤ (Qg (a0 + 1)) then (if (Qg (a0 + 1)) ≤ 4 then (some ((⟨#[117, 118, 119, 122]⟩ : ByteArray).extract (a0 : Int).toNat ((Qg (a0 + 1)) : Int).toNat)) else (none)) else (none)) else (none)) = some r := h
 clear h
 by_cases c2 : 0 ≤ a0
 ·rw [if_pos c2] at H
  have c2b0 := eq_true c2; have c2b1 := decide_eq_true c2; clear c2; by_cases c3 : a0 ≤ (Qg (a0 + 1))
  ·rw [if_pos c3] at H; have c3b0 := eq_true c3; have c3b1 := decide_eq_true c3; by_cases c4 : (Qg (a0 + 1)) ≤ 4
   ·rw [if_pos c4] at H; have c4b0 := eq_true c4; have c4b1 := decide_eq_true c4; obtain rfl := Option.some.inj H; go_enter Try.func84, Try.ntmps84; go_wp2; go_ret; exact ⟨by first | rfl | (simp; done) | (simp [*]; done), by repeat (first | exact Drawn0.refl _ | apply Drawn0.step)⟩
   ·rw [if_neg c4] at H; exact absurd H (by simp)
  ·rw [if_neg c3] at H; exact absurd H (by simp)
 ·rw [if_neg c2] at H
  exact absurd H (by simp)
end Go.Proofs.Ytoljagpjejpmpaa.PFnExactParseFormula
