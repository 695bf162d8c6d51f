/- A part of the walk through the printed functions; no condition. -/
import Derived.Test.YtndkkpjofddfjaaGreatDoorXAuto
import Derived.Test.YtndkkpjofddfjaaGreatDoorPFnExactParseProgramx0
import Derived.Test.YtndkkpjofddfjaaGreatDoorPFnExactParseProgramx8
namespace Go.Proofs.YtndkkpjofddfjaaGreatDoor.PFnExactParseProgram
open Go.RowKit Go.Proofs.YtndkkpjofddfjaaGreatDoorW.PrintWords Go.Proofs.YtndkkpjofddfjaaGreatDoorW.PrintLast Go.Proofs.YtndkkpjofddfjaaGreatDoorW.PrintMore
attribute [local go_sem] max2_int min2_int max_two min_two max_three min_three max_four min_four
set_option maxHeartbeats 32000000
set_option maxRecDepth 100000
attribute [local irreducible] Go.World.setCell
set_option linter.unusedVariables false
set_option linter.unusedSimpArgs false
open Go.Proofs.YtndkkpjofddfjaaGreatDoorW.PrintWords.Aside0 renaming mk → Qa
open Go.RowKit renaming wrap64 → Qb, Below → Qv
open Go.Proofs.YtndkkpjofddfjaaGreatDoorW.PrintWords.Kd renaming R_reads' → Qc, string → Qf, at_string → Qg, C_below → Qk, R_slice → Qr
open Go.Proofs.YtndkkpjofddfjaaGreatDoorW.PrintWords renaming gate_callee → Qd, Aside0 → Qe, gate_dst → Ql
open Go.World renaming block_lt_of_cell? → Qi
open Go.Proofs.Tryz renaming prog → Qm, underlying50 → Qu, underlying52 → Zb
open Go.RowKit.Below renaming refl → Qq
def impl_AreVars.l0 : Nat → List ByteArray → List ByteArray → Int → Int → Option (Bool)
 | 0, _, _, _, _ => none
 | k + 1, x0, x5, x6, x7 => if x7 < x6 then (if 0 ≤ x7 then (if x7 < (x5.length : Int) then ((impl_IsName.f k (rdOf ByteArray.empty x5 x7)).bind fun t43 => (if t43 = true then ((impl_IndexOf.f k x0 (rdOf ByteArray.empty x5 x7)).bind fun t33 => (if t33 = x7 then (impl_AreVars.l0 k x0 x5 x6 (Qb (x7 + 1))) else (some false))) else (some false))) else (none)) else (none)) else ((impl_within.f (x0.length : Int) 1 4).bind fun t44 => (some t44))
def impl_AreVars.f (k : Nat) (l0 : List ByteArray) : Option (Bool) := impl_AreVars.l0 k l0 l0 (l0.length : Int) 0
theorem impl_AreVars.mono_l : ∀ k, (∀ y0 y1 y2 y3, LeO (impl_AreVars.l0 k y0 y1 y2 y3) (impl_AreVars.l0 (k + 1) y0 y1 y2 y3))
 | 0 => fun _ _ _ _ r h => by simp [impl_AreVars.l0] at h
 | k + 1 => by
  have ih0 := impl_AreVars.mono_l k
  ·intro y0 y1 y2 y3; unfold impl_AreVars.l0; exact Lm3 ih0 impl_IndexOf.mono impl_IsName.mono
theorem impl_AreVars.mono : ∀ a0 k, LeO (impl_AreVars.f k a0) (impl_AreVars.f (k + 1) a0) := by
 intro a0 k
 have ih0 := impl_AreVars.mono_l k
 unfold impl_AreVars.f
 exact Lm3 ih0 impl_IndexOf.mono impl_IsName.mono
theorem impl_AreVars.calls (k : Nat) (A0 : Option Addr) (c0 : Nat) (l0 : List ByteArray) (r : Bool) (w : World) (hr0 : Kd.C Qf w A0 l0.length l0) (hc0 : l0.length ≤ c0) (h : impl_AreVars.f k l0 = some r) :
  Calls Qm 52 #[.slice A0 l0.length c0] w fun e w' => e = .returned (.bool r) ∧ Drawn0 w w' := by
 have HR0 := Qa hr0
 have HC0 := Qa hc0
 clear hr0 hc0
 have H : (impl_AreVars.l0 k l0 l0 (l0.length : Int) 0) = some r := h
 clear h
 have H' := Qa H
 clear H
 go_enter Tryz.func52, Tryz.ntmps52
 go_wp2
 go_loopg [7] k (fun kq v7 w' => ∃ (x7_1 : Int), v7 = .int .i64 x7_1 ∧ Qe (impl_AreVars.l0 kq l0 l0 (l0.length : Int) x7_1 = some r) ∧ Qe (kq ≤ k) ∧ Drawn0 w w')
 case atStart => exact ⟨(0), Zf, H', ⟨Nat.le_refl _⟩, by repeat (first | exact Drawn0.refl _ | apply Drawn0.step)⟩
 case round =>
  clear H'; obtain ⟨x7_1, rfl, HA, HK1, ⟨m1, rfl⟩⟩ := hrel; cases gk with
  | zero => exact absurd HA.out (by simp [impl_AreVars.l0])
  | succ k1 =>
   have H := HA.out; clear HA; simp only [impl_AreVars.l0] at H; by_cases c2 : x7_1 < (l0.length : Int)
   ·rw [if_pos c2] at H; replace c2 := decide_eq_true c2; by_cases c3 : 0 ≤ x7_1
    ·rw [if_pos c3] at H; replace c3 := decide_eq_true c3; by_cases c4 : x7_1 < (l0.length : Int)
     ·rw [if_pos c4] at H; replace c4 := decide_eq_true c4; obtain ⟨t43, A5, H⟩ := Ob H; (try dsimp only at H)
      by_cases c6 : t43 = true
      ·subst c6; rw [if_pos rfl] at H; obtain ⟨t33, A7, H⟩ := Ob H; (try dsimp only at H)
       by_cases c8 : t33 = x7_1
       ·rw [if_pos c8] at H; have c8b0 := beq_iff_eq.mpr c8; have c8b1 := bne_eq_false_iff_eq.mpr c8; clear c8; have H' := Qa H; clear H; have p24 : 0 ≤ (x7_1 : Int) := Da; have q24 : x7_1 < (l0.length : Int) := Da; obtain ⟨ad24, e24, hx24_0⟩ := Qg HR0.out x7_1 p24 q24; cases e24
        replace p24 := eq_true p24; replace q24 := eq_true q24; go_wp2_with (first | ((with_reducible refine Qd (f := 74) rfl ?_); refine Gl 13 Tryz.func74 #[.string (rdOf ByteArray.empty l0 x7_1)] ?_; (with_reducible refine (impl_IsName.calls k1 (rdOf ByteArray.empty l0 x7_1) true _ A5.out).mono ?_); rintro e w' ⟨rfl, ⟨nd, rfl⟩⟩; refine ⟨_, rfl, ?_⟩) | (go_at_call 87; (with_reducible refine (impl_IndexOf.calls k1 _ _ l0 (rdOf ByteArray.empty l0 x7_1) t33 _ ?side1 ?side2 A7.out).mono ?_); (case side1 => exact Bc HR0.out); (case side2 => exact HC0.out); rintro e w' ⟨rfl, ⟨nd, rfl⟩⟩)); go_roundg k1
        case measure => have := HK1.out; omega
        case rel => exact ⟨(Qb (x7_1 + 1)), Zf, H', ⟨by have := HK1.out; omega⟩, by repeat (first | exact Drawn0.refl _ | apply Drawn0.step)⟩
       ·rw [if_neg c8] at H; have c8b0 := beq_eq_false_iff_ne.mpr c8; have c8b1 := bne_iff_ne.mpr c8; obtain rfl := Option.some.inj H; have p24 : 0 ≤ (x7_1 : Int) := Da; have q24 : x7_1 < (l0.length : Int) := Da; obtain ⟨ad24, e24, hx24_0⟩ := Qg HR0.out x7_1 p24 q24; cases e24
        replace p24 := eq_true p24; replace q24 := eq_true q24; go_wp2_with (first | ((with_reducible refine Qd (f := 74) rfl ?_); refine Gl 13 Tryz.func74 #[.string (rdOf ByteArray.empty l0 x7_1)] ?_; (with_reducible refine (impl_IsName.calls k1 (rdOf ByteArray.empty l0 x7_1) true _ A5.out).mono ?_); rintro e w' ⟨rfl, ⟨nd, rfl⟩⟩; refine ⟨_, rfl, ?_⟩) | (go_at_call 87; (with_reducible refine (impl_IndexOf.calls k1 _ _ l0 (rdOf ByteArray.empty l0 x7_1) t33 _ ?side1 ?side2 A7.out).mono ?_); (case side1 => exact Bc HR0.out); (case side2 => exact HC0.out); rintro e w' ⟨rfl, ⟨nd, rfl⟩⟩)); go_ret; exact ⟨by first | rfl | (simp; done) | (simp [*]; done), by repeat (first | exact Drawn0.refl _ | apply Drawn0.step)⟩
      ·replace c6 := Bool.eq_false_iff.mpr c6; subst c6; rw [if_neg (show ¬ (false = true) by decide)] at H; obtain rfl := Option.some.inj H; have p24 : 0 ≤ (x7_1 : Int) := Da; have q24 : x7_1 < (l0.length : Int) := Da; obtain ⟨ad24, e24, hx24_0⟩ := Qg HR0.out x7_1 p24 q24; cases e24
       replace p24 := eq_true p24; replace q24 := eq_true q24; go_wp2_with (first | ((with_reducible refine Qd (f := 74) rfl ?_); refine Gl 13 Tryz.func74 #[.string (rdOf ByteArray.empty l0 x7_1)] ?_; (with_reducible refine (impl_IsName.calls k1 (rdOf ByteArray.empty l0 x7_1) false _ A5.out).mono ?_); rintro e w' ⟨rfl, ⟨nd, rfl⟩⟩; refine ⟨_, rfl, ?_⟩)); go_ret; exact ⟨by first | rfl | (simp; done) | (simp [*]; done), by repeat (first | exact Drawn0.refl _ | apply Drawn0.step)⟩
     ·rw [if_neg c4] at H; exact absurd H (by simp)
    ·rw [if_neg c3] at H; exact absurd H (by simp)
   ·rw [if_neg c2] at H; replace c2 := decide_eq_false c2; obtain ⟨t44, A9, H⟩ := Ob H; (try dsimp only at H)
    obtain rfl := Option.some.inj H; go_wp2_with (first | ((with_reducible refine Qd (f := 53) rfl ?_); refine Gl 25 Tryz.func53 #[.int .i64 (l0.length : Int), .int .i64 1, .int .i64 4] ?_; (with_reducible refine (impl_within.calls (l0.length : Int) 1 4 t44 _ A9.out).mono ?_); rintro e w' ⟨rfl, ⟨nd, rfl⟩⟩; refine ⟨_, rfl, ?_⟩)); go_ret; exact ⟨by first | rfl | (simp; done) | (simp [*]; done), by repeat (first | exact Drawn0.refl _ | apply Drawn0.step)⟩
def impl_NamesOf.f (a0 : Int) : Option (Int) := (impl_within.f a0 1 12).bind fun t34 => (if t34 = true then ((some (([0, 1, 1, 2, 2, 1, 2, 1, 1, 1, 2, 2] : List Int) : List Int)).bind fun y29 => (if 0 ≤ (Qb (a0 - 1)) then (if (Qb (a0 - 1)) < (y29.length : Int) then (some (rd y29 (Qb (a0 - 1)))) else (none)) else (none))) else (some (-1)))
theorem impl_NamesOf.calls (a0 : Int) (r : Int) (w : World) (h : impl_NamesOf.f a0 = some r) :
  Calls Qm 103 #[.int .i64 a0] w fun e w' => e = .returned (.int .i64 r) ∧ Qv w.heap.size w w' := by
 have HB := Qa (Qq w.heap.size w)
 have H : ((impl_within.f a0 1 12).bind fun t34 => (if t34 = true then ((some (([0, 1, 1, 2, 2, 1, 2, 1, 1, 1, 2, 2] : List Int) : List Int)).bind fun y29 => (if 0 ≤ (Qb (a0 - 1)) then (if (Qb (a0 - 1)) < (y29.length : Int) then (some (rd y29 (Qb (a0 - 1)))) else (none)) else (none))) else (some (-1)))) = some r := h
 clear h
 obtain ⟨t34, A2, H⟩ := Ob H
 (try dsimp only at H)
 by_cases c3 : t34 = true
 ·subst c3
  rw [if_pos rfl] at H; obtain ⟨y29, hy29⟩ : ∃ y_ : List Int, y_ = (([0, 1, 1, 2, 2, 1, 2, 1, 1, 1, 2, 2] : List Int)) := ⟨_, rfl⟩; replace H : (if 0 ≤ (Qb (a0 - 1)) then (if (Qb (a0 - 1)) < (y29.length : Int) then (some (rd y29 (Qb (a0 - 1)))) else (none)) else (none)) = some r := Zh hy29 H; have Ny29 := Qa hy29; clear hy29; obtain ⟨ji4, hji4⟩ : ∃ j_ : Int, (Qb (a0 - 1)) = j_ := ⟨_, rfl⟩; replace H : (if 0 ≤ (ji4) then (if (ji4) < (y29.length : Int) then (some (rd y29 (ji4))) else (none)) else (none)) = some r := by first | (rw [hji4] at H; exact H) | (simp only [hji4] at H ⊢; exact H)
  (try rw [hji4] at A2)
  have hji4w : (IntKind.i64.wrap (a0 - 1)) = ji4 := (i64_w _).trans hji4; by_cases c5 : 0 ≤ (ji4)
  ·rw [if_pos c5] at H; replace c5 := decide_eq_true c5; by_cases c6 : (ji4) < (y29.length : Int)
   ·rw [if_pos c6] at H; replace c6 := decide_eq_true c6; obtain rfl := Option.some.inj H; go_enter Tryz.func103, Tryz.ntmps103; go_wp2_with (first | ((with_reducible refine Qd (f := 53) rfl ?_); refine Gl 4 Tryz.func53 #[.int .i64 a0, .int .i64 1, .int .i64 12] ?_; (with_reducible refine (impl_within.calls a0 1 12 true _ A2.out).mono ?_); rintro e w' ⟨rfl, ⟨nd, rfl⟩⟩; refine ⟨_, rfl, ?_⟩) | ((with_reducible refine Ql (N := 6) rfl ?_); refine Kd.R_lit (Kd.int .i64) _ 3 ?hg (N := 6) ?hd (xs := ([0, 1, 1, 2, 2, 1, 2, 1, 1, 1, 2, 2] : List Int)) (inner := [.int .i64 0, .int .i64 1, .int .i64 1, .int .i64 2, .int .i64 2, .int .i64 1, .int .i64 2, .int .i64 1, .int .i64 1, .int .i64 1, .int .i64 2, .int .i64 2]) (ok := fun _ => True) (okp := fun _ => True) ?hr ?hp (fun _ hk => hk) trivial (Qq _ _) (Nat.le_refl _) (by simp) ?_; (case hd => rfl); (case hg => rfl); (case hr => first | (go_simp; done) | (go_simp; rfl)); (case hp => exact (Reps.one (show Kd.M (Kd.int .i64) _ _ _ 0 [.int .i64 0] from rfl) (Reps.one (show Kd.M (Kd.int .i64) _ _ _ 1 [.int .i64 1] from rfl) (Reps.one (show Kd.M (Kd.int .i64) _ _ _ 1 [.int .i64 1] from rfl) (Reps.one (show Kd.M (Kd.int .i64) _ _ _ 2 [.int .i64 2] from rfl) (Reps.one (show Kd.M (Kd.int .i64) _ _ _ 2 [.int .i64 2] from rfl) (Reps.one (show Kd.M (Kd.int .i64) _ _ _ 1 [.int .i64 1] from rfl) (Reps.one (show Kd.M (Kd.int .i64) _ _ _ 2 [.int .i64 2] from rfl) (Reps.one (show Kd.M (Kd.int .i64) _ _ _ 1 [.int .i64 1] from rfl) (Reps.one (show Kd.M (Kd.int .i64) _ _ _ 1 [.int .i64 1] from rfl) (Reps.one (show Kd.M (Kd.int .i64) _ _ _ 1 [.int .i64 1] from rfl) (Reps.one (show Kd.M (Kd.int .i64) _ _ _ 2 [.int .i64 2] from rfl) (Reps.one (show Kd.M (Kd.int .i64) _ _ _ 2 [.int .i64 2] from rfl) (Reps.none _ _)))))))))))))); intro v53 w7 ho8 hb hg_ hnew_; clear hg_ hnew_; (first | rw [← Ny29.out] at ho8 | (simp only [Int.reduceToNat] at ho8; rw [← Ny29.out] at ho8)); have HO47 := Lw ho8 (Bb0 HB.out); replace HB := Sb (Bb0 HB.out) hb; clear hb ho8; obtain ⟨Ao9, co9, eo9⟩ := Qr HO47.out; subst eo9; have p30 : 0 ≤ ((ji4) : Int) := Da; have q30 : (ji4) < (y29.length : Int) := Da; obtain ⟨ad30, e30, hx30_0⟩ := Kd.at_int (Qc HO47.out).2.2 (ji4) p30 q30; cases e30; replace p30 := eq_true p30; replace q30 := eq_true q30)); go_ret; exact ⟨by first | rfl | (simp [errW_none, errW_some] <;> rfl) | (simp only [← hji4]; first | rfl | (simp [errW_none, errW_some] <;> rfl)) | (simp [*, errW_none, errW_some] <;> rfl), Bb0 HB.out⟩
   ·rw [if_neg c6] at H; exact absurd H (by simp)
  ·rw [if_neg c5] at H; exact absurd H (by simp)
 ·replace c3 := Bool.eq_false_iff.mpr c3
  subst c3; rw [if_neg (show ¬ (false = true) by decide)] at H; obtain rfl := Option.some.inj H; go_enter Tryz.func103, Tryz.ntmps103; go_wp2_with (first | ((with_reducible refine Qd (f := 53) rfl ?_); refine Gl 4 Tryz.func53 #[.int .i64 a0, .int .i64 1, .int .i64 12] ?_; (with_reducible refine (impl_within.calls a0 1 12 false _ A2.out).mono ?_); rintro e w' ⟨rfl, ⟨nd, rfl⟩⟩; refine ⟨_, rfl, ?_⟩)); go_ret; exact ⟨Ze, Bb0 HB.out⟩
def slices_Contains_string_string.f (k : Nat) (l0 : List ByteArray) (a1 : ByteArray) : Option (Bool) := (slices_Index_string_string.f k l0 a1).bind fun t35 => (some (decide (t35 ≥ 0)))
theorem slices_Contains_string_string.mono : ∀ a0 a1 k, LeO (slices_Contains_string_string.f k a0 a1) (slices_Contains_string_string.f (k + 1) a0 a1) := by
 intro a0 a1 k
 unfold slices_Contains_string_string.f
 exact Lm1 slices_Index_string_string.mono
theorem slices_Contains_string_string.calls (k : Nat) (A0 : Option Addr) (c0 : Nat) (l0 : List ByteArray) (a1 : ByteArray) (r : Bool) (w : World) (hr0 : Kd.C Qf w A0 l0.length l0) (hc0 : l0.length ≤ c0) (h : slices_Contains_string_string.f k l0 a1 = some r) :
  Calls Qm 90 #[.slice A0 l0.length c0, .string a1] w fun e w' => e = .returned (.bool r) ∧ Drawn0 w w' := by
 have HR0 := Qa hr0
 have HC0 := Qa hc0
 clear hr0 hc0
 have H : ((slices_Index_string_string.f k l0 a1).bind fun t35 => (some (decide (t35 ≥ 0)))) = some r := h
 clear h
 obtain ⟨t35, A3, H⟩ := Ob H
 (try dsimp only at H)
 obtain rfl := Option.some.inj H
 go_enter Tryz.func90, Tryz.ntmps90
 go_wp2_with (first | ((with_reducible refine Qd (f := 114) rfl ?_); refine Gl 7 Tryz.func114 #[.slice A0 l0.length c0, .string a1] ?_; (with_reducible refine (slices_Index_string_string.calls k _ _ l0 a1 t35 _ ?side1 ?side2 A3.out).mono ?_); (case side1 => exact Bc HR0.out); (case side2 => exact HC0.out); rintro e w' ⟨rfl, ⟨nd, rfl⟩⟩; refine ⟨_, rfl, ?_⟩))
 go_ret
 exact ⟨by first | rfl | (simp; done) | (simp [*]; done), by repeat (first | exact Drawn0.refl _ | apply Drawn0.step)⟩
def impl_IsStmt_1_captured.f (k : Nat) (a0 : ByteArray) (l1_0 : List ByteArray) : Option (Bool) := (slices_Contains_string_string.f k l1_0 a0).bind fun t36 => (some t36)
theorem impl_IsStmt_1_captured.mono : ∀ a0 a1 k, LeO (impl_IsStmt_1_captured.f k a0 a1) (impl_IsStmt_1_captured.f (k + 1) a0 a1) := by
 intro a0 a1 k
 unfold impl_IsStmt_1_captured.f
 exact Lm1 slices_Contains_string_string.mono
theorem impl_IsStmt_1_captured.calls (k : Nat) (a0 : ByteArray) (g1_0 : Nat) (A1_0 : Option Addr) (c1_0 : Nat) (l1_0 : List ByteArray) (r : Bool) (w : World) (hr1_0 : Kd.C Qf w A1_0 l1_0.length l1_0) (hc1_0 : l1_0.length ≤ c1_0) (hq1_0 : w.cell? ⟨g1_0, 0, none⟩ = some (.slice A1_0 l1_0.length c1_0)) (h : impl_IsStmt_1_captured.f k a0 l1_0 = some r) :
  Calls Qm 89 #[.string a0, .pointer (some ⟨g1_0, 0, none⟩)] w fun e w' => e = .returned (.bool r) ∧ Drawn0 w w' := by
 have HR1_0 := Qa hr1_0
 have HC1_0 := Qa hc1_0
 clear hr1_0 hc1_0
 have CAP1_0 := Qa hq1_0
 clear hq1_0
 have H : ((slices_Contains_string_string.f k l1_0 a0).bind fun t36 => (some t36)) = some r := h
 clear h
 obtain ⟨t36, A3, H⟩ := Ob H
 (try dsimp only at H)
 obtain rfl := Option.some.inj H
 have hcpz4_0 : w.cell? ⟨g1_0, 0, none⟩ = some (.slice A1_0 l1_0.length c1_0) := (by first | exact CAP1_0.out | exact (HB.out.cell (Qi w _ CAP1_0.out)).trans CAP1_0.out)
 go_enter Tryz.func89, Tryz.ntmps89
 go_wp2_with (first | ((with_reducible refine Qd (f := 90) rfl ?_); refine Gl 6 Tryz.func90 #[.slice A1_0 l1_0.length c1_0, .string a0] ?_; (with_reducible refine (slices_Contains_string_string.calls k _ _ l1_0 a0 t36 _ ?side1 ?side2 A3.out).mono ?_); (case side1 => exact Bc HR1_0.out); (case side2 => exact HC1_0.out); rintro e w' ⟨rfl, ⟨nd, rfl⟩⟩; refine ⟨_, rfl, ?_⟩))
 go_ret
 exact ⟨by first | rfl | (simp; done) | (simp [*]; done), by repeat (first | exact Drawn0.refl _ | apply Drawn0.step)⟩
def impl_Stmt_hasNames_IsStmt_1.l0 : Nat → Int → List ByteArray → Int → Int → List ByteArray → Option (Bool)
 | 0, _, _, _, _, _ => none
 | k + 1, x5, x15, x16, x17, x32 => if x17 < x16 then (if 0 ≤ x17 then (if x17 < (x15.length : Int) then (if x17 < x5 then ((impl_IsStmt_1_captured.f k (rdOf ByteArray.empty x15 x17) x32).bind fun t45 => (if t45 = true then (if x17 ≥ x5 then (if (rdOf ByteArray.empty x15 x17).toList = ([] : List UInt8) then (impl_Stmt_hasNames_IsStmt_1.l0 k x5 x15 x16 (Qb (x17 + 1)) x32) else (some false)) else (impl_Stmt_hasNames_IsStmt_1.l0 k x5 x15 x16 (Qb (x17 + 1)) x32)) else (some false))) else (if x17 ≥ x5 then (if (rdOf ByteArray.empty x15 x17).toList = ([] : List UInt8) then (impl_Stmt_hasNames_IsStmt_1.l0 k x5 x15 x16 (Qb (x17 + 1)) x32) else (some false)) else (impl_Stmt_hasNames_IsStmt_1.l0 k x5 x15 x16 (Qb (x17 + 1)) x32))) else (none)) else (none)) else (some (decide (x5 ≥ 0)))
def impl_Stmt_hasNames_IsStmt_1.f (k : Nat) (a0_0 : Int) (a0_1 : ByteArray) (a0_2 : ByteArray) (l1_0 : List ByteArray) : Option (Bool) := (impl_NamesOf.f a0_0).bind fun t31 => ((some (([a0_1, a0_2] : List ByteArray) : List ByteArray)).bind fun y25 => (impl_Stmt_hasNames_IsStmt_1.l0 k t31 y25 (y25.length : Int) 0 l1_0))
theorem impl_Stmt_hasNames_IsStmt_1.mono_l : ∀ k, (∀ y0 y1 y2 y3 y4, LeO (impl_Stmt_hasNames_IsStmt_1.l0 k y0 y1 y2 y3 y4) (impl_Stmt_hasNames_IsStmt_1.l0 (k + 1) y0 y1 y2 y3 y4))
 | 0 => fun _ _ _ _ _ r h => by simp [impl_Stmt_hasNames_IsStmt_1.l0] at h
 | k + 1 => by
  have ih0 := impl_Stmt_hasNames_IsStmt_1.mono_l k
  ·intro y0 y1 y2 y3 y4; unfold impl_Stmt_hasNames_IsStmt_1.l0; exact Lm2 ih0 impl_IsStmt_1_captured.mono
theorem impl_Stmt_hasNames_IsStmt_1.mono : ∀ a0 a1 a2 a3 k, LeO (impl_Stmt_hasNames_IsStmt_1.f k a0 a1 a2 a3) (impl_Stmt_hasNames_IsStmt_1.f (k + 1) a0 a1 a2 a3) := by
 intro a0 a1 a2 a3 k
 have ih0 := impl_Stmt_hasNames_IsStmt_1.mono_l k
 unfold impl_Stmt_hasNames_IsStmt_1.f
 exact Lm2 ih0 impl_IsStmt_1_captured.mono
theorem impl_Stmt_hasNames_IsStmt_1.calls (k : Nat) (a0_0 : Int) (a0_1 : ByteArray) (a0_2 : ByteArray) (g1_0 : Nat) (A1_0 : Option Addr) (c1_0 : Nat) (l1_0 : List ByteArray) (r : Bool) (w : World) (hr1_0 : Kd.C Qf w A1_0 l1_0.length l1_0) (hc1_0 : l1_0.length ≤ c1_0) (hq1_0 : w.cell? ⟨g1_0, 0, none⟩ = some (.slice A1_0 l1_0.length c1_0)) (h : impl_Stmt_hasNames_IsStmt_1.f k a0_0 a0_1 a0_2 l1_0 = some r) :
  Calls Qm 73 #[.agg #[.int .i64 a0_0, .string a0_1, .string a0_2], .func (.func 89) #[] #[.pointer (some ⟨g1_0, 0, none⟩)]] w fun e w' => e = .returned (.bool r) ∧ Qv w.heap.size w w' := by
 have hu50 := Qu
 have HR1_0 := Qa hr1_0
 have HC1_0 := Qa hc1_0
 clear hr1_0 hc1_0
 have CAP1_0 := Qa hq1_0
 clear hq1_0
 have HB := Qa (Qq w.heap.size w)
 have H : ((impl_NamesOf.f a0_0).bind fun t31 => ((some (([a0_1, a0_2] : List ByteArray) : List ByteArray)).bind fun y25 => (impl_Stmt_hasNames_IsStmt_1.l0 k t31 y25 (y25.length : Int) 0 l1_0))) = some r := h
 clear h
 obtain ⟨t31, A3, H⟩ := Ob H
 (try dsimp only at H)
 obtain ⟨y25, hy25⟩ : ∃ y_ : List ByteArray, y_ = (([a0_1, a0_2] : List ByteArray)) := ⟨_, rfl⟩
 replace H : (impl_Stmt_hasNames_IsStmt_1.l0 k t31 y25 (y25.length : Int) 0 l1_0) = some r := Zh hy25 H
 have Ny25 := Qa hy25
 clear hy25
 have H' := Qa H
 clear H
 go_enter Tryz.func73, Tryz.ntmps73
 go_wp2_with (first | ((with_reducible refine Ql (N := 2) rfl ?_); refine Bx (N := 2) (cs := #[.int .i64 a0_0, .string a0_1, .string a0_2]) (t := 50) ?_; intro gb26 hg w4 hbox hb; have BK26 := Qa (hbox); have GW26 := Gs (w := w) hg (Bb0 HB.out); have GE26 := GW26; replace HB := Sb (Bb0 HB.out) hb; clear hb hbox hg; obtain ⟨q5_0, q5_1, q5_2, u5_0, u5_1, u5_2⟩ := Cf3 BK26) | ((with_reducible refine Qd (f := 103) rfl ?_); refine Gl 10 Tryz.func103 #[.int .i64 a0_0] ?_; (with_reducible refine (impl_NamesOf.calls a0_0 t31 _ A3.out).mono ?_); rintro e w6 ⟨rfl, hb⟩; refine ⟨_, rfl, ?_⟩; replace BK26 := Kb BK26 hb; replace HB := Sb (Bb1 HB.out GE26.out) hb; clear hb; obtain ⟨q7_0, q7_1, q7_2, u7_0, u7_1, u7_2⟩ := Cf3 BK26) | ((with_reducible refine Ql (N := 15) rfl ?_); refine Kd.R_lit Qf _ 9 ?hg (N := 15) ?hd (xs := ([a0_1, a0_2] : List ByteArray)) (inner := [.string a0_1, .string a0_2]) (ok := fun _ => True) (okp := fun _ => True) ?hr ?hp (fun _ hk => hk) trivial (Qq _ _) (Nat.le_refl _) (by simp) ?_; (case hd => rfl); (case hg => rfl); (case hr => first | (go_simp; done) | (go_simp; rfl)); (case hp => exact (Reps.one (show Kd.M Qf _ _ _ a0_1 [.string a0_1] from rfl) (Reps.one (show Kd.M Qf _ _ _ a0_2 [.string a0_2] from rfl) (Reps.none _ _)))); intro v55 w8 ho9 hb hg_ hnew_; clear hg_ hnew_; (first | rw [← Ny25.out] at ho9 | (simp only [Int.reduceToNat] at ho9; rw [← Ny25.out] at ho9)); have HO48 := Lw ho9 (Bb1 HB.out GE26.out); replace BK26 := Kb BK26 hb; replace HB := Sb (Bb1 HB.out GE26.out) hb; clear hb ho9; obtain ⟨Ao10, co10, eo10⟩ := Qr HO48.out; subst eo10))
 go_loopg [17] k (fun kq v17 w' => ∃ (x17_1 : Int), v17 = .int .i64 x17_1 ∧ Qe (impl_Stmt_hasNames_IsStmt_1.l0 kq t31 y25 (y25.length : Int) x17_1 l1_0 = some r) ∧ Qe (kq ≤ k) ∧ Qe (Kd.R Qf 9 w' w.heap.size (fun _ => True) (.slice Ao10 y25.length co10) y25) ∧ Qe (w'.heap[gb26]? = some (.cells #[.int .i64 a0_0, .string a0_1, .string a0_2] 50 (0, 0))) ∧ Qe (Qv w.heap.size w w'))
 case atStart => exact ⟨(0), Zf, H', ⟨Nat.le_refl _⟩, ⟨Br HO48.out⟩, ⟨Ba BK26.out⟩, ⟨Bb1 HB.out GE26.out⟩⟩
 case round =>
  clear H'; (try clear c1)
  (try clear q1)
  (try clear p2)
  (try clear c9)
  (try clear c10)
  (try clear q5_0)
  (try clear q5_1)
  (try clear q5_2)
  (try clear q7_0)
  (try clear q7_1)
  (try clear q7_2)
  (try clear u5_0)
  (try clear u5_1)
  (try clear u5_2)
  (try clear u7_0)
  (try clear u7_1)
  (try clear u7_2)
  obtain ⟨x17_1, rfl, HA, HK1, HO_15, BK26, HB⟩ := hrel; cases gk with
  | zero => exact absurd HA.out (by simp [impl_Stmt_hasNames_IsStmt_1.l0])
  | succ k1 =>
   have H := HA.out; clear HA; simp only [impl_Stmt_hasNames_IsStmt_1.l0] at H; by_cases c11 : x17_1 < (y25.length : Int)
   ·rw [if_pos c11] at H; replace c11 := decide_eq_true c11; by_cases c12 : 0 ≤ x17_1
    ·rw [if_pos c12] at H; replace c12 := decide_eq_true c12; by_cases c13 : x17_1 < (y25.length : Int)
     ·rw [if_pos c13] at H; replace c13 := decide_eq_true c13; by_cases c14 : x17_1 < t31
      ·rw [if_pos c14] at H; replace c14 := decide_eq_true c14; obtain ⟨t45, A15, H⟩ := Ob H; (try dsimp only at H)
       by_cases c16 : t45 = true
       ·subst c16; rw [if_pos rfl] at H; by_cases c17 : x17_1 ≥ t31
        ·rw [if_pos c17] at H; replace c17 := decide_eq_true c17; by_cases c18 : (rdOf ByteArray.empty y25 x17_1).toList = ([] : List UInt8)
         ·rw [if_pos c18] at H; have c18b0 := beq_iff_eq.mpr c18; have c18b1 := bne_eq_false_iff_eq.mpr c18; clear c18; have H' := Qa H; clear H; have p21 : 0 ≤ (x17_1 : Int) := Da; have q21 : x17_1 < (y25.length : Int) := Da; obtain ⟨ad21, e21, hx21_0⟩ := Qg (Qc HO_15.out).2.2 x17_1 p21 q21; cases e21
          replace p21 := eq_true p21; replace q21 := eq_true q21; go_wp2_with (first | (go_at_call 89; (with_reducible refine (impl_IsStmt_1_captured.calls k1 (rdOf ByteArray.empty y25 x17_1) g1_0 A1_0 c1_0 l1_0 true _ ?side1 ?side2 ?side3 A15.out).mono ?_); (case side1 => exact Bc (Qk HR1_0.out HB.out)); (case side2 => exact HC1_0.out); (case side3 => first | exact CAP1_0.out | exact (HB.out.cell (Qi w _ CAP1_0.out)).trans CAP1_0.out); rintro e w' ⟨rfl, ⟨nd, rfl⟩⟩)); go_roundg k1
          case measure => have := HK1.out; omega
          case rel => exact ⟨(Qb (x17_1 + 1)), Zf, H', ⟨by have := HK1.out; omega⟩, ⟨Br HO_15.out⟩, ⟨Ba BK26.out⟩, ⟨Bb1 HB.out GE26.out⟩⟩
         ·rw [if_neg c18] at H; have c18b0 := beq_eq_false_iff_ne.mpr c18; have c18b1 := bne_iff_ne.mpr c18; obtain rfl := Option.some.inj H; have p21 : 0 ≤ (x17_1 : Int) := Da; have q21 : x17_1 < (y25.length : Int) := Da; obtain ⟨ad21, e21, hx21_0⟩ := Qg (Qc HO_15.out).2.2 x17_1 p21 q21; cases e21
          replace p21 := eq_true p21; replace q21 := eq_true q21; go_wp2_with (first | (go_at_call 89; (with_reducible refine (impl_IsStmt_1_captured.calls k1 (rdOf ByteArray.empty y25 x17_1) g1_0 A1_0 c1_0 l1_0 true _ ?side1 ?side2 ?side3 A15.out).mono ?_); (case side1 => exact Bc (Qk HR1_0.out HB.out)); (case side2 => exact HC1_0.out); (case side3 => first | exact CAP1_0.out | exact (HB.out.cell (Qi w _ CAP1_0.out)).trans CAP1_0.out); rintro e w' ⟨rfl, ⟨nd, rfl⟩⟩)); go_ret; exact ⟨Ze, Bb1 HB.out GE26.out⟩
        ·rw [if_neg c17] at H; replace c17 := decide_eq_false c17; have H' := Qa H; clear H; have p21 : 0 ≤ (x17_1 : Int) := Da; have q21 : x17_1 < (y25.length : Int) := Da; obtain ⟨ad21, e21, hx21_0⟩ := Qg (Qc HO_15.out).2.2 x17_1 p21 q21; cases e21
         replace p21 := eq_true p21; replace q21 := eq_true q21; go_wp2_with (first | (go_at_call 89; (with_reducible refine (impl_IsStmt_1_captured.calls k1 (rdOf ByteArray.empty y25 x17_1) g1_0 A1_0 c1_0 l1_0 true _ ?side1 ?side2 ?side3 A15.out).mono ?_); (case side1 => exact Bc (Qk HR1_0.out HB.out)); (case side2 => exact HC1_0.out); (case side3 => first | exact CAP1_0.out | exact (HB.out.cell (Qi w _ CAP1_0.out)).trans CAP1_0.out); rintro e w' ⟨rfl, ⟨nd, rfl⟩⟩)); go_roundg k1
         case measure => have := HK1.out; omega
         case rel => exact ⟨(Qb (x17_1 + 1)), Zf, H', ⟨by have := HK1.out; omega⟩, ⟨Br HO_15.out⟩, ⟨Ba BK26.out⟩, ⟨Bb1 HB.out GE26.out⟩⟩
       ·replace c16 := Bool.eq_false_iff.mpr c16; subst c16; rw [if_neg (show ¬ (false = true) by decide)] at H; obtain rfl := Option.some.inj H; have p21 : 0 ≤ (x17_1 : Int) := Da; have q21 : x17_1 < (y25.length : Int) := Da; obtain ⟨ad21, e21, hx21_0⟩ := Qg (Qc HO_15.out).2.2 x17_1 p21 q21; cases e21
        replace p21 := eq_true p21; replace q21 := eq_true q21; go_wp2_with (first | (go_at_call 89; (with_reducible refine (impl_IsStmt_1_captured.calls k1 (rdOf ByteArray.empty y25 x17_1) g1_0 A1_0 c1_0 l1_0 false _ ?side1 ?side2 ?side3 A15.out).mono ?_); (case side1 => exact Bc (Qk HR1_0.out HB.out)); (case side2 => exact HC1_0.out); (case side3 => first | exact CAP1_0.out | exact (HB.out.cell (Qi w _ CAP1_0.out)).trans CAP1_0.out); rintro e w' ⟨rfl, ⟨nd, rfl⟩⟩)); go_ret; exact ⟨Ze, Bb1 HB.out GE26.out⟩
      ·rw [if_neg c14] at H; replace c14 := decide_eq_false c14; by_cases c19 : x17_1 ≥ t31
       ·rw [if_pos c19] at H; replace c19 := decide_eq_true c19; by_cases c20 : (rdOf ByteArray.empty y25 x17_1).toList = ([] : List UInt8)
        ·rw [if_pos c20] at H; have c20b0 := beq_iff_eq.mpr c20; have c20b1 := bne_eq_false_iff_eq.mpr c20; clear c20; have H' := Qa H; clear H; have p21 : 0 ≤ (x17_1 : Int) := Da; have q21 : x17_1 < (y25.length : Int) := Da; obtain ⟨ad21, e21, hx21_0⟩ := Qg (Qc HO_15.out).2.2 x17_1 p21 q21; cases e21
         replace p21 := eq_true p21; replace q21 := eq_true q21; go_wp2; go_roundg k1
         case measure => have := HK1.out; omega
         case rel => exact ⟨(Qb (x17_1 + 1)), Zf, H', ⟨by have := HK1.out; omega⟩, ⟨Br HO_15.out⟩, ⟨Ba BK26.out⟩, ⟨Bb1 HB.out GE26.out⟩⟩
        ·rw [if_neg c20] at H; have c20b0 := beq_eq_false_iff_ne.mpr c20; have c20b1 := bne_iff_ne.mpr c20; obtain rfl := Option.some.inj H; have p21 : 0 ≤ (x17_1 : Int) := Da; have q21 : x17_1 < (y25.length : Int) := Da; obtain ⟨ad21, e21, hx21_0⟩ := Qg (Qc HO_15.out).2.2 x17_1 p21 q21; cases e21
         replace p21 := eq_true p21; replace q21 := eq_true q21; go_wp2; go_ret; exact ⟨Ze, Bb1 HB.out GE26.out⟩
       ·rw [if_neg c19] at H; replace c19 := decide_eq_false c19; have H' := Qa H; clear H; have p21 : 0 ≤ (x17_1 : Int) := Da; have q21 : x17_1 < (y25.length : Int) := Da; obtain ⟨ad21, e21, hx21_0⟩ := Qg (Qc HO_15.out).2.2 x17_1 p21 q21; cases e21
        replace p21 := eq_true p21; replace q21 := eq_true q21; go_wp2; go_roundg k1
        case measure => have := HK1.out; omega
        case rel => exact ⟨(Qb (x17_1 + 1)), Zf, H', ⟨by have := HK1.out; omega⟩, ⟨Br HO_15.out⟩, ⟨Ba BK26.out⟩, ⟨Bb1 HB.out GE26.out⟩⟩
     ·rw [if_neg c13] at H; exact absurd H (by simp)
    ·rw [if_neg c12] at H; exact absurd H (by simp)
   ·rw [if_neg c11] at H; replace c11 := decide_eq_false c11; obtain rfl := Option.some.inj H; go_wp2; go_ret; exact ⟨Ze, Bb1 HB.out GE26.out⟩
def impl_IsStmt.f (k : Nat) (l0 : List ByteArray) (a1_0 : Int) (a1_1 : ByteArray) (a1_2 : ByteArray) : Option (Bool) := (impl_AreVars.f k l0).bind fun t37 => (if t37 = true then ((impl_Stmt_hasNames_IsStmt_1.f k a1_0 a1_1 a1_2 l0).bind fun t38 => (some t38)) else (some false))
theorem impl_IsStmt.mono : ∀ a0 a1 a2 a3 k, LeO (impl_IsStmt.f k a0 a1 a2 a3) (impl_IsStmt.f (k + 1) a0 a1 a2 a3) := by
 intro a0 a1 a2 a3 k
 unfold impl_IsStmt.f
 exact Lm2 impl_AreVars.mono impl_Stmt_hasNames_IsStmt_1.mono
theorem impl_IsStmt.calls (k : Nat) (A0 : Option Addr) (c0 : Nat) (l0 : List ByteArray) (a1_0 : Int) (a1_1 : ByteArray) (a1_2 : ByteArray) (r : Bool) (w : World) (hr0 : Kd.C Qf w A0 l0.length l0) (hc0 : l0.length ≤ c0) (h : impl_IsStmt.f k l0 a1_0 a1_1 a1_2 = some r) :
  Calls Qm 56 #[.slice A0 l0.length c0, .agg #[.int .i64 a1_0, .string a1_1, .string a1_2]] w fun e w' => e = .returned (.bool r) ∧ Qv w.heap.size w w' := by
 have hu50 := Qu
 have HR0 := Qa hr0
 have HC0 := Qa hc0
 clear hr0 hc0
 have HB := Qa (Qq w.heap.size w)
 have H : ((impl_AreVars.f k l0).bind fun t37 => (if t37 = true then ((impl_Stmt_hasNames_IsStmt_1.f k a1_0 a1_1 a1_2 l0).bind fun t38 => (some t38)) else (some false))) = some r := h
 clear h
 obtain ⟨t37, A3, H⟩ := Ob H
 (try dsimp only at H)
 by_cases c4 : t37 = true
 ·subst c4
  rw [if_pos rfl] at H; obtain ⟨t38, A5, H⟩ := Ob H; (try dsimp only at H)
  obtain rfl := Option.some.inj H; go_enter Tryz.func56, Tryz.ntmps56; go_wp2_with (first | ((with_reducible refine Ql (N := 2) rfl ?_); refine Bx (N := 2) (cs := #[.slice A0 l0.length c0]) (t := 22) ?_; intro gb23 hg w6 hbox hb; have BK23 := Qa (hbox); have GW23 := Gs (w := w) hg (Bb0 HB.out); have GE23 := GW23; replace HB := Sb (Bb0 HB.out) hb; clear hb hbox hg) | ((with_reducible refine Ql (N := 3) rfl ?_); refine Bx (N := 3) (cs := #[.int .i64 a1_0, .string a1_1, .string a1_2]) (t := 50) ?_; intro gb27 hg w7 hbox hb; have BK27 := Qa (hbox); have GW27 := Gs (w := w) hg (Bb1 HB.out GE23.out); have GE27 := GW27; replace HB := Sb (Bb1 HB.out GE23.out) hb; have NB23_27 := Nl hg BK23; have NB27_23 := Ng hg BK23; replace BK23 := Kb BK23 hb; clear hb hbox hg; have hnb8 := NB23_27.out; have hnc8 := NB27_23.out; obtain ⟨q9_0, u9_0⟩ := Cf1 BK23) | ((with_reducible refine Qd (f := 52) rfl ?_); refine Gl 6 Tryz.func52 #[.slice A0 l0.length c0] ?_; (with_reducible refine (impl_AreVars.calls k _ _ l0 true _ ?side1 ?side2 A3.out).mono ?_); (case side1 => exact Bc (Qk HR0.out HB.out)); (case side2 => exact HC0.out); rintro e w' ⟨rfl, ⟨nd, rfl⟩⟩; refine ⟨_, rfl, ?_⟩; obtain ⟨q10_0, q10_1, q10_2, u10_0, u10_1, u10_2⟩ := Cf3 BK27) | (go_at_call 73; (with_reducible refine (impl_Stmt_hasNames_IsStmt_1.calls k a1_0 a1_1 a1_2 gb23 A0 c0 l0 t38 _ ?side1 ?side2 ?side3 A5.out).mono ?_); (case side1 => exact Bc (Qk HR0.out (Bb2 HB.out GE23.out GE27.out))); (case side2 => exact HC0.out); (case side3 => exact (blk_cell (g := gb23) (cs := #[.slice A0 l0.length c0]) (t := 22) (Ba BK23.out) 0).trans rfl); rintro e w11 ⟨rfl, hb⟩; replace BK23 := Kb BK23 hb; replace BK27 := Kb BK27 hb; replace HB := Sb (Bb2 HB.out GE23.out GE27.out) hb; clear hb)); go_ret; exact ⟨Ze, Bb2 HB.out GE23.out GE27.out⟩
 ·replace c4 := Bool.eq_false_iff.mpr c4
  subst c4; rw [if_neg (show ¬ (false = true) by decide)] at H; obtain rfl := Option.some.inj H; go_enter Tryz.func56, Tryz.ntmps56; go_wp2_with (first | ((with_reducible refine Ql (N := 2) rfl ?_); refine Bx (N := 2) (cs := #[.slice A0 l0.length c0]) (t := 22) ?_; intro gb23 hg w12 hbox hb; have BK23 := Qa (hbox); have GW23 := Gs (w := w) hg (Bb0 HB.out); have GE23 := GW23; replace HB := Sb (Bb0 HB.out) hb; clear hb hbox hg) | ((with_reducible refine Ql (N := 3) rfl ?_); refine Bx (N := 3) (cs := #[.int .i64 a1_0, .string a1_1, .string a1_2]) (t := 50) ?_; intro gb27 hg w13 hbox hb; have BK27 := Qa (hbox); have GW27 := Gs (w := w) hg (Bb1 HB.out GE23.out); have GE27 := GW27; replace HB := Sb (Bb1 HB.out GE23.out) hb; have NB23_27 := Nl hg BK23; have NB27_23 := Ng hg BK23; replace BK23 := Kb BK23 hb; clear hb hbox hg; have hnb14 := NB23_27.out; have hnc14 := NB27_23.out; obtain ⟨q15_0, u15_0⟩ := Cf1 BK23) | ((with_reducible refine Qd (f := 52) rfl ?_); refine Gl 6 Tryz.func52 #[.slice A0 l0.length c0] ?_; (with_reducible refine (impl_AreVars.calls k _ _ l0 false _ ?side1 ?side2 A3.out).mono ?_); (case side1 => exact Bc (Qk HR0.out HB.out)); (case side2 => exact HC0.out); rintro e w' ⟨rfl, ⟨nd, rfl⟩⟩; refine ⟨_, rfl, ?_⟩)); go_ret; exact ⟨Ze, Bb2 HB.out GE23.out GE27.out⟩
def impl_IsProgram_1_captured.f (k : Nat) (a0_0 : Int) (a0_1 : Int) (a0_2 : Int) (a0_3 : ByteArray) (a0_4 : ByteArray) (l1_0 : List ByteArray) (a1_1 : Int) (l1_2 : List (S52)) : Option (Bool) := (impl_within.f a0_0 0 (Qb (a1_1 - 1))).bind fun t39 => (if t39 = true then ((impl_within.f a0_1 0 (Qb (a1_1 - 1))).bind fun t40 => (if t40 = true then ((impl_IsStmt.f k l1_0 a0_2 a0_3 a0_4).bind fun t41 => (some (!t41))) else (some true))) else (some true))
theorem impl_IsProgram_1_captured.mono : ∀ a0 a1 a2 a3 a4 a5 a6 a7 k, LeO (impl_IsProgram_1_captured.f k a0 a1 a2 a3 a4 a5 a6 a7) (impl_IsProgram_1_captured.f (k + 1) a0 a1 a2 a3 a4 a5 a6 a7) := by
 intro a0 a1 a2 a3 a4 a5 a6 a7 k
 unfold impl_IsProgram_1_captured.f
 exact Lm1 impl_IsStmt.mono
theorem impl_IsProgram_1_captured.calls (k : Nat) (a0_0 : Int) (a0_1 : Int) (a0_2 : Int) (a0_3 : ByteArray) (a0_4 : ByteArray) (g1_0 : Nat) (A1_0 : Option Addr) (c1_0 : Nat) (l1_0 : List ByteArray) (a1_1 : Int) (A1_2 : Option Addr) (c1_2 : Nat) (l1_2 : List (S52)) (r : Bool) (w : World) (hr1_0 : Kd.C Qf w A1_0 l1_0.length l1_0) (hc1_0 : l1_0.length ≤ c1_0) (hr1_2 : Kd.C k52 w A1_2 l1_2.length l1_2) (hc1_2 : l1_2.length ≤ c1_2) (hq1_0 : w.cell? ⟨g1_0, 0, none⟩ = some (.slice A1_0 l1_0.length c1_0)) (hq1_1 : w.cell? ⟨g1_0, 1, none⟩ = some (.int .i64 a1_1)) (hq1_2 : w.cell? ⟨g1_0, 2, none⟩ = some (.slice A1_2 l1_2.length c1_2)) (h : impl_IsProgram_1_captured.f k a0_0 a0_1 a0_2 a0_3 a0_4 l1_0 a1_1 l1_2 = some r) :
  Calls Qm 55 #[.agg #[.int .i64 a0_0, .int .i64 a0_1, .int .i64 a0_2, .string a0_3, .string a0_4], .pointer (some ⟨g1_0, 0, none⟩)] w fun e w' => e = .returned (.bool r) ∧ Qv w.heap.size w w' := by
 have hu52 := Zb
 have hu50 := Qu
 have HR1_0 := Qa hr1_0
 have HC1_0 := Qa hc1_0
 clear hr1_0 hc1_0
 have HR1_2 := Qa hr1_2
 have HC1_2 := Qa hc1_2
 clear hr1_2 hc1_2
 have CAP1_0 := Qa hq1_0
 clear hq1_0
 have CAP1_1 := Qa hq1_1
 clear hq1_1
 have CAP1_2 := Qa hq1_2
 clear hq1_2
 have HB := Qa (Qq w.heap.size w)
 have H : ((impl_within.f a0_0 0 (Qb (a1_1 - 1))).bind fun t39 => (if t39 = true then ((impl_within.f a0_1 0 (Qb (a1_1 - 1))).bind fun t40 => (if t40 = true then ((impl_IsStmt.f k l1_0 a0_2 a0_3 a0_4).bind fun t41 => (some (!t41))) else (some true))) else (some true))) = some r := h
 clear h
 obtain ⟨t39, A3, H⟩ := Ob H
 (try dsimp only at H)
 by_cases c4 : t39 = true
 ·subst c4
  rw [if_pos rfl] at H; obtain ⟨t40, A5, H⟩ := Ob H; (try dsimp only at H)
  by_cases c6 : t40 = true
  ·subst c6; rw [if_pos rfl] at H; obtain ⟨t41, A7, H⟩ := Ob H; (try dsimp only at H)
   obtain rfl := Option.some.inj H; go_enter Tryz.func55, Tryz.ntmps55; go_wp2_with (first | ((with_reducible refine Ql (N := 2) rfl ?_); refine Bx (N := 2) (cs := #[.int .i64 a0_0, .int .i64 a0_1, .int .i64 a0_2, .string a0_3, .string a0_4]) (t := 52) ?_; intro gb28 hg w8 hbox hb; have BK28 := Qa (hbox); have GW28 := Gs (w := w) hg (Bb0 HB.out); have GE28 := GW28; replace HB := Sb (Bb0 HB.out) hb; clear hb hbox hg; obtain ⟨q9_0, q9_1, q9_2, q9_3, q9_4, u9_0, u9_1, u9_2, u9_3, u9_4⟩ := Cf5 BK28; have hcpz10_0 : w8.cell? ⟨g1_0, 0, none⟩ = some (.slice A1_0 l1_0.length c1_0) := (by first | exact CAP1_0.out | exact (HB.out.cell (Qi w _ CAP1_0.out)).trans CAP1_0.out); have hcpz10_1 : w8.cell? ⟨g1_0, 1, none⟩ = some (.int .i64 a1_1) := (by first | exact CAP1_1.out | exact (HB.out.cell (Qi w _ CAP1_1.out)).trans CAP1_1.out); have hcpz10_2 : w8.cell? ⟨g1_0, 2, none⟩ = some (.slice A1_2 l1_2.length c1_2) := (by first | exact CAP1_2.out | exact (HB.out.cell (Qi w _ CAP1_2.out)).trans CAP1_2.out)) | ((with_reducible refine Qd (f := 53) rfl ?_); refine Gl 9 Tryz.func53 #[.int .i64 a0_0, .int .i64 0, .int .i64 (Qb (a1_1 - 1))] ?_; (with_reducible refine (impl_within.calls a0_0 0 (Qb (a1_1 - 1)) true _ A3.out).mono ?_); rintro e w' ⟨rfl, ⟨nd, rfl⟩⟩; refine ⟨_, rfl, ?_⟩) | (go_at_call 53; (with_reducible refine (impl_within.calls a0_1 0 (Qb (a1_1 - 1)) true _ A5.out).mono ?_); rintro e w' ⟨rfl, ⟨nd, rfl⟩⟩) | (go_at_call 56; (with_reducible refine (impl_IsStmt.calls k _ _ l1_0 a0_2 a0_3 a0_4 t41 _ ?side1 ?side2 A7.out).mono ?_); (case side1 => exact Bc (Qk HR1_0.out (Bb1 HB.out GE28.out))); (case side2 => exact HC1_0.out); rintro e w11 ⟨rfl, hb⟩; replace BK28 := Kb BK28 hb; replace HB := Sb (Bb1 HB.out GE28.out) hb; clear hb)); go_ret; exact ⟨Ze, Bb1 HB.out GE28.out⟩
  ·replace c6 := Bool.eq_false_iff.mpr c6; subst c6; rw [if_neg (show ¬ (false = true) by decide)] at H; obtain rfl := Option.some.inj H; go_enter Tryz.func55, Tryz.ntmps55; go_wp2_with (first | ((with_reducible refine Ql (N := 2) rfl ?_); refine Bx (N := 2) (cs := #[.int .i64 a0_0, .int .i64 a0_1, .int .i64 a0_2, .string a0_3, .string a0_4]) (t := 52) ?_; intro gb28 hg w12 hbox hb; have BK28 := Qa (hbox); have GW28 := Gs (w := w) hg (Bb0 HB.out); have GE28 := GW28; replace HB := Sb (Bb0 HB.out) hb; clear hb hbox hg; obtain ⟨q13_0, q13_1, q13_2, q13_3, q13_4, u13_0, u13_1, u13_2, u13_3, u13_4⟩ := Cf5 BK28; have hcpz14_0 : w12.cell? ⟨g1_0, 0, none⟩ = some (.slice A1_0 l1_0.length c1_0) := (by first | exact CAP1_0.out | exact (HB.out.cell (Qi w _ CAP1_0.out)).trans CAP1_0.out); have hcpz14_1 : w12.cell? ⟨g1_0, 1, none⟩ = some (.int .i64 a1_1) := (by first | exact CAP1_1.out | exact (HB.out.cell (Qi w _ CAP1_1.out)).trans CAP1_1.out); have hcpz14_2 : w12.cell? ⟨g1_0, 2, none⟩ = some (.slice A1_2 l1_2.length c1_2) := (by first | exact CAP1_2.out | exact (HB.out.cell (Qi w _ CAP1_2.out)).trans CAP1_2.out)) | ((with_reducible refine Qd (f := 53) rfl ?_); refine Gl 9 Tryz.func53 #[.int .i64 a0_0, .int .i64 0, .int .i64 (Qb (a1_1 - 1))] ?_; (with_reducible refine (impl_within.calls a0_0 0 (Qb (a1_1 - 1)) true _ A3.out).mono ?_); rintro e w' ⟨rfl, ⟨nd, rfl⟩⟩; refine ⟨_, rfl, ?_⟩) | (go_at_call 53; (with_reducible refine (impl_within.calls a0_1 0 (Qb (a1_1 - 1)) false _ A5.out).mono ?_); rintro e w' ⟨rfl, ⟨nd, rfl⟩⟩)); go_ret; exact ⟨Ze, Bb1 HB.out GE28.out⟩
 ·replace c4 := Bool.eq_false_iff.mpr c4
  subst c4; rw [if_neg (show ¬ (false = true) by decide)] at H; obtain rfl := Option.some.inj H; go_enter Tryz.func55, Tryz.ntmps55; go_wp2_with (first | ((with_reducible refine Ql (N := 2) rfl ?_); refine Bx (N := 2) (cs := #[.int .i64 a0_0, .int .i64 a0_1, .int .i64 a0_2, .string a0_3, .string a0_4]) (t := 52) ?_; intro gb28 hg w15 hbox hb; have BK28 := Qa (hbox); have GW28 := Gs (w := w) hg (Bb0 HB.out); have GE28 := GW28; replace HB := Sb (Bb0 HB.out) hb; clear hb hbox hg; obtain ⟨q16_0, q16_1, q16_2, q16_3, q16_4, u16_0, u16_1, u16_2, u16_3, u16_4⟩ := Cf5 BK28; have hcpz17_0 : w15.cell? ⟨g1_0, 0, none⟩ = some (.slice A1_0 l1_0.length c1_0) := (by first | exact CAP1_0.out | exact (HB.out.cell (Qi w _ CAP1_0.out)).trans CAP1_0.out); have hcpz17_1 : w15.cell? ⟨g1_0, 1, none⟩ = some (.int .i64 a1_1) := (by first | exact CAP1_1.out | exact (HB.out.cell (Qi w _ CAP1_1.out)).trans CAP1_1.out); have hcpz17_2 : w15.cell? ⟨g1_0, 2, none⟩ = some (.slice A1_2 l1_2.length c1_2) := (by first | exact CAP1_2.out | exact (HB.out.cell (Qi w _ CAP1_2.out)).trans CAP1_2.out)) | ((with_reducible refine Qd (f := 53) rfl ?_); refine Gl 9 Tryz.func53 #[.int .i64 a0_0, .int .i64 0, .int .i64 (Qb (a1_1 - 1))] ?_; (with_reducible refine (impl_within.calls a0_0 0 (Qb (a1_1 - 1)) false _ A3.out).mono ?_); rintro e w' ⟨rfl, ⟨nd, rfl⟩⟩; refine ⟨_, rfl, ?_⟩)); go_ret; exact ⟨Ze, Bb1 HB.out GE28.out⟩
def impl_Edge_IsProgram_1_88.l0 : Nat → List (S52) → Int → Int → List ByteArray → Int → List (S52) → Option (Int)
 | 0, _, _, _, _, _, _ => none
 | k + 1, x0, x7, x8, x32, x49, x51 => if x8 < x7 then (if 0 ≤ x8 then (if x8 < (x0.length : Int) then ((impl_IsProgram_1_captured.f k ((rd_T52 x0 x8).f0) ((rd_T52 x0 x8).f1) ((rd_T52 x0 x8).f2.f0) ((rd_T52 x0 x8).f2.f1) ((rd_T52 x0 x8).f2.f2) x32 x49 x51).bind fun t46 => (if t46 = true then (some x8) else (impl_Edge_IsProgram_1_88.l0 k x0 x7 (Qb (x8 + 1)) x32 x49 x51))) else (none)) else (none)) else (some (-1))
def impl_Edge_IsProgram_1_88.f (k : Nat) (l0 : List (S52)) (l1_0 : List ByteArray) (a1_1 : Int) (l1_2 : List (S52)) : Option (Int) := impl_Edge_IsProgram_1_88.l0 k l0 (l0.length : Int) 0 l1_0 a1_1 l1_2
theorem impl_Edge_IsProgram_1_88.mono_l : ∀ k, (∀ y0 y1 y2 y3 y4 y5, LeO (impl_Edge_IsProgram_1_88.l0 k y0 y1 y2 y3 y4 y5) (impl_Edge_IsProgram_1_88.l0 (k + 1) y0 y1 y2 y3 y4 y5))
 | 0 => fun _ _ _ _ _ _ r h => by simp [impl_Edge_IsProgram_1_88.l0] at h
 | k + 1 => by
  have ih0 := impl_Edge_IsProgram_1_88.mono_l k
  ·intro y0 y1 y2 y3 y4 y5; unfold impl_Edge_IsProgram_1_88.l0; exact Lm2 ih0 impl_IsProgram_1_captured.mono
theorem impl_Edge_IsProgram_1_88.mono : ∀ a0 a1 a2 a3 k, LeO (impl_Edge_IsProgram_1_88.f k a0 a1 a2 a3) (impl_Edge_IsProgram_1_88.f (k + 1) a0 a1 a2 a3) := by
 intro a0 a1 a2 a3 k
 have ih0 := impl_Edge_IsProgram_1_88.mono_l k
 unfold impl_Edge_IsProgram_1_88.f
 exact Lm2 ih0 impl_IsProgram_1_captured.mono
theorem impl_Edge_IsProgram_1_88.calls (k : Nat) (A0 : Option Addr) (c0 : Nat) (l0 : List (S52)) (g1_0 : Nat) (A1_0 : Option Addr) (c1_0 : Nat) (l1_0 : List ByteArray) (a1_1 : Int) (A1_2 : Option Addr) (c1_2 : Nat) (l1_2 : List (S52)) (r : Int) (w : World) (hr0 : Kd.C k52 w A0 l0.length l0) (hc0 : l0.length ≤ c0) (hr1_0 : Kd.C Qf w A1_0 l1_0.length l1_0) (hc1_0 : l1_0.length ≤ c1_0) (hr1_2 : Kd.C k52 w A1_2 l1_2.length l1_2) (hc1_2 : l1_2.length ≤ c1_2) (hq1_0 : w.cell? ⟨g1_0, 0, none⟩ = some (.slice A1_0 l1_0.length c1_0)) (hq1_1 : w.cell? ⟨g1_0, 1, none⟩ = some (.int .i64 a1_1)) (hq1_2 : w.cell? ⟨g1_0, 2, none⟩ = some (.slice A1_2 l1_2.length c1_2)) (h : impl_Edge_IsProgram_1_88.f k l0 l1_0 a1_1 l1_2 = some r) :
  Calls Qm 88 #[.slice A0 l0.length c0, .func (.func 55) #[] #[.pointer (some ⟨g1_0, 0, none⟩)]] w fun e w' => e = .returned (.int .i64 r) ∧ Qv w.heap.size w w' := by
 have hu52 := Zb
 have HR0 := Qa hr0
 have HC0 := Qa hc0
 clear hr0 hc0
 have HR1_0 := Qa hr1_0
 have HC1_0 := Qa hc1_0
 clear hr1_0 hc1_0
 have HR1_2 := Qa hr1_2
 have HC1_2 := Qa hc1_2
 clear hr1_2 hc1_2
 have CAP1_0 := Qa hq1_0
 clear hq1_0
 have CAP1_1 := Qa hq1_1
 clear hq1_1
 have CAP1_2 := Qa hq1_2
 clear hq1_2
 have HB := Qa (Qq w.heap.size w)
 have H : (impl_Edge_IsProgram_1_88.l0 k l0 (l0.length : Int) 0 l1_0 a1_1 l1_2) = some r := h
 clear h
 have H' := Qa H
 clear H
 go_enter Tryz.func88, Tryz.ntmps88
 go_wp2
 go_loopg [8] k (fun kq v8 w' => ∃ (x8_1 : Int), v8 = .int .i64 x8_1 ∧ Qe (impl_Edge_IsProgram_1_88.l0 kq l0 (l0.length : Int) x8_1 l1_0 a1_1 l1_2 = some r) ∧ Qe (kq ≤ k) ∧ Qe (Qv w.heap.size w w'))
 case atStart => exact ⟨(0), Zf, H', ⟨Nat.le_refl _⟩, ⟨Bb0 HB.out⟩⟩
 case round =>
  clear H'; (try clear c1)
  (try clear q1)
  (try clear p2)
  obtain ⟨x8_1, rfl, HA, HK1, HB⟩ := hrel; cases gk with
  | zero => exact absurd HA.out (by simp [impl_Edge_IsProgram_1_88.l0])
  | succ k1 =>
   have H := HA.out; clear HA; simp only [impl_Edge_IsProgram_1_88.l0] at H; by_cases c3 : x8_1 < (l0.length : Int)
   ·rw [if_pos c3] at H; replace c3 := decide_eq_true c3; by_cases c4 : 0 ≤ x8_1
    ·rw [if_pos c4] at H; replace c4 := decide_eq_true c4; by_cases c5 : x8_1 < (l0.length : Int)
     ·rw [if_pos c5] at H; replace c5 := decide_eq_true c5; obtain ⟨t46, A6, H⟩ := Ob H; (try dsimp only at H)
      by_cases c7 : t46 = true
      ·subst c7; rw [if_pos rfl] at H; obtain rfl := Option.some.inj H; have p22 : 0 ≤ (x8_1 : Int) := Da; have q22 : x8_1 < (l0.length : Int) := Da; obtain ⟨ad22, e22, hx22_0, hx22_1, hx22_2, hx22_3, hx22_4⟩ := at_T52 HR0.out x8_1 p22 q22; cases e22
       replace hx22_0 := Cx HB hx22_0; replace hx22_1 := Cx HB hx22_1; replace hx22_2 := Cx HB hx22_2; replace hx22_3 := Cx HB hx22_3; replace hx22_4 := Cx HB hx22_4; replace p22 := eq_true p22; replace q22 := eq_true q22; go_wp2_with (first | (go_at_call 55; (with_reducible refine (impl_IsProgram_1_captured.calls k1 ((rd_T52 l0 x8_1).f0) ((rd_T52 l0 x8_1).f1) ((rd_T52 l0 x8_1).f2.f0) ((rd_T52 l0 x8_1).f2.f1) ((rd_T52 l0 x8_1).f2.f2) g1_0 A1_0 c1_0 l1_0 a1_1 A1_2 c1_2 l1_2 true _ ?side1 ?side2 ?side3 ?side4 ?side5 ?side6 ?side7 A6.out).mono ?_); (case side1 => exact Bc (Qk HR1_0.out HB.out)); (case side2 => exact HC1_0.out); (case side3 => exact Bc (Qk HR1_2.out HB.out)); (case side4 => exact HC1_2.out); (case side5 => first | exact CAP1_0.out | exact (HB.out.cell (Qi w _ CAP1_0.out)).trans CAP1_0.out); (case side6 => first | exact CAP1_1.out | exact (HB.out.cell (Qi w _ CAP1_1.out)).trans CAP1_1.out); (case side7 => first | exact CAP1_2.out | exact (HB.out.cell (Qi w _ CAP1_2.out)).trans CAP1_2.out); rintro e w8 ⟨rfl, hb⟩; replace HB := Sb (Bb0 HB.out) hb; clear hb)); go_ret; exact ⟨Ze, Bb0 HB.out⟩
      ·replace c7 := Bool.eq_false_iff.mpr c7; subst c7; rw [if_neg (show ¬ (false = true) by decide)] at H; have H' := Qa H; clear H; have p22 : 0 ≤ (x8_1 : Int) := Da; have q22 : x8_1 < (l0.length : Int) := Da; obtain ⟨ad22, e22, hx22_0, hx22_1, hx22_2, hx22_3, hx22_4⟩ := at_T52 HR0.out x8_1 p22 q22; cases e22
       replace hx22_0 := Cx HB hx22_0; replace hx22_1 := Cx HB hx22_1; replace hx22_2 := Cx HB hx22_2; replace hx22_3 := Cx HB hx22_3; replace hx22_4 := Cx HB hx22_4; replace p22 := eq_true p22; replace q22 := eq_true q22; go_wp2_with (first | (go_at_call 55; (with_reducible refine (impl_IsProgram_1_captured.calls k1 ((rd_T52 l0 x8_1).f0) ((rd_T52 l0 x8_1).f1) ((rd_T52 l0 x8_1).f2.f0) ((rd_T52 l0 x8_1).f2.f1) ((rd_T52 l0 x8_1).f2.f2) g1_0 A1_0 c1_0 l1_0 a1_1 A1_2 c1_2 l1_2 false _ ?side1 ?side2 ?side3 ?side4 ?side5 ?side6 ?side7 A6.out).mono ?_); (case side1 => exact Bc (Qk HR1_0.out HB.out)); (case side2 => exact HC1_0.out); (case side3 => exact Bc (Qk HR1_2.out HB.out)); (case side4 => exact HC1_2.out); (case side5 => first | exact CAP1_0.out | exact (HB.out.cell (Qi w _ CAP1_0.out)).trans CAP1_0.out); (case side6 => first | exact CAP1_1.out | exact (HB.out.cell (Qi w _ CAP1_1.out)).trans CAP1_1.out); (case side7 => first | exact CAP1_2.out | exact (HB.out.cell (Qi w _ CAP1_2.out)).trans CAP1_2.out); rintro e w9 ⟨rfl, hb⟩; replace HB := Sb (Bb0 HB.out) hb; clear hb)); go_roundg k1
       case measure => have := HK1.out; omega
       case rel => exact ⟨(Qb (x8_1 + 1)), Zf, H', ⟨by have := HK1.out; omega⟩, ⟨Bb0 HB.out⟩⟩
     ·rw [if_neg c5] at H; exact absurd H (by simp)
    ·rw [if_neg c4] at H; exact absurd H (by simp)
   ·rw [if_neg c3] at H; replace c3 := decide_eq_false c3; obtain rfl := Option.some.inj H; go_wp2; go_ret; exact ⟨Ze, Bb0 HB.out⟩
def impl_Edge_IsProgram_1_54.f (k : Nat) (l0 : List (S52)) (l1_0 : List ByteArray) (a1_1 : Int) (l1_2 : List (S52)) : Option (Bool) := (impl_Edge_IsProgram_1_88.f k l0 l1_0 a1_1 l1_2).bind fun t42 => (some (decide (t42 ≥ 0)))
theorem impl_Edge_IsProgram_1_54.mono : ∀ a0 a1 a2 a3 k, LeO (impl_Edge_IsProgram_1_54.f k a0 a1 a2 a3) (impl_Edge_IsProgram_1_54.f (k + 1) a0 a1 a2 a3) := by
 intro a0 a1 a2 a3 k
 unfold impl_Edge_IsProgram_1_54.f
 exact Lm1 impl_Edge_IsProgram_1_88.mono
theorem impl_Edge_IsProgram_1_54.calls (k : Nat) (A0 : Option Addr) (c0 : Nat) (l0 : List (S52)) (g1_0 : Nat) (A1_0 : Option Addr) (c1_0 : Nat) (l1_0 : List ByteArray) (a1_1 : Int) (A1_2 : Option Addr) (c1_2 : Nat) (l1_2 : List (S52)) (r : Bool) (w : World) (hr0 : Kd.C k52 w A0 l0.length l0) (hc0 : l0.length ≤ c0) (hr1_0 : Kd.C Qf w A1_0 l1_0.length l1_0) (hc1_0 : l1_0.length ≤ c1_0) (hr1_2 : Kd.C k52 w A1_2 l1_2.length l1_2) (hc1_2 : l1_2.length ≤ c1_2) (hq1_0 : w.cell? ⟨g1_0, 0, none⟩ = some (.slice A1_0 l1_0.length c1_0)) (hq1_1 : w.cell? ⟨g1_0, 1, none⟩ = some (.int .i64 a1_1)) (hq1_2 : w.cell? ⟨g1_0, 2, none⟩ = some (.slice A1_2 l1_2.length c1_2)) (h : impl_Edge_IsProgram_1_54.f k l0 l1_0 a1_1 l1_2 = some r) :
  Calls Qm 54 #[.slice A0 l0.length c0, .func (.func 55) #[] #[.pointer (some ⟨g1_0, 0, none⟩)]] w fun e w' => e = .returned (.bool r) ∧ Qv w.heap.size w w' := by
 have HR0 := Qa hr0
 have HC0 := Qa hc0
 clear hr0 hc0
 have HR1_0 := Qa hr1_0
 have HC1_0 := Qa hc1_0
 clear hr1_0 hc1_0
 have HR1_2 := Qa hr1_2
 have HC1_2 := Qa hc1_2
 clear hr1_2 hc1_2
 have CAP1_0 := Qa hq1_0
 clear hq1_0
 have CAP1_1 := Qa hq1_1
 clear hq1_1
 have CAP1_2 := Qa hq1_2
 clear hq1_2
 have HB := Qa (Qq w.heap.size w)
 have H : ((impl_Edge_IsProgram_1_88.f k l0 l1_0 a1_1 l1_2).bind fun t42 => (some (decide (t42 ≥ 0)))) = some r := h
 clear h
 obtain ⟨t42, A3, H⟩ := Ob H
 (try dsimp only at H)
 obtain rfl := Option.some.inj H
 go_enter Tryz.func54, Tryz.ntmps54
 go_wp2_with (first | ((with_reducible refine Qd (f := 88) rfl ?_); refine Gl 7 Tryz.func88 #[.slice A0 l0.length c0, .func (.func 55) #[] #[.pointer (some ⟨g1_0, 0, none⟩)]] ?_; (with_reducible refine (impl_Edge_IsProgram_1_88.calls k _ _ l0 g1_0 A1_0 c1_0 l1_0 a1_1 A1_2 c1_2 l1_2 t42 _ ?side1 ?side2 ?side3 ?side4 ?side5 ?side6 ?side7 ?side8 ?side9 A3.out).mono ?_); (case side1 => exact Bc HR0.out); (case side2 => exact HC0.out); (case side3 => exact Bc HR1_0.out); (case side4 => exact HC1_0.out); (case side5 => exact Bc HR1_2.out); (case side6 => exact HC1_2.out); (case side7 => first | exact CAP1_0.out | exact (HB.out.cell (Qi w _ CAP1_0.out)).trans CAP1_0.out); (case side8 => first | exact CAP1_1.out | exact (HB.out.cell (Qi w _ CAP1_1.out)).trans CAP1_1.out); (case side9 => first | exact CAP1_2.out | exact (HB.out.cell (Qi w _ CAP1_2.out)).trans CAP1_2.out); rintro e w4 ⟨rfl, hb⟩; refine ⟨_, rfl, ?_⟩; replace HB := Sb (Bb0 HB.out) hb; clear hb))
 go_ret
 exact ⟨Ze, Bb0 HB.out⟩
end Go.Proofs.YtndkkpjofddfjaaGreatDoor.PFnExactParseProgram
