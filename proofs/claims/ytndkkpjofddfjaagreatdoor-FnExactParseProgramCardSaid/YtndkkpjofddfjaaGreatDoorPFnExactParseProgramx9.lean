-- Laid by wip/tools/xprint.py (a program of this session over the kit's print). Not trusted: Lean checks it.
import Derived.Test.YtndkkpjofddfjaaGreatDoorXAuto
import Derived.Test.YtndkkpjofddfjaaGreatDoorPFnExactParseProgramx0
import Derived.Test.YtndkkpjofddfjaaGreatDoorPFnExactParseProgramx8
namespace Go.Proofs.YtndkkpjofddfjaaGreatDoor.PFnExactParseProgram
open Go.RowKit Go.Proofs.YtndkkpjofddfjaaGreatDoorW.PrintWords Go.Proofs.YtndkkpjofddfjaaGreatDoorW.PrintLast Go.Proofs.YtndkkpjofddfjaaGreatDoorW.PrintMore
attribute [local go_sem] max2_int min2_int max_two min_two max_three min_three max_four min_four
set_option linter.unusedVariables false
set_option linter.unusedSimpArgs false
def impl_AreVars.l0 : Nat → List ByteArray → List ByteArray → Int → Int → Option (Bool)
 | 0, _, _, _, _ => none
 | k + 1, x0, x5, x6, x7 => if x7 < x6 then (if 0 ≤ x7 then (if x7 < (x5.length : Int) then ((impl_IsName.f k (rdOf ByteArray.empty x5 x7)).bind fun t253 => (if t253 = true then ((impl_IndexOf.f k x0 (rdOf ByteArray.empty x5 x7)).bind fun t254 => (if t254 = x7 then (impl_AreVars.l0 k x0 x5 x6 (wrap64 (x7 + 1))) else (some false))) else (some false))) else (none)) else (none)) else ((impl_within.f (x0.length : Int) 1 4).bind fun t251 => (some t251))
def impl_AreVars.f (k : Nat) (l0 : List ByteArray) : Option (Bool) := impl_AreVars.l0 k l0 l0 (l0.length : Int) 0
theorem impl_AreVars.mono_l : ∀ k, (∀ y0 y1 y2 y3, LeO (impl_AreVars.l0 k y0 y1 y2 y3) (impl_AreVars.l0 (k + 1) y0 y1 y2 y3))
 | 0 => fun _ _ _ _ r h => by simp [impl_AreVars.l0] at h
 | k + 1 => by
  have ih0 := impl_AreVars.mono_l k
  ·intro y0 y1 y2 y3; unfold impl_AreVars.l0; repeat' with_reducible first | exact ih0 _ _ _ _ | exact impl_IndexOf.mono _ _ _ | exact impl_IsName.mono _ _ | exact LeO.refl _ | exact LeO.none _ | refine LeO.ite ?_ ?_ | refine LeO.bind ?_ (fun _ => ?_)
theorem impl_AreVars.mono : ∀ a0 k, LeO (impl_AreVars.f k a0) (impl_AreVars.f (k + 1) a0) := by
 intro a0 k
 have ih0 := impl_AreVars.mono_l k
 unfold impl_AreVars.f
 repeat' with_reducible first | exact ih0 _ _ _ _ | exact impl_IndexOf.mono _ _ _ | exact impl_IsName.mono _ _ | exact LeO.refl _ | exact LeO.none _ | refine LeO.ite ?_ ?_ | refine LeO.bind ?_ (fun _ => ?_)
set_option maxHeartbeats 32000000 in
set_option maxRecDepth 100000 in
theorem impl_AreVars.calls (k : Nat) (A0 : Option Addr) (c0 : Nat) (l0 : List ByteArray) (r : Bool) (w : World) (hr0 : Kd.C Kd.string w A0 l0.length l0) (hc0 : l0.length ≤ c0) (h : impl_AreVars.f k l0 = some r) :
  Calls Tryz.prog 52 #[.slice A0 l0.length c0] w fun e w' => e = .returned (.bool r) ∧ Drawn0 w w' := by
 have HR0 := Aside0.mk hr0
 have HC0 := Aside0.mk hc0
 clear hr0 hc0
 have H : (impl_AreVars.l0 k l0 l0 (l0.length : Int) 0) = some r := h
 clear h
 have H' := Aside0.mk H
 clear H
 go_enter Tryz.func52, Tryz.ntmps52
 go_wp2
 go_loopg [7] k (fun kq v7 w' => ∃ (x7_1 : Int), v7 = .int .i64 x7_1 ∧ Aside0 (impl_AreVars.l0 kq l0 l0 (l0.length : Int) x7_1 = some r) ∧ Aside0 (kq ≤ k) ∧ Drawn0 w w')
 case atStart => exact ⟨(0), Zf, H', ⟨Nat.le_refl _⟩, by repeat (first | exact Drawn0.refl _ | apply Drawn0.step)⟩
 case round =>
  clear H'; obtain ⟨x7_1, rfl, HA, HK1, ⟨m1, rfl⟩⟩ := hrel; cases gk with
  | zero => exact absurd HA.out (by simp [impl_AreVars.l0])
  | succ k1 =>
   have H := HA.out; clear HA; simp only [impl_AreVars.l0] at H; by_cases c2 : x7_1 < (l0.length : Int)
   ·rw [if_pos c2] at H; have c2b0 : decide (x7_1 < (l0.length : Int)) = true := decide_eq_true c2; clear c2; by_cases c3 : 0 ≤ x7_1
    ·rw [if_pos c3] at H; have c3b0 : decide (0 ≤ x7_1) = true := decide_eq_true c3; clear c3; by_cases c4 : x7_1 < (l0.length : Int)
     ·rw [if_pos c4] at H; have c4b0 : decide (x7_1 < (l0.length : Int)) = true := decide_eq_true c4; clear c4; replace H := Option.bind_eq_some_iff.mp H; obtain ⟨t253, A50, H⟩ := H; replace H : (if t253 = true then ((impl_IndexOf.f k1 l0 (rdOf ByteArray.empty l0 x7_1)).bind fun t254 => (if t254 = x7_1 then (impl_AreVars.l0 k1 l0 l0 (l0.length : Int) (wrap64 (x7_1 + 1))) else (some false))) else (some false)) = some r := H; have A5 := Aside0.mk A50; clear A50; by_cases c6 : t253 = true
      ·subst c6; have H1 : ((impl_IndexOf.f k1 l0 (rdOf ByteArray.empty l0 x7_1)).bind fun t254 => (if t254 = x7_1 then (impl_AreVars.l0 k1 l0 l0 (l0.length : Int) (wrap64 (x7_1 + 1))) else (some false))) = some r := by rw [if_pos rfl] at H; exact H
       clear H; have H := H1; clear H1; replace H := Option.bind_eq_some_iff.mp H; obtain ⟨t254, A70, H⟩ := H; replace H : (if t254 = x7_1 then (impl_AreVars.l0 k1 l0 l0 (l0.length : Int) (wrap64 (x7_1 + 1))) else (some false)) = some r := H; have A7 := Aside0.mk A70; clear A70; by_cases c8 : t254 = x7_1
       ·rw [if_pos c8] at H; have c8b0 : (t254 == x7_1) = true := beq_iff_eq.mpr c8; have c8b1 : (t254 != x7_1) = false := bne_eq_false_iff_eq.mpr c8; clear c8; have H' := Aside0.mk H; clear H; have p252 : 0 ≤ (x7_1 : Int) := Da; have q252 : x7_1 < (l0.length : Int) := Da; obtain ⟨ad252, e252, hx252_0⟩ := Kd.at_string HR0.out x7_1 p252 q252; cases e252
        replace p252 := eq_true p252; replace q252 := eq_true q252; go_wp2_with (first | ((with_reducible refine gate_callee (f := 74) rfl ?_); refine goesL_ (some 13) rfl rfl Tryz.func74 (by kernel_rfl) rfl #[.string (rdOf ByteArray.empty l0 x7_1)] rfl Zm ?_; (with_reducible refine (impl_IsName.calls k1 (rdOf ByteArray.empty l0 x7_1) true _ A5.out).mono ?_); rintro e w' ⟨rfl, ⟨nd, rfl⟩⟩; refine ⟨_, rfl, ?_⟩) | (go_at_call 87; (with_reducible refine (impl_IndexOf.calls k1 _ _ l0 (rdOf ByteArray.empty l0 x7_1) t254 _ ?side1 ?side2 A7.out).mono ?_); (case side1 => exact Bc HR0.out); (case side2 => exact HC0.out); rintro e w' ⟨rfl, ⟨nd, rfl⟩⟩)); go_roundg k1
        case measure => have := HK1.out; omega
        case rel => exact ⟨(wrap64 (x7_1 + 1)), Zf, H', ⟨by have := HK1.out; omega⟩, by repeat (first | exact Drawn0.refl _ | apply Drawn0.step)⟩
       ·rw [if_neg c8] at H; have c8b0 : (t254 == x7_1) = false := beq_eq_false_iff_ne.mpr c8; have c8b1 : (t254 != x7_1) = true := bne_iff_ne.mpr c8; obtain rfl := Option.some.inj H; have p252 : 0 ≤ (x7_1 : Int) := Da; have q252 : x7_1 < (l0.length : Int) := Da; obtain ⟨ad252, e252, hx252_0⟩ := Kd.at_string HR0.out x7_1 p252 q252; cases e252
        replace p252 := eq_true p252; replace q252 := eq_true q252; go_wp2_with (first | ((with_reducible refine gate_callee (f := 74) rfl ?_); refine goesL_ (some 13) rfl rfl Tryz.func74 (by kernel_rfl) rfl #[.string (rdOf ByteArray.empty l0 x7_1)] rfl Zm ?_; (with_reducible refine (impl_IsName.calls k1 (rdOf ByteArray.empty l0 x7_1) true _ A5.out).mono ?_); rintro e w' ⟨rfl, ⟨nd, rfl⟩⟩; refine ⟨_, rfl, ?_⟩) | (go_at_call 87; (with_reducible refine (impl_IndexOf.calls k1 _ _ l0 (rdOf ByteArray.empty l0 x7_1) t254 _ ?side1 ?side2 A7.out).mono ?_); (case side1 => exact Bc HR0.out); (case side2 => exact HC0.out); rintro e w' ⟨rfl, ⟨nd, rfl⟩⟩)); go_ret; exact ⟨by first | rfl | (simp; done) | (simp [*]; done), by repeat (first | exact Drawn0.refl _ | apply Drawn0.step)⟩
      ·replace c6 := Bool.eq_false_iff.mpr c6; subst c6; have H1 : (some false) = some r := by rw [if_neg (show ¬ (false = true) by decide)] at H; exact H
       clear H; have H := H1; clear H1; obtain rfl := Option.some.inj H; have p252 : 0 ≤ (x7_1 : Int) := Da; have q252 : x7_1 < (l0.length : Int) := Da; obtain ⟨ad252, e252, hx252_0⟩ := Kd.at_string HR0.out x7_1 p252 q252; cases e252
       replace p252 := eq_true p252; replace q252 := eq_true q252; go_wp2_with (first | ((with_reducible refine gate_callee (f := 74) rfl ?_); refine goesL_ (some 13) rfl rfl Tryz.func74 (by kernel_rfl) rfl #[.string (rdOf ByteArray.empty l0 x7_1)] rfl Zm ?_; (with_reducible refine (impl_IsName.calls k1 (rdOf ByteArray.empty l0 x7_1) false _ A5.out).mono ?_); rintro e w' ⟨rfl, ⟨nd, rfl⟩⟩; refine ⟨_, rfl, ?_⟩)); go_ret; exact ⟨by first | rfl | (simp; done) | (simp [*]; done), by repeat (first | exact Drawn0.refl _ | apply Drawn0.step)⟩
     ·rw [if_neg c4] at H; exact absurd H (by simp)
    ·rw [if_neg c3] at H; exact absurd H (by simp)
   ·rw [if_neg c2] at H; have c2b0 : decide (x7_1 < (l0.length : Int)) = false := decide_eq_false c2; clear c2; replace H := Option.bind_eq_some_iff.mp H; obtain ⟨t251, A90, H⟩ := H; replace H : (some t251) = some r := H; have A9 := Aside0.mk A90; clear A90; obtain rfl := Option.some.inj H; go_wp2_with (first | ((with_reducible refine gate_callee (f := 53) rfl ?_); refine goesL_ (some 25) rfl rfl Tryz.func53 (by kernel_rfl) rfl #[.int .i64 (l0.length : Int), .int .i64 1, .int .i64 4] rfl Zm ?_; (with_reducible refine (impl_within.calls (l0.length : Int) 1 4 t251 _ A9.out).mono ?_); rintro e w' ⟨rfl, ⟨nd, rfl⟩⟩; refine ⟨_, rfl, ?_⟩)); go_ret; exact ⟨by first | rfl | (simp; done) | (simp [*]; done), by repeat (first | exact Drawn0.refl _ | apply Drawn0.step)⟩
def impl_NamesOf.f (a0 : Int) : Option (Int) := (impl_within.f a0 1 12).bind fun t255 => (if t255 = true then ((some (([0, 1, 1, 2, 2, 1, 2, 1, 1, 1, 2, 2] : List Int) : List Int)).bind fun y256 => (if 0 ≤ (wrap64 (a0 - 1)) then (if (wrap64 (a0 - 1)) < (y256.length : Int) then (some (rd y256 (wrap64 (a0 - 1)))) else (none)) else (none))) else (some (-1)))
set_option maxHeartbeats 32000000 in
set_option maxRecDepth 100000 in
theorem impl_NamesOf.calls (a0 : Int) (r : Int) (w : World) (h : impl_NamesOf.f a0 = some r) :
  Calls Tryz.prog 103 #[.int .i64 a0] w fun e w' => e = .returned (.int .i64 r) ∧ Below w.heap.size w w' := by
 have HB := Aside0.mk (Below.refl w.heap.size w)
 have H : ((impl_within.f a0 1 12).bind fun t255 => (if t255 = true then ((some (([0, 1, 1, 2, 2, 1, 2, 1, 1, 1, 2, 2] : List Int) : List Int)).bind fun y256 => (if 0 ≤ (wrap64 (a0 - 1)) then (if (wrap64 (a0 - 1)) < (y256.length : Int) then (some (rd y256 (wrap64 (a0 - 1)))) else (none)) else (none))) else (some (-1)))) = some r := h
 clear h
 replace H := Option.bind_eq_some_iff.mp H
 obtain ⟨t255, A20, H⟩ := H
 replace H : (if t255 = true then ((some (([0, 1, 1, 2, 2, 1, 2, 1, 1, 1, 2, 2] : List Int) : List Int)).bind fun y256 => (if 0 ≤ (wrap64 (a0 - 1)) then (if (wrap64 (a0 - 1)) < (y256.length : Int) then (some (rd y256 (wrap64 (a0 - 1)))) else (none)) else (none))) else (some (-1))) = some r := H
 have A2 := Aside0.mk A20
 clear A20
 by_cases c3 : t255 = true
 ·subst c3
  have H1 : ((some (([0, 1, 1, 2, 2, 1, 2, 1, 1, 1, 2, 2] : List Int) : List Int)).bind fun y256 => (if 0 ≤ (wrap64 (a0 - 1)) then (if (wrap64 (a0 - 1)) < (y256.length : Int) then (some (rd y256 (wrap64 (a0 - 1)))) else (none)) else (none))) = some r := by rw [if_pos rfl] at H; exact H
  clear H; have H := H1; clear H1; obtain ⟨y256, hy256⟩ : ∃ y_ : List Int, y_ = (([0, 1, 1, 2, 2, 1, 2, 1, 1, 1, 2, 2] : List Int)) := ⟨_, rfl⟩; replace H : (if 0 ≤ (wrap64 (a0 - 1)) then (if (wrap64 (a0 - 1)) < (y256.length : Int) then (some (rd y256 (wrap64 (a0 - 1)))) else (none)) else (none)) = some r := by first | (rw [hy256]; with_reducible exact H) | (have H2_ := (Option.bind_some _ _).symm.trans H; rw [hy256]; with_reducible exact H2_) | (have H2_ := (Option.bind_some _ _).symm.trans H; with_reducible exact H2_) | with_reducible exact H | (rw [hy256]; exact H) | exact H
  have Ny256 := Aside0.mk hy256; clear hy256; obtain ⟨ji4, hji4⟩ : ∃ j_ : Int, (wrap64 (a0 - 1)) = j_ := ⟨_, rfl⟩; replace H : (if 0 ≤ (ji4) then (if (ji4) < (y256.length : Int) then (some (rd y256 (ji4))) else (none)) else (none)) = some r := by first | (rw [hji4] at H; exact H) | (simp only [hji4] at H ⊢; exact H)
  (try rw [hji4] at A2)
  have hji4w : (IntKind.i64.wrap (a0 - 1)) = ji4 := (i64_w _).trans hji4; by_cases c5 : 0 ≤ (ji4)
  ·rw [if_pos c5] at H; have c5b0 : decide (0 ≤ (ji4)) = true := decide_eq_true c5; clear c5; by_cases c6 : (ji4) < (y256.length : Int)
   ·rw [if_pos c6] at H; have c6b0 : decide ((ji4) < (y256.length : Int)) = true := decide_eq_true c6; clear c6; obtain rfl := Option.some.inj H; go_enter Tryz.func103, Tryz.ntmps103; go_wp2_with (first | ((with_reducible refine gate_callee (f := 53) rfl ?_); refine goesL_ (some 4) rfl rfl Tryz.func53 (by kernel_rfl) rfl #[.int .i64 a0, .int .i64 1, .int .i64 12] rfl Zm ?_; (with_reducible refine (impl_within.calls a0 1 12 true _ A2.out).mono ?_); rintro e w' ⟨rfl, ⟨nd, rfl⟩⟩; refine ⟨_, rfl, ?_⟩) | ((with_reducible refine gate_dst (N := 6) rfl ?_); refine Kd.R_lit (Kd.int .i64) _ 3 ?hg (N := 6) ?hd (xs := ([0, 1, 1, 2, 2, 1, 2, 1, 1, 1, 2, 2] : List Int)) (inner := [.int .i64 0, .int .i64 1, .int .i64 1, .int .i64 2, .int .i64 2, .int .i64 1, .int .i64 2, .int .i64 1, .int .i64 1, .int .i64 1, .int .i64 2, .int .i64 2]) (ok := fun _ => True) (okp := fun _ => True) ?hr ?hp (fun _ hk => hk) trivial (Below.refl _ _) (Nat.le_refl _) (by simp) ?_; (case hd => rfl); (case hg => rfl); (case hr => first | (go_simp; done) | (go_simp; rfl)); (case hp => exact (Reps.one (show Kd.M (Kd.int .i64) _ _ _ 0 [.int .i64 0] from rfl) (Reps.one (show Kd.M (Kd.int .i64) _ _ _ 1 [.int .i64 1] from rfl) (Reps.one (show Kd.M (Kd.int .i64) _ _ _ 1 [.int .i64 1] from rfl) (Reps.one (show Kd.M (Kd.int .i64) _ _ _ 2 [.int .i64 2] from rfl) (Reps.one (show Kd.M (Kd.int .i64) _ _ _ 2 [.int .i64 2] from rfl) (Reps.one (show Kd.M (Kd.int .i64) _ _ _ 1 [.int .i64 1] from rfl) (Reps.one (show Kd.M (Kd.int .i64) _ _ _ 2 [.int .i64 2] from rfl) (Reps.one (show Kd.M (Kd.int .i64) _ _ _ 1 [.int .i64 1] from rfl) (Reps.one (show Kd.M (Kd.int .i64) _ _ _ 1 [.int .i64 1] from rfl) (Reps.one (show Kd.M (Kd.int .i64) _ _ _ 1 [.int .i64 1] from rfl) (Reps.one (show Kd.M (Kd.int .i64) _ _ _ 2 [.int .i64 2] from rfl) (Reps.one (show Kd.M (Kd.int .i64) _ _ _ 2 [.int .i64 2] from rfl) (Reps.none _ _)))))))))))))); intro v257 w7 ho8 hb hg_ hnew_; clear hg_ hnew_; (first | rw [← Ny256.out] at ho8 | (simp only [Int.reduceToNat] at ho8; rw [← Ny256.out] at ho8)); have HO258 := Aside0.mk (Kd.R_lower ho8 (below_size (Bb0 HB.out))); replace HB := Sb (Bb0 HB.out) hb; clear hb ho8; obtain ⟨Ao9, co9, eo9⟩ := Kd.R_slice HO258.out; subst eo9; have p259 : 0 ≤ ((ji4) : Int) := Da; have q259 : (ji4) < (y256.length : Int) := Da; obtain ⟨ad259, e259, hx259_0⟩ := Kd.at_int (Kd.R_reads' HO258.out).2.2 (ji4) p259 q259; cases e259; replace p259 := eq_true p259; replace q259 := eq_true q259)); go_ret; exact ⟨by first | rfl | (simp [errW_none, errW_some] <;> rfl) | (simp only [← hji4]; first | rfl | (simp [errW_none, errW_some] <;> rfl)) | (simp [*, errW_none, errW_some] <;> rfl), Bb0 HB.out⟩
   ·rw [if_neg c6] at H; exact absurd H (by simp)
  ·rw [if_neg c5] at H; exact absurd H (by simp)
 ·replace c3 := Bool.eq_false_iff.mpr c3
  subst c3; have H1 : (some (-1)) = some r := by rw [if_neg (show ¬ (false = true) by decide)] at H; exact H
  clear H; have H := H1; clear H1; obtain rfl := Option.some.inj H; go_enter Tryz.func103, Tryz.ntmps103; go_wp2_with (first | ((with_reducible refine gate_callee (f := 53) rfl ?_); refine goesL_ (some 4) rfl rfl Tryz.func53 (by kernel_rfl) rfl #[.int .i64 a0, .int .i64 1, .int .i64 12] rfl Zm ?_; (with_reducible refine (impl_within.calls a0 1 12 false _ A2.out).mono ?_); rintro e w' ⟨rfl, ⟨nd, rfl⟩⟩; refine ⟨_, rfl, ?_⟩)); go_ret; exact ⟨Ze, Bb0 HB.out⟩
def slices_Contains_string_string.f (k : Nat) (l0 : List ByteArray) (a1 : ByteArray) : Option (Bool) := (slices_Index_string_string.f k l0 a1).bind fun t260 => (some (decide (t260 ≥ 0)))
theorem slices_Contains_string_string.mono : ∀ a0 a1 k, LeO (slices_Contains_string_string.f k a0 a1) (slices_Contains_string_string.f (k + 1) a0 a1) := by
 intro a0 a1 k
 unfold slices_Contains_string_string.f
 repeat' with_reducible first | exact slices_Index_string_string.mono _ _ _ | exact LeO.refl _ | exact LeO.none _ | refine LeO.ite ?_ ?_ | refine LeO.bind ?_ (fun _ => ?_)
set_option maxHeartbeats 32000000 in
set_option maxRecDepth 100000 in
theorem slices_Contains_string_string.calls (k : Nat) (A0 : Option Addr) (c0 : Nat) (l0 : List ByteArray) (a1 : ByteArray) (r : Bool) (w : World) (hr0 : Kd.C Kd.string w A0 l0.length l0) (hc0 : l0.length ≤ c0) (h : slices_Contains_string_string.f k l0 a1 = some r) :
  Calls Tryz.prog 90 #[.slice A0 l0.length c0, .string a1] w fun e w' => e = .returned (.bool r) ∧ Drawn0 w w' := by
 have HR0 := Aside0.mk hr0
 have HC0 := Aside0.mk hc0
 clear hr0 hc0
 have H : ((slices_Index_string_string.f k l0 a1).bind fun t260 => (some (decide (t260 ≥ 0)))) = some r := h
 clear h
 replace H := Option.bind_eq_some_iff.mp H
 obtain ⟨t260, A30, H⟩ := H
 replace H : (some (decide (t260 ≥ 0))) = some r := H
 have A3 := Aside0.mk A30
 clear A30
 obtain rfl := Option.some.inj H
 go_enter Tryz.func90, Tryz.ntmps90
 go_wp2_with (first | ((with_reducible refine gate_callee (f := 114) rfl ?_); refine goesL_ (some 7) rfl rfl Tryz.func114 (by kernel_rfl) rfl #[.slice A0 l0.length c0, .string a1] rfl Zm ?_; (with_reducible refine (slices_Index_string_string.calls k _ _ l0 a1 t260 _ ?side1 ?side2 A3.out).mono ?_); (case side1 => exact Bc HR0.out); (case side2 => exact HC0.out); rintro e w' ⟨rfl, ⟨nd, rfl⟩⟩; refine ⟨_, rfl, ?_⟩))
 go_ret
 exact ⟨by first | rfl | (simp; done) | (simp [*]; done), by repeat (first | exact Drawn0.refl _ | apply Drawn0.step)⟩
def impl_IsStmt_1_captured.f (k : Nat) (a0 : ByteArray) (l1_0 : List ByteArray) : Option (Bool) := (slices_Contains_string_string.f k l1_0 a0).bind fun t261 => (some t261)
theorem impl_IsStmt_1_captured.mono : ∀ a0 a1 k, LeO (impl_IsStmt_1_captured.f k a0 a1) (impl_IsStmt_1_captured.f (k + 1) a0 a1) := by
 intro a0 a1 k
 unfold impl_IsStmt_1_captured.f
 repeat' with_reducible first | exact slices_Contains_string_string.mono _ _ _ | exact LeO.refl _ | exact LeO.none _ | refine LeO.ite ?_ ?_ | refine LeO.bind ?_ (fun _ => ?_)
set_option maxHeartbeats 32000000 in
set_option maxRecDepth 100000 in
theorem impl_IsStmt_1_captured.calls (k : Nat) (a0 : ByteArray) (g1_0 : Nat) (A1_0 : Option Addr) (c1_0 : Nat) (l1_0 : List ByteArray) (r : Bool) (w : World) (hr1_0 : Kd.C Kd.string w A1_0 l1_0.length l1_0) (hc1_0 : l1_0.length ≤ c1_0) (hq1_0 : w.cell? ⟨g1_0, 0, none⟩ = some (.slice A1_0 l1_0.length c1_0)) (h : impl_IsStmt_1_captured.f k a0 l1_0 = some r) :
  Calls Tryz.prog 89 #[.string a0, .pointer (some ⟨g1_0, 0, none⟩)] w fun e w' => e = .returned (.bool r) ∧ Drawn0 w w' := by
 have HR1_0 := Aside0.mk hr1_0
 have HC1_0 := Aside0.mk hc1_0
 clear hr1_0 hc1_0
 have CAP1_0 := Aside0.mk hq1_0
 clear hq1_0
 have H : ((slices_Contains_string_string.f k l1_0 a0).bind fun t261 => (some t261)) = some r := h
 clear h
 replace H := Option.bind_eq_some_iff.mp H
 obtain ⟨t261, A30, H⟩ := H
 replace H : (some t261) = some r := H
 have A3 := Aside0.mk A30
 clear A30
 obtain rfl := Option.some.inj H
 have hcpz4_0 : w.cell? ⟨g1_0, 0, none⟩ = some (.slice A1_0 l1_0.length c1_0) := (by first | exact CAP1_0.out | exact (HB.out.cell (World.block_lt_of_cell? w _ CAP1_0.out)).trans CAP1_0.out)
 go_enter Tryz.func89, Tryz.ntmps89
 go_wp2_with (first | ((with_reducible refine gate_callee (f := 90) rfl ?_); refine goesL_ (some 6) rfl rfl Tryz.func90 (by kernel_rfl) rfl #[.slice A1_0 l1_0.length c1_0, .string a0] rfl Zm ?_; (with_reducible refine (slices_Contains_string_string.calls k _ _ l1_0 a0 t261 _ ?side1 ?side2 A3.out).mono ?_); (case side1 => exact Bc HR1_0.out); (case side2 => exact HC1_0.out); rintro e w' ⟨rfl, ⟨nd, rfl⟩⟩; refine ⟨_, rfl, ?_⟩))
 go_ret
 exact ⟨by first | rfl | (simp; done) | (simp [*]; done), by repeat (first | exact Drawn0.refl _ | apply Drawn0.step)⟩
def impl_Stmt_hasNames_IsStmt_1.l0 : Nat → Int → List ByteArray → Int → Int → List ByteArray → Option (Bool)
 | 0, _, _, _, _, _ => none
 | k + 1, x5, x15, x16, x17, x2000 => if x17 < x16 then (if 0 ≤ x17 then (if x17 < (x15.length : Int) then (if x17 < x5 then ((impl_IsStmt_1_captured.f k (rdOf ByteArray.empty x15 x17) x2000).bind fun t268 => (if t268 = true then (if x17 ≥ x5 then (if (rdOf ByteArray.empty x15 x17).toList = ([] : List UInt8) then (impl_Stmt_hasNames_IsStmt_1.l0 k x5 x15 x16 (wrap64 (x17 + 1)) x2000) else (some false)) else (impl_Stmt_hasNames_IsStmt_1.l0 k x5 x15 x16 (wrap64 (x17 + 1)) x2000)) else (some false))) else (if x17 ≥ x5 then (if (rdOf ByteArray.empty x15 x17).toList = ([] : List UInt8) then (impl_Stmt_hasNames_IsStmt_1.l0 k x5 x15 x16 (wrap64 (x17 + 1)) x2000) else (some false)) else (impl_Stmt_hasNames_IsStmt_1.l0 k x5 x15 x16 (wrap64 (x17 + 1)) x2000))) else (none)) else (none)) else (some (decide (x5 ≥ 0)))
def impl_Stmt_hasNames_IsStmt_1.f (k : Nat) (a0_0 : Int) (a0_1 : ByteArray) (a0_2 : ByteArray) (l1_0 : List ByteArray) : Option (Bool) := (impl_NamesOf.f a0_0).bind fun t263 => ((some (([a0_1, a0_2] : List ByteArray) : List ByteArray)).bind fun y264 => (impl_Stmt_hasNames_IsStmt_1.l0 k t263 y264 (y264.length : Int) 0 l1_0))
theorem impl_Stmt_hasNames_IsStmt_1.mono_l : ∀ k, (∀ y0 y1 y2 y3 y4, LeO (impl_Stmt_hasNames_IsStmt_1.l0 k y0 y1 y2 y3 y4) (impl_Stmt_hasNames_IsStmt_1.l0 (k + 1) y0 y1 y2 y3 y4))
 | 0 => fun _ _ _ _ _ r h => by simp [impl_Stmt_hasNames_IsStmt_1.l0] at h
 | k + 1 => by
  have ih0 := impl_Stmt_hasNames_IsStmt_1.mono_l k
  ·intro y0 y1 y2 y3 y4; unfold impl_Stmt_hasNames_IsStmt_1.l0; repeat' with_reducible first | exact ih0 _ _ _ _ _ | exact impl_IsStmt_1_captured.mono _ _ _ | exact LeO.refl _ | exact LeO.none _ | refine LeO.ite ?_ ?_ | refine LeO.bind ?_ (fun _ => ?_)
theorem impl_Stmt_hasNames_IsStmt_1.mono : ∀ a0 a1 a2 a3 k, LeO (impl_Stmt_hasNames_IsStmt_1.f k a0 a1 a2 a3) (impl_Stmt_hasNames_IsStmt_1.f (k + 1) a0 a1 a2 a3) := by
 intro a0 a1 a2 a3 k
 have ih0 := impl_Stmt_hasNames_IsStmt_1.mono_l k
 unfold impl_Stmt_hasNames_IsStmt_1.f
 repeat' with_reducible first | exact ih0 _ _ _ _ _ | exact impl_IsStmt_1_captured.mono _ _ _ | exact LeO.refl _ | exact LeO.none _ | refine LeO.ite ?_ ?_ | refine LeO.bind ?_ (fun _ => ?_)
set_option maxHeartbeats 32000000 in
set_option maxRecDepth 100000 in
theorem impl_Stmt_hasNames_IsStmt_1.calls (k : Nat) (a0_0 : Int) (a0_1 : ByteArray) (a0_2 : ByteArray) (g1_0 : Nat) (A1_0 : Option Addr) (c1_0 : Nat) (l1_0 : List ByteArray) (r : Bool) (w : World) (hr1_0 : Kd.C Kd.string w A1_0 l1_0.length l1_0) (hc1_0 : l1_0.length ≤ c1_0) (hq1_0 : w.cell? ⟨g1_0, 0, none⟩ = some (.slice A1_0 l1_0.length c1_0)) (h : impl_Stmt_hasNames_IsStmt_1.f k a0_0 a0_1 a0_2 l1_0 = some r) :
  Calls Tryz.prog 73 #[.agg #[.int .i64 a0_0, .string a0_1, .string a0_2], .func (.func 89) #[] #[.pointer (some ⟨g1_0, 0, none⟩)]] w fun e w' => e = .returned (.bool r) ∧ Below w.heap.size w w' := by
 have hu50 := Tryz.underlying50
 have HR1_0 := Aside0.mk hr1_0
 have HC1_0 := Aside0.mk hc1_0
 clear hr1_0 hc1_0
 have CAP1_0 := Aside0.mk hq1_0
 clear hq1_0
 have HB := Aside0.mk (Below.refl w.heap.size w)
 have H : ((impl_NamesOf.f a0_0).bind fun t263 => ((some (([a0_1, a0_2] : List ByteArray) : List ByteArray)).bind fun y264 => (impl_Stmt_hasNames_IsStmt_1.l0 k t263 y264 (y264.length : Int) 0 l1_0))) = some r := h
 clear h
 replace H := Option.bind_eq_some_iff.mp H
 obtain ⟨t263, A30, H⟩ := H
 replace H : ((some (([a0_1, a0_2] : List ByteArray) : List ByteArray)).bind fun y264 => (impl_Stmt_hasNames_IsStmt_1.l0 k t263 y264 (y264.length : Int) 0 l1_0)) = some r := H
 have A3 := Aside0.mk A30
 clear A30
 obtain ⟨y264, hy264⟩ : ∃ y_ : List ByteArray, y_ = (([a0_1, a0_2] : List ByteArray)) := ⟨_, rfl⟩
 replace H : (impl_Stmt_hasNames_IsStmt_1.l0 k t263 y264 (y264.length : Int) 0 l1_0) = some r := by first | (rw [hy264]; with_reducible exact H) | (have H2_ := (Option.bind_some _ _).symm.trans H; rw [hy264]; with_reducible exact H2_) | (have H2_ := (Option.bind_some _ _).symm.trans H; with_reducible exact H2_) | with_reducible exact H | (rw [hy264]; exact H) | exact H
 have Ny264 := Aside0.mk hy264
 clear hy264
 have H' := Aside0.mk H
 clear H
 go_enter Tryz.func73, Tryz.ntmps73
 go_wp2_with (first | ((with_reducible refine gate_dst (N := 2) rfl ?_); refine Bx (N := 2) (cs := #[.int .i64 a0_0, .string a0_1, .string a0_2]) (t := 50) (h := ?_); intro gb262 hg w4 hbox hb; have BK262 := Aside0.mk (hbox); have GW262 := Gs (w := w) hg (Bb0 HB.out); have GE262 := Gs (w := w) hg (Bb0 HB.out); replace HB := Sb (Bb0 HB.out) hb; clear hb hbox hg; obtain ⟨q5_0, q5_1, q5_2, u5_0, u5_1, u5_2⟩ := Cf3 BK262) | ((with_reducible refine gate_callee (f := 103) rfl ?_); refine goesL_ (some 10) rfl rfl Tryz.func103 (by kernel_rfl) rfl #[.int .i64 a0_0] rfl Zm ?_; (with_reducible refine (impl_NamesOf.calls a0_0 t263 _ A3.out).mono ?_); rintro e w6 ⟨rfl, hb⟩; refine ⟨_, rfl, ?_⟩; replace BK262 := Kb BK262 hb; replace HB := Sb (Bb1 HB.out GE262.out) hb; (try clear hb); (try clear hb2); (try clear hk); (try clear hi); obtain ⟨q7_0, q7_1, q7_2, u7_0, u7_1, u7_2⟩ := Cf3 BK262) | ((with_reducible refine gate_dst (N := 15) rfl ?_); refine Kd.R_lit Kd.string _ 9 ?hg (N := 15) ?hd (xs := ([a0_1, a0_2] : List ByteArray)) (inner := [.string a0_1, .string a0_2]) (ok := fun _ => True) (okp := fun _ => True) ?hr ?hp (fun _ hk => hk) trivial (Below.refl _ _) (Nat.le_refl _) (by simp) ?_; (case hd => rfl); (case hg => rfl); (case hr => first | (go_simp; done) | (go_simp; rfl)); (case hp => exact (Reps.one (show Kd.M Kd.string _ _ _ a0_1 [.string a0_1] from rfl) (Reps.one (show Kd.M Kd.string _ _ _ a0_2 [.string a0_2] from rfl) (Reps.none _ _)))); intro v265 w8 ho9 hb hg_ hnew_; clear hg_ hnew_; (first | rw [← Ny264.out] at ho9 | (simp only [Int.reduceToNat] at ho9; rw [← Ny264.out] at ho9)); have HO266 := Aside0.mk (Kd.R_lower ho9 (below_size (Bb1 HB.out GE262.out))); replace BK262 := Kb BK262 hb; replace HB := Sb (Bb1 HB.out GE262.out) hb; clear hb ho9; obtain ⟨Ao10, co10, eo10⟩ := Kd.R_slice HO266.out; subst eo10))
 go_loopg [17] k (fun kq v17 w' => ∃ (x17_1 : Int), v17 = .int .i64 x17_1 ∧ Aside0 (impl_Stmt_hasNames_IsStmt_1.l0 kq t263 y264 (y264.length : Int) x17_1 l1_0 = some r) ∧ Aside0 (kq ≤ k) ∧ Aside0 (Kd.R Kd.string 9 w' w.heap.size (fun _ => True) (.slice Ao10 y264.length co10) y264) ∧ Aside0 (w'.heap[gb262]? = some (.cells #[.int .i64 a0_0, .string a0_1, .string a0_2] 50 (0, 0))) ∧ Aside0 (Below w.heap.size w w'))
 case atStart => exact ⟨(0), Zf, H', ⟨Nat.le_refl _⟩, ⟨by (with_reducible repeat (first | apply Kd.R_alloc | apply Kd.R_drewN | apply Kd.R_drew)); exact HO266.out⟩, ⟨Ba BK262.out⟩, ⟨Bb1 HB.out GE262.out⟩⟩
 case round =>
  clear H'; try clear c1
  try clear q1
  try clear p2
  try clear c9
  try clear c10
  try clear q5_0
  try clear q5_1
  try clear q5_2
  try clear q7_0
  try clear q7_1
  try clear q7_2
  try clear u5_0
  try clear u5_1
  try clear u5_2
  try clear u7_0
  try clear u7_1
  try clear u7_2
  obtain ⟨x17_1, rfl, HA, HK1, HO_15, BK262, HB⟩ := hrel; cases gk with
  | zero => exact absurd HA.out (by simp [impl_Stmt_hasNames_IsStmt_1.l0])
  | succ k1 =>
   have H := HA.out; clear HA; simp only [impl_Stmt_hasNames_IsStmt_1.l0] at H; by_cases c11 : x17_1 < (y264.length : Int)
   ·rw [if_pos c11] at H; have c11b0 : decide (x17_1 < (y264.length : Int)) = true := decide_eq_true c11; clear c11; by_cases c12 : 0 ≤ x17_1
    ·rw [if_pos c12] at H; have c12b0 : decide (0 ≤ x17_1) = true := decide_eq_true c12; clear c12; by_cases c13 : x17_1 < (y264.length : Int)
     ·rw [if_pos c13] at H; have c13b0 : decide (x17_1 < (y264.length : Int)) = true := decide_eq_true c13; clear c13; by_cases c14 : x17_1 < t263
      ·rw [if_pos c14] at H; have c14b0 : decide (x17_1 < t263) = true := decide_eq_true c14; clear c14; replace H := Option.bind_eq_some_iff.mp H; obtain ⟨t268, A150, H⟩ := H; replace H : (if t268 = true then (if x17_1 ≥ t263 then (if (rdOf ByteArray.empty y264 x17_1).toList = ([] : List UInt8) then (impl_Stmt_hasNames_IsStmt_1.l0 k1 t263 y264 (y264.length : Int) (wrap64 (x17_1 + 1)) l1_0) else (some false)) else (impl_Stmt_hasNames_IsStmt_1.l0 k1 t263 y264 (y264.length : Int) (wrap64 (x17_1 + 1)) l1_0)) else (some false)) = some r := H; have A15 := Aside0.mk A150; clear A150; by_cases c16 : t268 = true
       ·subst c16; have H1 : (if x17_1 ≥ t263 then (if (rdOf ByteArray.empty y264 x17_1).toList = ([] : List UInt8) then (impl_Stmt_hasNames_IsStmt_1.l0 k1 t263 y264 (y264.length : Int) (wrap64 (x17_1 + 1)) l1_0) else (some false)) else (impl_Stmt_hasNames_IsStmt_1.l0 k1 t263 y264 (y264.length : Int) (wrap64 (x17_1 + 1)) l1_0)) = some r := by rw [if_pos rfl] at H; exact H
        clear H; have H := H1; clear H1; by_cases c17 : x17_1 ≥ t263
        ·rw [if_pos c17] at H; have c17b0 : decide (t263 ≤ x17_1) = true := decide_eq_true c17; clear c17; by_cases c18 : (rdOf ByteArray.empty y264 x17_1).toList = ([] : List UInt8)
         ·rw [if_pos c18] at H; have c18b0 : ((rdOf ByteArray.empty y264 x17_1).toList == ([] : List UInt8)) = true := beq_iff_eq.mpr c18; have c18b1 : ((rdOf ByteArray.empty y264 x17_1).toList != ([] : List UInt8)) = false := bne_eq_false_iff_eq.mpr c18; clear c18; have H' := Aside0.mk H; clear H; have p267 : 0 ≤ (x17_1 : Int) := Da; have q267 : x17_1 < (y264.length : Int) := Da; obtain ⟨ad267, e267, hx267_0⟩ := Kd.at_string (Kd.R_reads' HO_15.out).2.2 x17_1 p267 q267; cases e267
          replace p267 := eq_true p267; replace q267 := eq_true q267; go_wp2_with (first | (go_at_call 89; (with_reducible refine (impl_IsStmt_1_captured.calls k1 (rdOf ByteArray.empty y264 x17_1) g1_0 A1_0 c1_0 l1_0 true _ ?side1 ?side2 ?side3 A15.out).mono ?_); (case side1 => exact Bc (Kd.C_below HR1_0.out HB.out)); (case side2 => exact HC1_0.out); (case side3 => first | exact CAP1_0.out | exact (HB.out.cell (World.block_lt_of_cell? w _ CAP1_0.out)).trans CAP1_0.out); rintro e w' ⟨rfl, ⟨nd, rfl⟩⟩)); go_roundg k1
          case measure => have := HK1.out; omega
          case rel => exact ⟨(wrap64 (x17_1 + 1)), Zf, H', ⟨by have := HK1.out; omega⟩, ⟨by (with_reducible repeat (first | apply Kd.R_alloc | apply Kd.R_drewN | apply Kd.R_drew)); exact HO_15.out⟩, ⟨Ba BK262.out⟩, ⟨Bb1 HB.out GE262.out⟩⟩
         ·rw [if_neg c18] at H; have c18b0 : ((rdOf ByteArray.empty y264 x17_1).toList == ([] : List UInt8)) = false := beq_eq_false_iff_ne.mpr c18; have c18b1 : ((rdOf ByteArray.empty y264 x17_1).toList != ([] : List UInt8)) = true := bne_iff_ne.mpr c18; obtain rfl := Option.some.inj H; have p267 : 0 ≤ (x17_1 : Int) := Da; have q267 : x17_1 < (y264.length : Int) := Da; obtain ⟨ad267, e267, hx267_0⟩ := Kd.at_string (Kd.R_reads' HO_15.out).2.2 x17_1 p267 q267; cases e267
          replace p267 := eq_true p267; replace q267 := eq_true q267; go_wp2_with (first | (go_at_call 89; (with_reducible refine (impl_IsStmt_1_captured.calls k1 (rdOf ByteArray.empty y264 x17_1) g1_0 A1_0 c1_0 l1_0 true _ ?side1 ?side2 ?side3 A15.out).mono ?_); (case side1 => exact Bc (Kd.C_below HR1_0.out HB.out)); (case side2 => exact HC1_0.out); (case side3 => first | exact CAP1_0.out | exact (HB.out.cell (World.block_lt_of_cell? w _ CAP1_0.out)).trans CAP1_0.out); rintro e w' ⟨rfl, ⟨nd, rfl⟩⟩)); go_ret; exact ⟨Ze, Bb1 HB.out GE262.out⟩
        ·rw [if_neg c17] at H; have c17b0 : decide (t263 ≤ x17_1) = false := decide_eq_false c17; clear c17; have H' := Aside0.mk H; clear H; have p267 : 0 ≤ (x17_1 : Int) := Da; have q267 : x17_1 < (y264.length : Int) := Da; obtain ⟨ad267, e267, hx267_0⟩ := Kd.at_string (Kd.R_reads' HO_15.out).2.2 x17_1 p267 q267; cases e267
         replace p267 := eq_true p267; replace q267 := eq_true q267; go_wp2_with (first | (go_at_call 89; (with_reducible refine (impl_IsStmt_1_captured.calls k1 (rdOf ByteArray.empty y264 x17_1) g1_0 A1_0 c1_0 l1_0 true _ ?side1 ?side2 ?side3 A15.out).mono ?_); (case side1 => exact Bc (Kd.C_below HR1_0.out HB.out)); (case side2 => exact HC1_0.out); (case side3 => first | exact CAP1_0.out | exact (HB.out.cell (World.block_lt_of_cell? w _ CAP1_0.out)).trans CAP1_0.out); rintro e w' ⟨rfl, ⟨nd, rfl⟩⟩)); go_roundg k1
         case measure => have := HK1.out; omega
         case rel => exact ⟨(wrap64 (x17_1 + 1)), Zf, H', ⟨by have := HK1.out; omega⟩, ⟨by (with_reducible repeat (first | apply Kd.R_alloc | apply Kd.R_drewN | apply Kd.R_drew)); exact HO_15.out⟩, ⟨Ba BK262.out⟩, ⟨Bb1 HB.out GE262.out⟩⟩
       ·replace c16 := Bool.eq_false_iff.mpr c16; subst c16; have H1 : (some false) = some r := by rw [if_neg (show ¬ (false = true) by decide)] at H; exact H
        clear H; have H := H1; clear H1; obtain rfl := Option.some.inj H; have p267 : 0 ≤ (x17_1 : Int) := Da; have q267 : x17_1 < (y264.length : Int) := Da; obtain ⟨ad267, e267, hx267_0⟩ := Kd.at_string (Kd.R_reads' HO_15.out).2.2 x17_1 p267 q267; cases e267
        replace p267 := eq_true p267; replace q267 := eq_true q267; go_wp2_with (first | (go_at_call 89; (with_reducible refine (impl_IsStmt_1_captured.calls k1 (rdOf ByteArray.empty y264 x17_1) g1_0 A1_0 c1_0 l1_0 false _ ?side1 ?side2 ?side3 A15.out).mono ?_); (case side1 => exact Bc (Kd.C_below HR1_0.out HB.out)); (case side2 => exact HC1_0.out); (case side3 => first | exact CAP1_0.out | exact (HB.out.cell (World.block_lt_of_cell? w _ CAP1_0.out)).trans CAP1_0.out); rintro e w' ⟨rfl, ⟨nd, rfl⟩⟩)); go_ret; exact ⟨Ze, Bb1 HB.out GE262.out⟩
      ·rw [if_neg c14] at H; have c14b0 : decide (x17_1 < t263) = false := decide_eq_false c14; clear c14; by_cases c19 : x17_1 ≥ t263
       ·rw [if_pos c19] at H; have c19b0 : decide (t263 ≤ x17_1) = true := decide_eq_true c19; clear c19; by_cases c20 : (rdOf ByteArray.empty y264 x17_1).toList = ([] : List UInt8)
        ·rw [if_pos c20] at H; have c20b0 : ((rdOf ByteArray.empty y264 x17_1).toList == ([] : List UInt8)) = true := beq_iff_eq.mpr c20; have c20b1 : ((rdOf ByteArray.empty y264 x17_1).toList != ([] : List UInt8)) = false := bne_eq_false_iff_eq.mpr c20; clear c20; have H' := Aside0.mk H; clear H; have p267 : 0 ≤ (x17_1 : Int) := Da; have q267 : x17_1 < (y264.length : Int) := Da; obtain ⟨ad267, e267, hx267_0⟩ := Kd.at_string (Kd.R_reads' HO_15.out).2.2 x17_1 p267 q267; cases e267
         replace p267 := eq_true p267; replace q267 := eq_true q267; go_wp2; go_roundg k1
         case measure => have := HK1.out; omega
         case rel => exact ⟨(wrap64 (x17_1 + 1)), Zf, H', ⟨by have := HK1.out; omega⟩, ⟨by (with_reducible repeat (first | apply Kd.R_alloc | apply Kd.R_drewN | apply Kd.R_drew)); exact HO_15.out⟩, ⟨Ba BK262.out⟩, ⟨Bb1 HB.out GE262.out⟩⟩
        ·rw [if_neg c20] at H; have c20b0 : ((rdOf ByteArray.empty y264 x17_1).toList == ([] : List UInt8)) = false := beq_eq_false_iff_ne.mpr c20; have c20b1 : ((rdOf ByteArray.empty y264 x17_1).toList != ([] : List UInt8)) = true := bne_iff_ne.mpr c20; obtain rfl := Option.some.inj H; have p267 : 0 ≤ (x17_1 : Int) := Da; have q267 : x17_1 < (y264.length : Int) := Da; obtain ⟨ad267, e267, hx267_0⟩ := Kd.at_string (Kd.R_reads' HO_15.out).2.2 x17_1 p267 q267; cases e267
         replace p267 := eq_true p267; replace q267 := eq_true q267; go_wp2; go_ret; exact ⟨Ze, Bb1 HB.out GE262.out⟩
       ·rw [if_neg c19] at H; have c19b0 : decide (t263 ≤ x17_1) = false := decide_eq_false c19; clear c19; have H' := Aside0.mk H; clear H; have p267 : 0 ≤ (x17_1 : Int) := Da; have q267 : x17_1 < (y264.length : Int) := Da; obtain ⟨ad267, e267, hx267_0⟩ := Kd.at_string (Kd.R_reads' HO_15.out).2.2 x17_1 p267 q267; cases e267
        replace p267 := eq_true p267; replace q267 := eq_true q267; go_wp2; go_roundg k1
        case measure => have := HK1.out; omega
        case rel => exact ⟨(wrap64 (x17_1 + 1)), Zf, H', ⟨by have := HK1.out; omega⟩, ⟨by (with_reducible repeat (first | apply Kd.R_alloc | apply Kd.R_drewN | apply Kd.R_drew)); exact HO_15.out⟩, ⟨Ba BK262.out⟩, ⟨Bb1 HB.out GE262.out⟩⟩
     ·rw [if_neg c13] at H; exact absurd H (by simp)
    ·rw [if_neg c12] at H; exact absurd H (by simp)
   ·rw [if_neg c11] at H; have c11b0 : decide (x17_1 < (y264.length : Int)) = false := decide_eq_false c11; clear c11; obtain rfl := Option.some.inj H; go_wp2; go_ret; exact ⟨Ze, Bb1 HB.out GE262.out⟩
def impl_IsStmt.f (k : Nat) (l0 : List ByteArray) (a1_0 : Int) (a1_1 : ByteArray) (a1_2 : ByteArray) : Option (Bool) := (impl_AreVars.f k l0).bind fun t271 => (if t271 = true then ((impl_Stmt_hasNames_IsStmt_1.f k a1_0 a1_1 a1_2 l0).bind fun t272 => (some t272)) else (some false))
theorem impl_IsStmt.mono : ∀ a0 a1 a2 a3 k, LeO (impl_IsStmt.f k a0 a1 a2 a3) (impl_IsStmt.f (k + 1) a0 a1 a2 a3) := by
 intro a0 a1 a2 a3 k
 unfold impl_IsStmt.f
 repeat' with_reducible first | exact impl_AreVars.mono _ _ | exact impl_Stmt_hasNames_IsStmt_1.mono _ _ _ _ _ | exact LeO.refl _ | exact LeO.none _ | refine LeO.ite ?_ ?_ | refine LeO.bind ?_ (fun _ => ?_)
set_option maxHeartbeats 32000000 in
set_option maxRecDepth 100000 in
theorem impl_IsStmt.calls (k : Nat) (A0 : Option Addr) (c0 : Nat) (l0 : List ByteArray) (a1_0 : Int) (a1_1 : ByteArray) (a1_2 : ByteArray) (r : Bool) (w : World) (hr0 : Kd.C Kd.string w A0 l0.length l0) (hc0 : l0.length ≤ c0) (h : impl_IsStmt.f k l0 a1_0 a1_1 a1_2 = some r) :
  Calls Tryz.prog 56 #[.slice A0 l0.length c0, .agg #[.int .i64 a1_0, .string a1_1, .string a1_2]] w fun e w' => e = .returned (.bool r) ∧ Below w.heap.size w w' := by
 have hu50 := Tryz.underlying50
 have HR0 := Aside0.mk hr0
 have HC0 := Aside0.mk hc0
 clear hr0 hc0
 have HB := Aside0.mk (Below.refl w.heap.size w)
 have H : ((impl_AreVars.f k l0).bind fun t271 => (if t271 = true then ((impl_Stmt_hasNames_IsStmt_1.f k a1_0 a1_1 a1_2 l0).bind fun t272 => (some t272)) else (some false))) = some r := h
 clear h
 replace H := Option.bind_eq_some_iff.mp H
 obtain ⟨t271, A30, H⟩ := H
 replace H : (if t271 = true then ((impl_Stmt_hasNames_IsStmt_1.f k a1_0 a1_1 a1_2 l0).bind fun t272 => (some t272)) else (some false)) = some r := H
 have A3 := Aside0.mk A30
 clear A30
 by_cases c4 : t271 = true
 ·subst c4
  have H1 : ((impl_Stmt_hasNames_IsStmt_1.f k a1_0 a1_1 a1_2 l0).bind fun t272 => (some t272)) = some r := by rw [if_pos rfl] at H; exact H
  clear H; have H := H1; clear H1; replace H := Option.bind_eq_some_iff.mp H; obtain ⟨t272, A50, H⟩ := H; replace H : (some t272) = some r := H; have A5 := Aside0.mk A50; clear A50; obtain rfl := Option.some.inj H; go_enter Tryz.func56, Tryz.ntmps56; go_wp2_with (first | ((with_reducible refine gate_dst (N := 2) rfl ?_); refine Bx (N := 2) (cs := #[.slice A0 l0.length c0]) (t := 22) (h := ?_); intro gb269 hg w6 hbox hb; have BK269 := Aside0.mk (hbox); have GW269 := Gs (w := w) hg (Bb0 HB.out); have GE269 := Gs (w := w) hg (Bb0 HB.out); replace HB := Sb (Bb0 HB.out) hb; clear hb hbox hg) | ((with_reducible refine gate_dst (N := 3) rfl ?_); refine Bx (N := 3) (cs := #[.int .i64 a1_0, .string a1_1, .string a1_2]) (t := 50) (h := ?_); intro gb270 hg w7 hbox hb; have BK270 := Aside0.mk (hbox); have GW270 := Gs (w := w) hg (Bb1 HB.out GE269.out); have GE270 := Gs (w := w) hg (Bb1 HB.out GE269.out); replace HB := Sb (Bb1 HB.out GE269.out) hb; have NB269_270 := Nl hg BK269; have NB270_269 := Ng hg BK269; replace BK269 := Kb BK269 hb; clear hb hbox hg; have hnb8 := NB269_270.out; have hnc8 := NB270_269.out; obtain ⟨q9_0, u9_0⟩ := Cf1 BK269) | ((with_reducible refine gate_callee (f := 52) rfl ?_); refine goesL_ (some 6) rfl rfl Tryz.func52 (by kernel_rfl) rfl #[.slice A0 l0.length c0] rfl Zm ?_; (with_reducible refine (impl_AreVars.calls k _ _ l0 true _ ?side1 ?side2 A3.out).mono ?_); (case side1 => exact Bc (Kd.C_below HR0.out HB.out)); (case side2 => exact HC0.out); rintro e w' ⟨rfl, ⟨nd, rfl⟩⟩; refine ⟨_, rfl, ?_⟩; obtain ⟨q10_0, q10_1, q10_2, u10_0, u10_1, u10_2⟩ := Cf3 BK270) | (go_at_call 73; (with_reducible refine (impl_Stmt_hasNames_IsStmt_1.calls k a1_0 a1_1 a1_2 gb269 A0 c0 l0 t272 _ ?side1 ?side2 ?side3 A5.out).mono ?_); (case side1 => exact Bc (Kd.C_below HR0.out (Bb2 HB.out GE269.out GE270.out))); (case side2 => exact HC0.out); (case side3 => exact (blk_cell (g := gb269) (cs := #[.slice A0 l0.length c0]) (t := 22) (Ba BK269.out) 0).trans rfl); rintro e w11 ⟨rfl, hb⟩; replace BK269 := Kb BK269 hb; replace BK270 := Kb BK270 hb; replace HB := Sb (Bb2 HB.out GE269.out GE270.out) hb; (try clear hb); (try clear hb2); (try clear hk); (try clear hi))); go_ret; exact ⟨Ze, Bb2 HB.out GE269.out GE270.out⟩
 ·replace c4 := Bool.eq_false_iff.mpr c4
  subst c4; have H1 : (some false) = some r := by rw [if_neg (show ¬ (false = true) by decide)] at H; exact H
  clear H; have H := H1; clear H1; obtain rfl := Option.some.inj H; go_enter Tryz.func56, Tryz.ntmps56; go_wp2_with (first | ((with_reducible refine gate_dst (N := 2) rfl ?_); refine Bx (N := 2) (cs := #[.slice A0 l0.length c0]) (t := 22) (h := ?_); intro gb269 hg w12 hbox hb; have BK269 := Aside0.mk (hbox); have GW269 := Gs (w := w) hg (Bb0 HB.out); have GE269 := Gs (w := w) hg (Bb0 HB.out); replace HB := Sb (Bb0 HB.out) hb; clear hb hbox hg) | ((with_reducible refine gate_dst (N := 3) rfl ?_); refine Bx (N := 3) (cs := #[.int .i64 a1_0, .string a1_1, .string a1_2]) (t := 50) (h := ?_); intro gb270 hg w13 hbox hb; have BK270 := Aside0.mk (hbox); have GW270 := Gs (w := w) hg (Bb1 HB.out GE269.out); have GE270 := Gs (w := w) hg (Bb1 HB.out GE269.out); replace HB := Sb (Bb1 HB.out GE269.out) hb; have NB269_270 := Nl hg BK269; have NB270_269 := Ng hg BK269; replace BK269 := Kb BK269 hb; clear hb hbox hg; have hnb14 := NB269_270.out; have hnc14 := NB270_269.out; obtain ⟨q15_0, u15_0⟩ := Cf1 BK269) | ((with_reducible refine gate_callee (f := 52) rfl ?_); refine goesL_ (some 6) rfl rfl Tryz.func52 (by kernel_rfl) rfl #[.slice A0 l0.length c0] rfl Zm ?_; (with_reducible refine (impl_AreVars.calls k _ _ l0 false _ ?side1 ?side2 A3.out).mono ?_); (case side1 => exact Bc (Kd.C_below HR0.out HB.out)); (case side2 => exact HC0.out); rintro e w' ⟨rfl, ⟨nd, rfl⟩⟩; refine ⟨_, rfl, ?_⟩)); go_ret; exact ⟨Ze, Bb2 HB.out GE269.out GE270.out⟩
def impl_IsProgram_1_captured.f (k : Nat) (a0_0 : Int) (a0_1 : Int) (a0_2 : Int) (a0_3 : ByteArray) (a0_4 : ByteArray) (l1_0 : List ByteArray) (a1_1 : Int) (l1_2 : List (S52)) : Option (Bool) := (impl_within.f a0_0 0 (wrap64 (a1_1 - 1))).bind fun t274 => (if t274 = true then ((impl_within.f a0_1 0 (wrap64 (a1_1 - 1))).bind fun t275 => (if t275 = true then ((impl_IsStmt.f k l1_0 a0_2 a0_3 a0_4).bind fun t276 => (some (!t276))) else (some true))) else (some true))
theorem impl_IsProgram_1_captured.mono : ∀ a0 a1 a2 a3 a4 a5 a6 a7 k, LeO (impl_IsProgram_1_captured.f k a0 a1 a2 a3 a4 a5 a6 a7) (impl_IsProgram_1_captured.f (k + 1) a0 a1 a2 a3 a4 a5 a6 a7) := by
 intro a0 a1 a2 a3 a4 a5 a6 a7 k
 unfold impl_IsProgram_1_captured.f
 repeat' with_reducible first | exact impl_IsStmt.mono _ _ _ _ _ | exact LeO.refl _ | exact LeO.none _ | refine LeO.ite ?_ ?_ | refine LeO.bind ?_ (fun _ => ?_)
set_option maxHeartbeats 32000000 in
set_option maxRecDepth 100000 in
theorem impl_IsProgram_1_captured.calls (k : Nat) (a0_0 : Int) (a0_1 : Int) (a0_2 : Int) (a0_3 : ByteArray) (a0_4 : ByteArray) (g1_0 : Nat) (A1_0 : Option Addr) (c1_0 : Nat) (l1_0 : List ByteArray) (a1_1 : Int) (A1_2 : Option Addr) (c1_2 : Nat) (l1_2 : List (S52)) (r : Bool) (w : World) (hr1_0 : Kd.C Kd.string w A1_0 l1_0.length l1_0) (hc1_0 : l1_0.length ≤ c1_0) (hr1_2 : Kd.C k52 w A1_2 l1_2.length l1_2) (hc1_2 : l1_2.length ≤ c1_2) (hq1_0 : w.cell? ⟨g1_0, 0, none⟩ = some (.slice A1_0 l1_0.length c1_0)) (hq1_1 : w.cell? ⟨g1_0, 1, none⟩ = some (.int .i64 a1_1)) (hq1_2 : w.cell? ⟨g1_0, 2, none⟩ = some (.slice A1_2 l1_2.length c1_2)) (h : impl_IsProgram_1_captured.f k a0_0 a0_1 a0_2 a0_3 a0_4 l1_0 a1_1 l1_2 = some r) :
  Calls Tryz.prog 55 #[.agg #[.int .i64 a0_0, .int .i64 a0_1, .int .i64 a0_2, .string a0_3, .string a0_4], .pointer (some ⟨g1_0, 0, none⟩)] w fun e w' => e = .returned (.bool r) ∧ Below w.heap.size w w' := by
 have hu52 := Tryz.underlying52
 have hu50 := Tryz.underlying50
 have HR1_0 := Aside0.mk hr1_0
 have HC1_0 := Aside0.mk hc1_0
 clear hr1_0 hc1_0
 have HR1_2 := Aside0.mk hr1_2
 have HC1_2 := Aside0.mk hc1_2
 clear hr1_2 hc1_2
 have CAP1_0 := Aside0.mk hq1_0
 clear hq1_0
 have CAP1_1 := Aside0.mk hq1_1
 clear hq1_1
 have CAP1_2 := Aside0.mk hq1_2
 clear hq1_2
 have HB := Aside0.mk (Below.refl w.heap.size w)
 have H : ((impl_within.f a0_0 0 (wrap64 (a1_1 - 1))).bind fun t274 => (if t274 = true then ((impl_within.f a0_1 0 (wrap64 (a1_1 - 1))).bind fun t275 => (if t275 = true then ((impl_IsStmt.f k l1_0 a0_2 a0_3 a0_4).bind fun t276 => (some (!t276))) else (some true))) else (some true))) = some r := h
 clear h
 replace H := Option.bind_eq_some_iff.mp H
 obtain ⟨t274, A30, H⟩ := H
 replace H : (if t274 = true then ((impl_within.f a0_1 0 (wrap64 (a1_1 - 1))).bind fun t275 => (if t275 = true then ((impl_IsStmt.f k l1_0 a0_2 a0_3 a0_4).bind fun t276 => (some (!t276))) else (some true))) else (some true)) = some r := H
 have A3 := Aside0.mk A30
 clear A30
 by_cases c4 : t274 = true
 ·subst c4
  have H1 : ((impl_within.f a0_1 0 (wrap64 (a1_1 - 1))).bind fun t275 => (if t275 = true then ((impl_IsStmt.f k l1_0 a0_2 a0_3 a0_4).bind fun t276 => (some (!t276))) else (some true))) = some r := by rw [if_pos rfl] at H; exact H
  clear H; have H := H1; clear H1; replace H := Option.bind_eq_some_iff.mp H; obtain ⟨t275, A50, H⟩ := H; replace H : (if t275 = true then ((impl_IsStmt.f k l1_0 a0_2 a0_3 a0_4).bind fun t276 => (some (!t276))) else (some true)) = some r := H; have A5 := Aside0.mk A50; clear A50; by_cases c6 : t275 = true
  ·subst c6; have H1 : ((impl_IsStmt.f k l1_0 a0_2 a0_3 a0_4).bind fun t276 => (some (!t276))) = some r := by rw [if_pos rfl] at H; exact H
   clear H; have H := H1; clear H1; replace H := Option.bind_eq_some_iff.mp H; obtain ⟨t276, A70, H⟩ := H; replace H : (some (!t276)) = some r := H; have A7 := Aside0.mk A70; clear A70; obtain rfl := Option.some.inj H; go_enter Tryz.func55, Tryz.ntmps55; go_wp2_with (first | ((with_reducible refine gate_dst (N := 2) rfl ?_); refine Bx (N := 2) (cs := #[.int .i64 a0_0, .int .i64 a0_1, .int .i64 a0_2, .string a0_3, .string a0_4]) (t := 52) (h := ?_); intro gb273 hg w8 hbox hb; have BK273 := Aside0.mk (hbox); have GW273 := Gs (w := w) hg (Bb0 HB.out); have GE273 := Gs (w := w) hg (Bb0 HB.out); replace HB := Sb (Bb0 HB.out) hb; clear hb hbox hg; obtain ⟨q9_0, q9_1, q9_2, q9_3, q9_4, u9_0, u9_1, u9_2, u9_3, u9_4⟩ := Cf5 BK273; have hcpz10_0 : w8.cell? ⟨g1_0, 0, none⟩ = some (.slice A1_0 l1_0.length c1_0) := (by first | exact CAP1_0.out | exact (HB.out.cell (World.block_lt_of_cell? w _ CAP1_0.out)).trans CAP1_0.out); have hcpz10_1 : w8.cell? ⟨g1_0, 1, none⟩ = some (.int .i64 a1_1) := (by first | exact CAP1_1.out | exact (HB.out.cell (World.block_lt_of_cell? w _ CAP1_1.out)).trans CAP1_1.out); have hcpz10_2 : w8.cell? ⟨g1_0, 2, none⟩ = some (.slice A1_2 l1_2.length c1_2) := (by first | exact CAP1_2.out | exact (HB.out.cell (World.block_lt_of_cell? w _ CAP1_2.out)).trans CAP1_2.out)) | ((with_reducible refine gate_callee (f := 53) rfl ?_); refine goesL_ (some 9) rfl rfl Tryz.func53 (by kernel_rfl) rfl #[.int .i64 a0_0, .int .i64 0, .int .i64 (wrap64 (a1_1 - 1))] rfl Zm ?_; (with_reducible refine (impl_within.calls a0_0 0 (wrap64 (a1_1 - 1)) true _ A3.out).mono ?_); rintro e w' ⟨rfl, ⟨nd, rfl⟩⟩; refine ⟨_, rfl, ?_⟩) | (go_at_call 53; (with_reducible refine (impl_within.calls a0_1 0 (wrap64 (a1_1 - 1)) true _ A5.out).mono ?_); rintro e w' ⟨rfl, ⟨nd, rfl⟩⟩) | (go_at_call 56; (with_reducible refine (impl_IsStmt.calls k _ _ l1_0 a0_2 a0_3 a0_4 t276 _ ?side1 ?side2 A7.out).mono ?_); (case side1 => exact Bc (Kd.C_below HR1_0.out (Bb1 HB.out GE273.out))); (case side2 => exact HC1_0.out); rintro e w11 ⟨rfl, hb⟩; replace BK273 := Kb BK273 hb; replace HB := Sb (Bb1 HB.out GE273.out) hb; (try clear hb); (try clear hb2); (try clear hk); (try clear hi))); go_ret; exact ⟨Ze, Bb1 HB.out GE273.out⟩
  ·replace c6 := Bool.eq_false_iff.mpr c6; subst c6; have H1 : (some true) = some r := by rw [if_neg (show ¬ (false = true) by decide)] at H; exact H
   clear H; have H := H1; clear H1; obtain rfl := Option.some.inj H; go_enter Tryz.func55, Tryz.ntmps55; go_wp2_with (first | ((with_reducible refine gate_dst (N := 2) rfl ?_); refine Bx (N := 2) (cs := #[.int .i64 a0_0, .int .i64 a0_1, .int .i64 a0_2, .string a0_3, .string a0_4]) (t := 52) (h := ?_); intro gb273 hg w12 hbox hb; have BK273 := Aside0.mk (hbox); have GW273 := Gs (w := w) hg (Bb0 HB.out); have GE273 := Gs (w := w) hg (Bb0 HB.out); replace HB := Sb (Bb0 HB.out) hb; clear hb hbox hg; obtain ⟨q13_0, q13_1, q13_2, q13_3, q13_4, u13_0, u13_1, u13_2, u13_3, u13_4⟩ := Cf5 BK273; have hcpz14_0 : w12.cell? ⟨g1_0, 0, none⟩ = some (.slice A1_0 l1_0.length c1_0) := (by first | exact CAP1_0.out | exact (HB.out.cell (World.block_lt_of_cell? w _ CAP1_0.out)).trans CAP1_0.out); have hcpz14_1 : w12.cell? ⟨g1_0, 1, none⟩ = some (.int .i64 a1_1) := (by first | exact CAP1_1.out | exact (HB.out.cell (World.block_lt_of_cell? w _ CAP1_1.out)).trans CAP1_1.out); have hcpz14_2 : w12.cell? ⟨g1_0, 2, none⟩ = some (.slice A1_2 l1_2.length c1_2) := (by first | exact CAP1_2.out | exact (HB.out.cell (World.block_lt_of_cell? w _ CAP1_2.out)).trans CAP1_2.out)) | ((with_reducible refine gate_callee (f := 53) rfl ?_); refine goesL_ (some 9) rfl rfl Tryz.func53 (by kernel_rfl) rfl #[.int .i64 a0_0, .int .i64 0, .int .i64 (wrap64 (a1_1 - 1))] rfl Zm ?_; (with_reducible refine (impl_within.calls a0_0 0 (wrap64 (a1_1 - 1)) true _ A3.out).mono ?_); rintro e w' ⟨rfl, ⟨nd, rfl⟩⟩; refine ⟨_, rfl, ?_⟩) | (go_at_call 53; (with_reducible refine (impl_within.calls a0_1 0 (wrap64 (a1_1 - 1)) false _ A5.out).mono ?_); rintro e w' ⟨rfl, ⟨nd, rfl⟩⟩)); go_ret; exact ⟨Ze, Bb1 HB.out GE273.out⟩
 ·replace c4 := Bool.eq_false_iff.mpr c4
  subst c4; have H1 : (some true) = some r := by rw [if_neg (show ¬ (false = true) by decide)] at H; exact H
  clear H; have H := H1; clear H1; obtain rfl := Option.some.inj H; go_enter Tryz.func55, Tryz.ntmps55; go_wp2_with (first | ((with_reducible refine gate_dst (N := 2) rfl ?_); refine Bx (N := 2) (cs := #[.int .i64 a0_0, .int .i64 a0_1, .int .i64 a0_2, .string a0_3, .string a0_4]) (t := 52) (h := ?_); intro gb273 hg w15 hbox hb; have BK273 := Aside0.mk (hbox); have GW273 := Gs (w := w) hg (Bb0 HB.out); have GE273 := Gs (w := w) hg (Bb0 HB.out); replace HB := Sb (Bb0 HB.out) hb; clear hb hbox hg; obtain ⟨q16_0, q16_1, q16_2, q16_3, q16_4, u16_0, u16_1, u16_2, u16_3, u16_4⟩ := Cf5 BK273; have hcpz17_0 : w15.cell? ⟨g1_0, 0, none⟩ = some (.slice A1_0 l1_0.length c1_0) := (by first | exact CAP1_0.out | exact (HB.out.cell (World.block_lt_of_cell? w _ CAP1_0.out)).trans CAP1_0.out); have hcpz17_1 : w15.cell? ⟨g1_0, 1, none⟩ = some (.int .i64 a1_1) := (by first | exact CAP1_1.out | exact (HB.out.cell (World.block_lt_of_cell? w _ CAP1_1.out)).trans CAP1_1.out); have hcpz17_2 : w15.cell? ⟨g1_0, 2, none⟩ = some (.slice A1_2 l1_2.length c1_2) := (by first | exact CAP1_2.out | exact (HB.out.cell (World.block_lt_of_cell? w _ CAP1_2.out)).trans CAP1_2.out)) | ((with_reducible refine gate_callee (f := 53) rfl ?_); refine goesL_ (some 9) rfl rfl Tryz.func53 (by kernel_rfl) rfl #[.int .i64 a0_0, .int .i64 0, .int .i64 (wrap64 (a1_1 - 1))] rfl Zm ?_; (with_reducible refine (impl_within.calls a0_0 0 (wrap64 (a1_1 - 1)) false _ A3.out).mono ?_); rintro e w' ⟨rfl, ⟨nd, rfl⟩⟩; refine ⟨_, rfl, ?_⟩)); go_ret; exact ⟨Ze, Bb1 HB.out GE273.out⟩
def impl_Edge_IsProgram_1_88.l0 : Nat → List (S52) → Int → Int → List ByteArray → Int → List (S52) → Option (Int)
 | 0, _, _, _, _, _, _ => none
 | k + 1, x0, x7, x8, x2000, x2001, x2002 => if x8 < x7 then (if 0 ≤ x8 then (if x8 < (x0.length : Int) then ((impl_IsProgram_1_captured.f k ((rd_T52 x0 x8).f0) ((rd_T52 x0 x8).f1) ((rd_T52 x0 x8).f2.f0) ((rd_T52 x0 x8).f2.f1) ((rd_T52 x0 x8).f2.f2) x2000 x2001 x2002).bind fun t278 => (if t278 = true then (some x8) else (impl_Edge_IsProgram_1_88.l0 k x0 x7 (wrap64 (x8 + 1)) x2000 x2001 x2002))) else (none)) else (none)) else (some (-1))
def impl_Edge_IsProgram_1_88.f (k : Nat) (l0 : List (S52)) (l1_0 : List ByteArray) (a1_1 : Int) (l1_2 : List (S52)) : Option (Int) := impl_Edge_IsProgram_1_88.l0 k l0 (l0.length : Int) 0 l1_0 a1_1 l1_2
theorem impl_Edge_IsProgram_1_88.mono_l : ∀ k, (∀ y0 y1 y2 y3 y4 y5, LeO (impl_Edge_IsProgram_1_88.l0 k y0 y1 y2 y3 y4 y5) (impl_Edge_IsProgram_1_88.l0 (k + 1) y0 y1 y2 y3 y4 y5))
 | 0 => fun _ _ _ _ _ _ r h => by simp [impl_Edge_IsProgram_1_88.l0] at h
 | k + 1 => by
  have ih0 := impl_Edge_IsProgram_1_88.mono_l k
  ·intro y0 y1 y2 y3 y4 y5; unfold impl_Edge_IsProgram_1_88.l0; repeat' with_reducible first | exact ih0 _ _ _ _ _ _ | exact impl_IsProgram_1_captured.mono _ _ _ _ _ _ _ _ _ | exact LeO.refl _ | exact LeO.none _ | refine LeO.ite ?_ ?_ | refine LeO.bind ?_ (fun _ => ?_)
theorem impl_Edge_IsProgram_1_88.mono : ∀ a0 a1 a2 a3 k, LeO (impl_Edge_IsProgram_1_88.f k a0 a1 a2 a3) (impl_Edge_IsProgram_1_88.f (k + 1) a0 a1 a2 a3) := by
 intro a0 a1 a2 a3 k
 have ih0 := impl_Edge_IsProgram_1_88.mono_l k
 unfold impl_Edge_IsProgram_1_88.f
 repeat' with_reducible first | exact ih0 _ _ _ _ _ _ | exact impl_IsProgram_1_captured.mono _ _ _ _ _ _ _ _ _ | exact LeO.refl _ | exact LeO.none _ | refine LeO.ite ?_ ?_ | refine LeO.bind ?_ (fun _ => ?_)
set_option maxHeartbeats 32000000 in
set_option maxRecDepth 100000 in
theorem impl_Edge_IsProgram_1_88.calls (k : Nat) (A0 : Option Addr) (c0 : Nat) (l0 : List (S52)) (g1_0 : Nat) (A1_0 : Option Addr) (c1_0 : Nat) (l1_0 : List ByteArray) (a1_1 : Int) (A1_2 : Option Addr) (c1_2 : Nat) (l1_2 : List (S52)) (r : Int) (w : World) (hr0 : Kd.C k52 w A0 l0.length l0) (hc0 : l0.length ≤ c0) (hr1_0 : Kd.C Kd.string w A1_0 l1_0.length l1_0) (hc1_0 : l1_0.length ≤ c1_0) (hr1_2 : Kd.C k52 w A1_2 l1_2.length l1_2) (hc1_2 : l1_2.length ≤ c1_2) (hq1_0 : w.cell? ⟨g1_0, 0, none⟩ = some (.slice A1_0 l1_0.length c1_0)) (hq1_1 : w.cell? ⟨g1_0, 1, none⟩ = some (.int .i64 a1_1)) (hq1_2 : w.cell? ⟨g1_0, 2, none⟩ = some (.slice A1_2 l1_2.length c1_2)) (h : impl_Edge_IsProgram_1_88.f k l0 l1_0 a1_1 l1_2 = some r) :
  Calls Tryz.prog 88 #[.slice A0 l0.length c0, .func (.func 55) #[] #[.pointer (some ⟨g1_0, 0, none⟩)]] w fun e w' => e = .returned (.int .i64 r) ∧ Below w.heap.size w w' := by
 have hu52 := Tryz.underlying52
 have HR0 := Aside0.mk hr0
 have HC0 := Aside0.mk hc0
 clear hr0 hc0
 have HR1_0 := Aside0.mk hr1_0
 have HC1_0 := Aside0.mk hc1_0
 clear hr1_0 hc1_0
 have HR1_2 := Aside0.mk hr1_2
 have HC1_2 := Aside0.mk hc1_2
 clear hr1_2 hc1_2
 have CAP1_0 := Aside0.mk hq1_0
 clear hq1_0
 have CAP1_1 := Aside0.mk hq1_1
 clear hq1_1
 have CAP1_2 := Aside0.mk hq1_2
 clear hq1_2
 have HB := Aside0.mk (Below.refl w.heap.size w)
 have H : (impl_Edge_IsProgram_1_88.l0 k l0 (l0.length : Int) 0 l1_0 a1_1 l1_2) = some r := h
 clear h
 have H' := Aside0.mk H
 clear H
 go_enter Tryz.func88, Tryz.ntmps88
 go_wp2
 go_loopg [8] k (fun kq v8 w' => ∃ (x8_1 : Int), v8 = .int .i64 x8_1 ∧ Aside0 (impl_Edge_IsProgram_1_88.l0 kq l0 (l0.length : Int) x8_1 l1_0 a1_1 l1_2 = some r) ∧ Aside0 (kq ≤ k) ∧ Aside0 (Below w.heap.size w w'))
 case atStart => exact ⟨(0), Zf, H', ⟨Nat.le_refl _⟩, ⟨Bb0 HB.out⟩⟩
 case round =>
  clear H'; try clear c1
  try clear q1
  try clear p2
  obtain ⟨x8_1, rfl, HA, HK1, HB⟩ := hrel; cases gk with
  | zero => exact absurd HA.out (by simp [impl_Edge_IsProgram_1_88.l0])
  | succ k1 =>
   have H := HA.out; clear HA; simp only [impl_Edge_IsProgram_1_88.l0] at H; by_cases c3 : x8_1 < (l0.length : Int)
   ·rw [if_pos c3] at H; have c3b0 : decide (x8_1 < (l0.length : Int)) = true := decide_eq_true c3; clear c3; by_cases c4 : 0 ≤ x8_1
    ·rw [if_pos c4] at H; have c4b0 : decide (0 ≤ x8_1) = true := decide_eq_true c4; clear c4; by_cases c5 : x8_1 < (l0.length : Int)
     ·rw [if_pos c5] at H; have c5b0 : decide (x8_1 < (l0.length : Int)) = true := decide_eq_true c5; clear c5; replace H := Option.bind_eq_some_iff.mp H; obtain ⟨t278, A60, H⟩ := H; replace H : (if t278 = true then (some x8_1) else (impl_Edge_IsProgram_1_88.l0 k1 l0 (l0.length : Int) (wrap64 (x8_1 + 1)) l1_0 a1_1 l1_2)) = some r := H; have A6 := Aside0.mk A60; clear A60; by_cases c7 : t278 = true
      ·subst c7; have H1 : (some x8_1) = some r := by rw [if_pos rfl] at H; exact H
       clear H; have H := H1; clear H1; obtain rfl := Option.some.inj H; have p277 : 0 ≤ (x8_1 : Int) := Da; have q277 : x8_1 < (l0.length : Int) := Da; obtain ⟨ad277, e277, hx277_0, hx277_1, hx277_2, hx277_3, hx277_4⟩ := at_T52 HR0.out x8_1 p277 q277; cases e277
       replace hx277_0 := Cx HB hx277_0; replace hx277_1 := Cx HB hx277_1; replace hx277_2 := Cx HB hx277_2; replace hx277_3 := Cx HB hx277_3; replace hx277_4 := Cx HB hx277_4; replace p277 := eq_true p277; replace q277 := eq_true q277; go_wp2_with (first | (go_at_call 55; (with_reducible refine (impl_IsProgram_1_captured.calls k1 ((rd_T52 l0 x8_1).f0) ((rd_T52 l0 x8_1).f1) ((rd_T52 l0 x8_1).f2.f0) ((rd_T52 l0 x8_1).f2.f1) ((rd_T52 l0 x8_1).f2.f2) g1_0 A1_0 c1_0 l1_0 a1_1 A1_2 c1_2 l1_2 true _ ?side1 ?side2 ?side3 ?side4 ?side5 ?side6 ?side7 A6.out).mono ?_); (case side1 => exact Bc (Kd.C_below HR1_0.out HB.out)); (case side2 => exact HC1_0.out); (case side3 => exact Bc (Kd.C_below HR1_2.out HB.out)); (case side4 => exact HC1_2.out); (case side5 => first | exact CAP1_0.out | exact (HB.out.cell (World.block_lt_of_cell? w _ CAP1_0.out)).trans CAP1_0.out); (case side6 => first | exact CAP1_1.out | exact (HB.out.cell (World.block_lt_of_cell? w _ CAP1_1.out)).trans CAP1_1.out); (case side7 => first | exact CAP1_2.out | exact (HB.out.cell (World.block_lt_of_cell? w _ CAP1_2.out)).trans CAP1_2.out); rintro e w8 ⟨rfl, hb⟩; replace HB := Sb (Bb0 HB.out) hb; (try clear hb); (try clear hb2); (try clear hk); (try clear hi))); go_ret; exact ⟨Ze, Bb0 HB.out⟩
      ·replace c7 := Bool.eq_false_iff.mpr c7; subst c7; have H1 : (impl_Edge_IsProgram_1_88.l0 k1 l0 (l0.length : Int) (wrap64 (x8_1 + 1)) l1_0 a1_1 l1_2) = some r := by rw [if_neg (show ¬ (false = true) by decide)] at H; exact H
       clear H; have H := H1; clear H1; have H' := Aside0.mk H; clear H; have p277 : 0 ≤ (x8_1 : Int) := Da; have q277 : x8_1 < (l0.length : Int) := Da; obtain ⟨ad277, e277, hx277_0, hx277_1, hx277_2, hx277_3, hx277_4⟩ := at_T52 HR0.out x8_1 p277 q277; cases e277
       replace hx277_0 := Cx HB hx277_0; replace hx277_1 := Cx HB hx277_1; replace hx277_2 := Cx HB hx277_2; replace hx277_3 := Cx HB hx277_3; replace hx277_4 := Cx HB hx277_4; replace p277 := eq_true p277; replace q277 := eq_true q277; go_wp2_with (first | (go_at_call 55; (with_reducible refine (impl_IsProgram_1_captured.calls k1 ((rd_T52 l0 x8_1).f0) ((rd_T52 l0 x8_1).f1) ((rd_T52 l0 x8_1).f2.f0) ((rd_T52 l0 x8_1).f2.f1) ((rd_T52 l0 x8_1).f2.f2) g1_0 A1_0 c1_0 l1_0 a1_1 A1_2 c1_2 l1_2 false _ ?side1 ?side2 ?side3 ?side4 ?side5 ?side6 ?side7 A6.out).mono ?_); (case side1 => exact Bc (Kd.C_below HR1_0.out HB.out)); (case side2 => exact HC1_0.out); (case side3 => exact Bc (Kd.C_below HR1_2.out HB.out)); (case side4 => exact HC1_2.out); (case side5 => first | exact CAP1_0.out | exact (HB.out.cell (World.block_lt_of_cell? w _ CAP1_0.out)).trans CAP1_0.out); (case side6 => first | exact CAP1_1.out | exact (HB.out.cell (World.block_lt_of_cell? w _ CAP1_1.out)).trans CAP1_1.out); (case side7 => first | exact CAP1_2.out | exact (HB.out.cell (World.block_lt_of_cell? w _ CAP1_2.out)).trans CAP1_2.out); rintro e w9 ⟨rfl, hb⟩; replace HB := Sb (Bb0 HB.out) hb; (try clear hb); (try clear hb2); (try clear hk); (try clear hi))); go_roundg k1
       case measure => have := HK1.out; omega
       case rel => exact ⟨(wrap64 (x8_1 + 1)), Zf, H', ⟨by have := HK1.out; omega⟩, ⟨Bb0 HB.out⟩⟩
     ·rw [if_neg c5] at H; exact absurd H (by simp)
    ·rw [if_neg c4] at H; exact absurd H (by simp)
   ·rw [if_neg c3] at H; have c3b0 : decide (x8_1 < (l0.length : Int)) = false := decide_eq_false c3; clear c3; obtain rfl := Option.some.inj H; go_wp2; go_ret; exact ⟨Ze, Bb0 HB.out⟩
def impl_Edge_IsProgram_1_54.f (k : Nat) (l0 : List (S52)) (l1_0 : List ByteArray) (a1_1 : Int) (l1_2 : List (S52)) : Option (Bool) := (impl_Edge_IsProgram_1_88.f k l0 l1_0 a1_1 l1_2).bind fun t279 => (some (decide (t279 ≥ 0)))
theorem impl_Edge_IsProgram_1_54.mono : ∀ a0 a1 a2 a3 k, LeO (impl_Edge_IsProgram_1_54.f k a0 a1 a2 a3) (impl_Edge_IsProgram_1_54.f (k + 1) a0 a1 a2 a3) := by
 intro a0 a1 a2 a3 k
 unfold impl_Edge_IsProgram_1_54.f
 repeat' with_reducible first | exact impl_Edge_IsProgram_1_88.mono _ _ _ _ _ | exact LeO.refl _ | exact LeO.none _ | refine LeO.ite ?_ ?_ | refine LeO.bind ?_ (fun _ => ?_)
set_option maxHeartbeats 32000000 in
set_option maxRecDepth 100000 in
theorem impl_Edge_IsProgram_1_54.calls (k : Nat) (A0 : Option Addr) (c0 : Nat) (l0 : List (S52)) (g1_0 : Nat) (A1_0 : Option Addr) (c1_0 : Nat) (l1_0 : List ByteArray) (a1_1 : Int) (A1_2 : Option Addr) (c1_2 : Nat) (l1_2 : List (S52)) (r : Bool) (w : World) (hr0 : Kd.C k52 w A0 l0.length l0) (hc0 : l0.length ≤ c0) (hr1_0 : Kd.C Kd.string w A1_0 l1_0.length l1_0) (hc1_0 : l1_0.length ≤ c1_0) (hr1_2 : Kd.C k52 w A1_2 l1_2.length l1_2) (hc1_2 : l1_2.length ≤ c1_2) (hq1_0 : w.cell? ⟨g1_0, 0, none⟩ = some (.slice A1_0 l1_0.length c1_0)) (hq1_1 : w.cell? ⟨g1_0, 1, none⟩ = some (.int .i64 a1_1)) (hq1_2 : w.cell? ⟨g1_0, 2, none⟩ = some (.slice A1_2 l1_2.length c1_2)) (h : impl_Edge_IsProgram_1_54.f k l0 l1_0 a1_1 l1_2 = some r) :
  Calls Tryz.prog 54 #[.slice A0 l0.length c0, .func (.func 55) #[] #[.pointer (some ⟨g1_0, 0, none⟩)]] w fun e w' => e = .returned (.bool r) ∧ Below w.heap.size w w' := by
 have HR0 := Aside0.mk hr0
 have HC0 := Aside0.mk hc0
 clear hr0 hc0
 have HR1_0 := Aside0.mk hr1_0
 have HC1_0 := Aside0.mk hc1_0
 clear hr1_0 hc1_0
 have HR1_2 := Aside0.mk hr1_2
 have HC1_2 := Aside0.mk hc1_2
 clear hr1_2 hc1_2
 have CAP1_0 := Aside0.mk hq1_0
 clear hq1_0
 have CAP1_1 := Aside0.mk hq1_1
 clear hq1_1
 have CAP1_2 := Aside0.mk hq1_2
 clear hq1_2
 have HB := Aside0.mk (Below.refl w.heap.size w)
 have H : ((impl_Edge_IsProgram_1_88.f k l0 l1_0 a1_1 l1_2).bind fun t279 => (some (decide (t279 ≥ 0)))) = some r := h
 clear h
 replace H := Option.bind_eq_some_iff.mp H
 obtain ⟨t279, A30, H⟩ := H
 replace H : (some (decide (t279 ≥ 0))) = some r := H
 have A3 := Aside0.mk A30
 clear A30
 obtain rfl := Option.some.inj H
 go_enter Tryz.func54, Tryz.ntmps54
 go_wp2_with (first | ((with_reducible refine gate_callee (f := 88) rfl ?_); refine goesL_ (some 7) rfl rfl Tryz.func88 (by kernel_rfl) rfl #[.slice A0 l0.length c0, .func (.func 55) #[] #[.pointer (some ⟨g1_0, 0, none⟩)]] rfl Zm ?_; (with_reducible refine (impl_Edge_IsProgram_1_88.calls k _ _ l0 g1_0 A1_0 c1_0 l1_0 a1_1 A1_2 c1_2 l1_2 t279 _ ?side1 ?side2 ?side3 ?side4 ?side5 ?side6 ?side7 ?side8 ?side9 A3.out).mono ?_); (case side1 => exact Bc HR0.out); (case side2 => exact HC0.out); (case side3 => exact Bc HR1_0.out); (case side4 => exact HC1_0.out); (case side5 => exact Bc HR1_2.out); (case side6 => exact HC1_2.out); (case side7 => first | exact CAP1_0.out | exact (HB.out.cell (World.block_lt_of_cell? w _ CAP1_0.out)).trans CAP1_0.out); (case side8 => first | exact CAP1_1.out | exact (HB.out.cell (World.block_lt_of_cell? w _ CAP1_1.out)).trans CAP1_1.out); (case side9 => first | exact CAP1_2.out | exact (HB.out.cell (World.block_lt_of_cell? w _ CAP1_2.out)).trans CAP1_2.out); rintro e w4 ⟨rfl, hb⟩; refine ⟨_, rfl, ?_⟩; replace HB := Sb (Bb0 HB.out) hb; (try clear hb); (try clear hb2); (try clear hk); (try clear hi)))
 go_ret
 exact ⟨Ze, Bb0 HB.out⟩
end Go.Proofs.YtndkkpjofddfjaaGreatDoor.PFnExactParseProgram
