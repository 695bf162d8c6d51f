/- A part of the walk through the printed functions; no condition. -/
import Derived.Test.YtndkkpjofddfjaaGreatDoorXAuto
import Derived.Test.YtndkkpjofddfjaaGreatDoorPFnExactParseProgramx0
import Derived.Test.YtndkkpjofddfjaaGreatDoorPFnExactParseProgramx8
import Derived.Test.YtndkkpjofddfjaaGreatDoorPFnExactParseProgramx10
import Derived.Test.YtndkkpjofddfjaaGreatDoorPFnExactParseProgramx11
namespace Go.Proofs.YtndkkpjofddfjaaGreatDoor.PFnExactParseProgram
open Go.RowKit Go.Proofs.YtndkkpjofddfjaaGreatDoorW.PrintWords Go.Proofs.YtndkkpjofddfjaaGreatDoorW.PrintLast Go.Proofs.YtndkkpjofddfjaaGreatDoorW.PrintMore
attribute [local go_sem] max2_int min2_int max_two min_two max_three min_three max_four min_four
set_option maxHeartbeats 32000000
set_option maxRecDepth 100000
attribute [local irreducible] Go.World.setCell
set_option linter.unusedVariables false
set_option linter.unusedSimpArgs false
open Go.Proofs.YtndkkpjofddfjaaGreatDoorW.PrintWords.Aside0 renaming mk → Qa
open Go.RowKit renaming wrap64 → Qb, Below → Qv
open Go.Proofs.YtndkkpjofddfjaaGreatDoorW.PrintWords.Kd renaming R_reads' → Qc, string → Qf, at_string → Qg, R_types → Qh, R_slice → Qr, R_below → Qw
open Go.Proofs.YtndkkpjofddfjaaGreatDoorW.PrintWords renaming gate_callee → Qd, Aside0 → Qe, gate_dst → Ql
open Go.Proofs.Tryz renaming prog → Qm, underlying50 → Qu
def impl_names.l0 : Nat → List ByteArray → List ByteArray → Int → Int → Option (List ByteArray)
 | 0, _, _, _, _ => none
 | k + 1, x3, x8, x9, x10 => if x10 < x9 then (if 0 ≤ x10 then (if x10 < (x8.length : Int) then ((impl_IsName.f k (rdOf ByteArray.empty x8 x10)).bind fun t49 => (if t49 = true then (if x3.length < 8796093022208 then (impl_names.l0 k (x3 ++ [rdOf ByteArray.empty x8 x10]) x8 x9 (Qb (x10 + 1))) else (none)) else (impl_names.l0 k x3 x8 x9 (Qb (x10 + 1))))) else (none)) else (none)) else (if x3.length < 8796093022208 then (some (x3 ++ [(⟨#[]⟩ : ByteArray)])) else (none))
def impl_names.f (k : Nat) (a0 : ByteArray) : Option (List ByteArray) := (strings_FieldsFunc_names_1.f a0).bind fun t38 => (impl_names.l0 k (([] : List ByteArray)) t38 (t38.length : Int) 0)
theorem impl_names.mono_l : ∀ k, (∀ y0 y1 y2 y3, LeO (impl_names.l0 k y0 y1 y2 y3) (impl_names.l0 (k + 1) y0 y1 y2 y3))
 | 0 => fun _ _ _ _ r h => by simp [impl_names.l0] at h
 | k + 1 => by
  have ih0 := impl_names.mono_l k
  ·intro y0 y1 y2 y3; unfold impl_names.l0; exact Lm2 ih0 impl_IsName.mono
theorem impl_names.mono : ∀ a0 k, LeO (impl_names.f k a0) (impl_names.f (k + 1) a0) := by
 intro a0 k
 have ih0 := impl_names.mono_l k
 unfold impl_names.f
 exact Lm2 ih0 impl_IsName.mono
theorem impl_names.calls (k : Nat) (a0 : ByteArray) (r : List ByteArray) (w : World) (h : impl_names.f k a0 = some r) :
  Calls Qm 83 #[.string a0] w fun e w' => ∃ v0_ : Value, e = .returned (v0_) ∧ Kd.R Qf 9 w' w.heap.size (fun _ => True) v0_ r ∧ Qv w.heap.size w w' := by
 have HB := Qa (Below.refl w.heap.size w)
 have H : ((strings_FieldsFunc_names_1.f a0).bind fun t38 => (impl_names.l0 k (([] : List ByteArray)) t38 (t38.length : Int) 0)) = some r := h
 clear h
 obtain ⟨y44, hy44⟩ : ∃ y_ : List ByteArray, y_ = (([] : List ByteArray)) := ⟨_, rfl⟩
 replace H : ((strings_FieldsFunc_names_1.f a0).bind fun t38 => (impl_names.l0 k y44 t38 (t38.length : Int) 0)) = some r := Zh hy44 H
 have Ny44 := Qa hy44
 clear hy44
 obtain ⟨t38, A2, H⟩ := Ob H
 (try dsimp only at H)
 have H' := Qa H
 clear H
 go_enter Tryz.func83, Tryz.ntmps83
 go_wp2_with (first | ((with_reducible refine Ql (N := 6) rfl ?_); refine Kd.R_lit Qf _ 9 ?hg (N := 6) ?hd (xs := ([] : List ByteArray)) (inner := []) (ok := fun _ => True) (okp := fun _ => True) ?hr ?hp (fun _ hk => hk) trivial (Below.refl _ _) (Nat.le_refl _) (by simp) ?_; (case hd => rfl); (case hg => rfl); (case hr => first | (go_simp; done) | (go_simp; rfl)); (case hp => exact (Reps.none _ _)); intro v56 w3 ho4 hb hg_ hnew_; clear hg_ hnew_; (first | rw [← Ny44.out] at ho4 | (simp only [Int.reduceToNat] at ho4; rw [← Ny44.out] at ho4)); have HO48 := Lw ho4 (Bb0 HB.out); replace HB := Sb (Bb0 HB.out) hb; clear hb ho4) | ((with_reducible refine Qd (f := 112) rfl ?_); refine Gl 8 Tryz.func112 #[.string a0, .func (.func 113) #[] #[]] ?_; (with_reducible refine (strings_FieldsFunc_names_1.calls a0  t38 _ A2.out).mono ?_); rintro e w5 ⟨v57, rfl, ho0, hb⟩; refine ⟨_, rfl, ?_⟩; have HO51 := Lw (Kd.R_new' ho0 (Kd.R_lt (Br HO48.out))) (Bb0 HB.out); replace HO48 := Ke HO48 hb ho0; replace HB := Sb (Bb0 HB.out) hb; clear hb; (try clear ho0); obtain ⟨Ao6, co6, eo6⟩ := Qr HO51.out; subst eo6))
 go_loopg [3, 10] k (fun kq v3 v10 w' => ∃ (x3_1 : List ByteArray) (x10_1 : Int), v10 = .int .i64 x10_1 ∧ Qe (impl_names.l0 kq x3_1 t38 (t38.length : Int) x10_1 = some r) ∧ Qe (kq ≤ k) ∧ Qe (Kd.R Qf 9 w' w.heap.size (fun k_ => some k_ ≠ ((.slice Ao6 t38.length co6) : Value).ownBlock) v3 x3_1) ∧ Qe (Kd.R Qf 9 w' w.heap.size (fun k_ => some k_ ≠ (v3 : Value).ownBlock) (.slice Ao6 t38.length co6) t38) ∧ Qe (Qv w.heap.size w w'))
 case atStart => exact ⟨(y44), (0), Zf, H', ⟨Nat.le_refl _⟩, ⟨Rs HO48.out⟩, ⟨Rs HO51.out⟩, ⟨Bb0 HB.out⟩⟩
 case round =>
  clear H'; (try clear p2)
  obtain ⟨x3_1, x10_1, rfl, HA, HK1, HO_3, HO_8, HB⟩ := hrel; cases gk with
  | zero => exact absurd HA.out (by simp [impl_names.l0])
  | succ k1 =>
   have H := HA.out; clear HA; simp only [impl_names.l0] at H; by_cases c7 : x10_1 < (t38.length : Int)
   ·rw [if_pos c7] at H; replace c7 := decide_eq_true c7; by_cases c8 : 0 ≤ x10_1
    ·rw [if_pos c8] at H; replace c8 := decide_eq_true c8; by_cases c9 : x10_1 < (t38.length : Int)
     ·rw [if_pos c9] at H; replace c9 := decide_eq_true c9; obtain ⟨t49, A10, H⟩ := Ob H; (try dsimp only at H)
      by_cases c11 : t49 = true
      ·subst c11; rw [if_pos rfl] at H; by_cases c12 : x3_1.length < 8796093022208
       ·rw [if_pos c12] at H; have LMc12 := Qa c12; clear c12; obtain ⟨y45, hy45⟩ : ∃ y_ : List ByteArray, y_ = (x3_1 ++ [rdOf ByteArray.empty t38 x10_1]) := ⟨_, rfl⟩; replace H : (impl_names.l0 k1 y45 t38 (t38.length : Int) (Qb (x10_1 + 1))) = some r := Zh hy45 H; have Ny45 := Qa hy45; clear hy45; have H' := Qa H; clear H; have p39 : 0 ≤ (x10_1 : Int) := Da; have q39 : x10_1 < (t38.length : Int) := Da; obtain ⟨ad39, e39, hx39_0⟩ := Qg (Qc HO_8.out).2.2 x10_1 p39 q39; cases e39
        replace p39 := eq_true p39; replace q39 := eq_true q39; go_wp2_with (first | ((with_reducible refine Qd (f := 74) rfl ?_); refine Gl 15 Tryz.func74 #[.string (rdOf ByteArray.empty t38 x10_1)] ?_; (with_reducible refine (impl_IsName.calls k1 (rdOf ByteArray.empty t38 x10_1) true _ A10.out).mono ?_); rintro e w' ⟨rfl, ⟨nd, rfl⟩⟩; refine ⟨_, rfl, ?_⟩) | ((with_reducible refine gate_builtin (b := .append) (xs := #[.tmp 16, .tmp 18]) rfl ?_); at_builtin; refine Kd.R_append Qf (w0 := w) w.heap.size rfl (.tmp 16) (.tmp 18) 22 9 (.string ⟨#[]⟩) 16 rfl Tryz.underlying22 info9 rfl (by decide) (by omega) u3 x3_1 (rdOf ByteArray.empty t38 x10_1) [.string (rdOf ByteArray.empty t38 x10_1)] (fun k_ => some k_ ≠ (.slice (some ad39) t38.length co6 : Value).ownBlock) (fun _ => False) rfl rfl ?aP (fun _ hk => hk.elim) ?aF ?aO ?aB ?aS ?aL ?_; (case aP => exact rfl); (case aB => exact (Bb0 HB.out)); (case aF => exact (fun k_ hk => Kd.fresh' (Kd.R_lt (Br HO_8.out)) k_ hk)); (case aO => exact (Br HO_3.out)); (case aS => exact (below_size (Bb0 HB.out))); (case aL => have := LMc12.out; omega); intro v58 w13 ho hb hg hat; rw [← Ny45.out] at ho; replace HO_8 := Qa (Kd.R_after (ok := (fun _ => True)) (by (with_reducible repeat (first | apply Kd.R_alloc | apply Kd.R_drewN | apply Kd.R_drew)); exact Kd.R_mono HO_8.out (fun _ hk => ⟨trivial, hk⟩)) hg hat); replace HB := Qa (hb); have HO52 := Qa (ho); clear HO_3; clear ho hb hg hat)); go_roundg k1
        case measure => have := HK1.out; omega
        case rel => exact ⟨(y45), (Qb (x10_1 + 1)), Zf, H', ⟨by have := HK1.out; omega⟩, ⟨Br HO52.out⟩, ⟨Rs HO_8.out⟩, ⟨Bb0 HB.out⟩⟩
       ·rw [if_neg c12] at H; exact absurd H (by simp)
      ·replace c11 := Bool.eq_false_iff.mpr c11; subst c11; rw [if_neg (show ¬ (false = true) by decide)] at H; have H' := Qa H; clear H; have p39 : 0 ≤ (x10_1 : Int) := Da; have q39 : x10_1 < (t38.length : Int) := Da; obtain ⟨ad39, e39, hx39_0⟩ := Qg (Qc HO_8.out).2.2 x10_1 p39 q39; cases e39
       replace p39 := eq_true p39; replace q39 := eq_true q39; go_wp2_with (first | ((with_reducible refine Qd (f := 74) rfl ?_); refine Gl 15 Tryz.func74 #[.string (rdOf ByteArray.empty t38 x10_1)] ?_; (with_reducible refine (impl_IsName.calls k1 (rdOf ByteArray.empty t38 x10_1) false _ A10.out).mono ?_); rintro e w' ⟨rfl, ⟨nd, rfl⟩⟩; refine ⟨_, rfl, ?_⟩)); go_roundg k1
       case measure => have := HK1.out; omega
       case rel => exact ⟨(x3_1), (Qb (x10_1 + 1)), Zf, H', ⟨by have := HK1.out; omega⟩, ⟨Br HO_3.out⟩, ⟨Br HO_8.out⟩, ⟨Bb0 HB.out⟩⟩
     ·rw [if_neg c9] at H; exact absurd H (by simp)
    ·rw [if_neg c8] at H; exact absurd H (by simp)
   ·rw [if_neg c7] at H; replace c7 := decide_eq_false c7; by_cases c14 : x3_1.length < 8796093022208
    ·rw [if_pos c14] at H; have LMc14 := Qa c14; clear c14; obtain ⟨y46, hy46⟩ : ∃ y_ : List ByteArray, y_ = (x3_1 ++ [(⟨#[]⟩ : ByteArray)]) := ⟨_, rfl⟩; replace H : (some y46) = some r := Zh hy46 H; have Ny46 := Qa hy46; clear hy46; obtain rfl := Option.some.inj H; go_wp2_with (first | ((with_reducible refine gate_builtin (b := .append) (xs := #[.tmp 21, .tmp 22]) rfl ?_); at_builtin; refine Kd.R_append Qf (w0 := w) w.heap.size rfl (.tmp 21) (.tmp 22) 22 9 (.string ⟨#[]⟩) 16 rfl Tryz.underlying22 info9 rfl (by decide) (by omega) u3 x3_1 (⟨#[]⟩ : ByteArray) [.string (⟨#[]⟩ : ByteArray)] (fun k_ => some k_ ≠ (.slice Ao6 t38.length co6 : Value).ownBlock) (fun _ => False) rfl rfl ?aP (fun _ hk => hk.elim) ?aF ?aO ?aB ?aS ?aL ?_; (case aP => exact rfl); (case aB => exact (Bb0 HB.out)); (case aF => exact (fun k_ hk => Kd.fresh' (Kd.R_lt (Br HO_8.out)) k_ hk)); (case aO => exact (Br HO_3.out)); (case aS => exact (below_size (Bb0 HB.out))); (case aL => have := LMc14.out; omega); intro v59 w15 ho hb hg hat; rw [← Ny46.out] at ho; replace HO_8 := Qa (Kd.R_after (ok := (fun _ => True)) (by (with_reducible repeat (first | apply Kd.R_alloc | apply Kd.R_drewN | apply Kd.R_drew)); exact Kd.R_mono HO_8.out (fun _ hk => ⟨trivial, hk⟩)) hg hat); replace HB := Qa (hb); have HO53 := Qa (ho); clear HO_3; clear ho hb hg hat)); go_ret; exact ⟨_, Ze, Rs HO53.out, Bb0 HB.out⟩
    ·rw [if_neg c14] at H; exact absurd H (by simp)
mutual
def impl_ParseStmt.l0 : Nat → ByteArray → List ByteArray → Int → Option (Int × ByteArray × ByteArray × Bool)
 | 0, _, _, _ => none
 | k + 1, x0, x4, x5 => if x5 ≤ 12 then (impl_ParseStmt.l1 k x0 x4 x5 x4 (x4.length : Int) 0) else (some (0, (⟨#[]⟩ : ByteArray), (⟨#[]⟩ : ByteArray), false))
def impl_ParseStmt.l1 : Nat → ByteArray → List ByteArray → Int → List ByteArray → Int → Int → Option (Int × ByteArray × ByteArray × Bool)
 | 0, _, _, _, _, _, _ => none
 | k + 1, x0, x4, x5, x21, x22, x23 => if x23 < x22 then (if 0 ≤ x23 then (if x23 < (x21.length : Int) then (impl_ParseStmt.l2 k x0 x4 x5 (rdOf ByteArray.empty x21 x23) x21 x22 x23 x4 (x4.length : Int) 0) else (none)) else (none)) else (impl_ParseStmt.l0 k x0 x4 (Qb (x5 + 1)))
def impl_ParseStmt.l2 : Nat → ByteArray → List ByteArray → Int → ByteArray → List ByteArray → Int → Int → List ByteArray → Int → Int → Option (Int × ByteArray × ByteArray × Bool)
 | 0, _, _, _, _, _, _, _, _, _, _ => none
 | k + 1, x0, x4, x5, x7, x21, x22, x23, x27, x28, x29 => if x29 < x28 then (if 0 ≤ x29 then (if x29 < (x27.length : Int) then ((impl_StmtText.f k x5 x7 (rdOf ByteArray.empty x27 x29)).bind fun t47 => (if t47.toList = x0.toList then (if x0.toList = ([] : List UInt8) then (impl_ParseStmt.l2 k x0 x4 x5 x7 x21 x22 x23 x27 x28 (Qb (x29 + 1))) else (some (x5, x7, rdOf ByteArray.empty x27 x29, true))) else (impl_ParseStmt.l2 k x0 x4 x5 x7 x21 x22 x23 x27 x28 (Qb (x29 + 1))))) else (none)) else (none)) else (impl_ParseStmt.l1 k x0 x4 x5 x21 x22 (Qb (x23 + 1)))
end
def impl_ParseStmt.f (k : Nat) (a0 : ByteArray) : Option (Int × ByteArray × ByteArray × Bool) := if (a0.size : Int) > 20 then (some (0, (⟨#[]⟩ : ByteArray), (⟨#[]⟩ : ByteArray), false)) else ((impl_names.f k a0).bind fun t35 => (impl_ParseStmt.l0 k a0 t35 1))
theorem impl_ParseStmt.mono_l : ∀ k, (∀ y0 y1 y2, LeO (impl_ParseStmt.l0 k y0 y1 y2) (impl_ParseStmt.l0 (k + 1) y0 y1 y2)) ∧ (∀ y0 y1 y2 y3 y4 y5, LeO (impl_ParseStmt.l1 k y0 y1 y2 y3 y4 y5) (impl_ParseStmt.l1 (k + 1) y0 y1 y2 y3 y4 y5)) ∧ (∀ y0 y1 y2 y3 y4 y5 y6 y7 y8 y9, LeO (impl_ParseStmt.l2 k y0 y1 y2 y3 y4 y5 y6 y7 y8 y9) (impl_ParseStmt.l2 (k + 1) y0 y1 y2 y3 y4 y5 y6 y7 y8 y9))
 | 0 => ⟨fun _ _ _ r h => by simp [impl_ParseStmt.l0] at h, fun _ _ _ _ _ _ r h => by simp [impl_ParseStmt.l1] at h, fun _ _ _ _ _ _ _ _ _ _ r h => by simp [impl_ParseStmt.l2] at h⟩
 | k + 1 => by
  obtain ⟨ih0, ih1, ih2⟩ := impl_ParseStmt.mono_l k; refine ⟨?_, ?_, ?_⟩
  ·intro y0 y1 y2; unfold impl_ParseStmt.l0; exact Lm5 ih0 ih1 ih2 impl_StmtText.mono impl_names.mono
  ·intro y0 y1 y2 y3 y4 y5; unfold impl_ParseStmt.l1; exact Lm5 ih0 ih1 ih2 impl_StmtText.mono impl_names.mono
  ·intro y0 y1 y2 y3 y4 y5 y6 y7 y8 y9; unfold impl_ParseStmt.l2; exact Lm5 ih0 ih1 ih2 impl_StmtText.mono impl_names.mono
theorem impl_ParseStmt.mono : ∀ a0 k, LeO (impl_ParseStmt.f k a0) (impl_ParseStmt.f (k + 1) a0) := by
 intro a0 k
 obtain ⟨ih0, ih1, ih2⟩ := impl_ParseStmt.mono_l k
 unfold impl_ParseStmt.f
 exact Lm5 ih0 ih1 ih2 impl_StmtText.mono impl_names.mono
theorem impl_ParseStmt.calls (k : Nat) (a0 : ByteArray) (r1 : Int) (r2 : ByteArray) (r3 : ByteArray) (r4 : Bool) (w : World) (h : impl_ParseStmt.f k a0 = some (r1, r2, r3, r4)) :
  Calls Qm 45 #[.string a0] w fun e w' => e = .returned (.tuple #[.agg #[.int .i64 r1, .string r2, .string r3], .bool r4]) ∧ Qv w.heap.size w w' := by
 have hu50 := Qu
 have HB := Qa (Below.refl w.heap.size w)
 have H : (if (a0.size : Int) > 20 then (some (0, (⟨#[]⟩ : ByteArray), (⟨#[]⟩ : ByteArray), false)) else ((impl_names.f k a0).bind fun t35 => (impl_ParseStmt.l0 k a0 t35 1))) = some (r1, r2, r3, r4) := h
 clear h
 by_cases c2 : (a0.size : Int) > 20
 ·rw [if_pos c2] at H
  have c2b0 := decide_eq_true c2; have c2b1 : decide (20 < a0.size) = true := decide_eq_true (by omega); clear c2; simp only [Option.some.injEq, Prod.mk.injEq] at H; obtain ⟨rfl, rfl, rfl, rfl⟩ := H; go_enter Tryz.func45, Tryz.ntmps45; go_wp2_with (first | ((with_reducible refine Ql (N := 2) rfl ?_); refine Bx (N := 2) (cs := #[.int .i64 0, .string (⟨#[]⟩ : ByteArray), .string (⟨#[]⟩ : ByteArray)]) (t := 50) ?_; intro gb34 hg w3 hbox hb; have BK34 := Qa (hbox); have GW34 := Gs (w := w) hg (Bb0 HB.out); have GE34 := GW34; replace HB := Sb (Bb0 HB.out) hb; clear hb hbox hg; obtain ⟨q4_0, q4_1, q4_2, u4_0, u4_1, u4_2⟩ := Cf3 BK34) | ((with_reducible show bodyPost _ _ _ _ _ _); refine bodyPost_ret (results_ct rfl _ _ gb34 50 #[.int .i64 0, .string (⟨#[]⟩ : ByteArray), .string (⟨#[]⟩ : ByteArray)] (0, 0) _ rfl (Bq BK34.out) Qu rfl (by kernel_rfl)) rfl ?_; exact ⟨Ze, Bb1 HB.out GE34.out⟩))
 ·rw [if_neg c2] at H
  have c2b0 := decide_eq_false c2; have c2b1 : decide (20 < a0.size) = false := decide_eq_false (by omega); clear c2; obtain ⟨t35, A5, H⟩ := Ob H; (try dsimp only at H)
  have H' := Qa H; clear H; go_enter Tryz.func45, Tryz.ntmps45; go_wp2_with (first | ((with_reducible refine Ql (N := 2) rfl ?_); refine Bx (N := 2) (cs := #[.int .i64 0, .string (⟨#[]⟩ : ByteArray), .string (⟨#[]⟩ : ByteArray)]) (t := 50) ?_; intro gb34 hg w6 hbox hb; have BK34 := Qa (hbox); have GW34 := Gs (w := w) hg (Bb0 HB.out); have GE34 := GW34; replace HB := Sb (Bb0 HB.out) hb; clear hb hbox hg) | ((with_reducible refine Qd (f := 83) rfl ?_); refine Gl 16 Tryz.func83 #[.string a0] ?_; (with_reducible refine (impl_names.calls k a0 t35 _ A5.out).mono ?_); rintro e w7 ⟨v54, rfl, ho0, hb⟩; refine ⟨_, rfl, ?_⟩; have HO55 := Lw ho0 (Bb1 HB.out GE34.out); replace BK34 := Kb BK34 hb; replace HB := Sb (Bb1 HB.out GE34.out) hb; clear hb; (try clear ho0))); go_loopg [5] k (fun kq v5 w' => ∃ (x5_1 : Int) (x41_1 : Int) (x42_1 : ByteArray) (x43_1 : ByteArray), v5 = .int .i64 x5_1 ∧ Qe (impl_ParseStmt.l0 kq a0 t35 x5_1 = some (r1, r2, r3, r4)) ∧ Qe (kq ≤ k) ∧ Qe (Kd.R Qf 9 w' w.heap.size (fun _ => True) v54 t35) ∧ Qe (w'.heap[gb34]? = some (.cells #[.int .i64 x41_1, .string x42_1, .string x43_1] 50 (0, 0))) ∧ Qe (Qv w.heap.size w w'))
  case atStart => exact ⟨(1), (0), ((⟨#[]⟩ : ByteArray)), ((⟨#[]⟩ : ByteArray)), Zf, H', ⟨Nat.le_refl _⟩, ⟨Br HO55.out⟩, ⟨Ba BK34.out⟩, ⟨Bb1 HB.out GE34.out⟩⟩
  case round =>
   clear H'; (try clear c2)
   (try clear c2b0)
   (try clear c2b1)
   (try clear p2)
   (try clear c4)
   (try clear q4_0)
   (try clear q4_1)
   (try clear q4_2)
   (try clear u4_0)
   (try clear u4_1)
   (try clear u4_2)
   obtain ⟨x5_1, x41_1, x42_1, x43_1, rfl, HA, HK1, HO_4, BK34, HB⟩ := hrel; cases gk with
   | zero => exact absurd HA.out (by simp [impl_ParseStmt.l0])
   | succ k1 =>
    have H := HA.out; clear HA; simp only [impl_ParseStmt.l0] at H; by_cases c8 : x5_1 ≤ 12
    ·rw [if_pos c8] at H; replace c8 := decide_eq_true c8; have H' := Qa H; clear H; obtain ⟨Ao9, co9, eo9⟩ := Qr HO_4.out; subst eo9; go_wp2; go_loopg [23] k1 (fun kq v23 w' => ∃ (x23_2 : Int) (x41_2 : Int) (x42_2 : ByteArray) (x43_2 : ByteArray), v23 = .int .i64 x23_2 ∧ Qe (impl_ParseStmt.l1 kq a0 t35 x5_1 t35 (t35.length : Int) x23_2 = some (r1, r2, r3, r4)) ∧ Qe (kq ≤ k1) ∧ Qe (Kd.R Qf 9 w' w.heap.size (fun _ => True) (.slice Ao9 t35.length co9) t35) ∧ Qe (Kd.R Qf 9 w' w.heap.size (fun _ => True) (.slice Ao9 t35.length co9) t35) ∧ Qe (w'.heap[gb34]? = some (.cells #[.int .i64 x41_2, .string x42_2, .string x43_2] 50 (0, 0))) ∧ Qe (Qv w.heap.size w w'))
     case atStart => exact ⟨(0), (x41_1), (x42_1), (x43_1), Zf, H', ⟨Nat.le_refl _⟩, ⟨Br HO_4.out⟩, ⟨Br HO_4.out⟩, ⟨Ba BK34.out⟩, ⟨Bb1 HB.out GE34.out⟩⟩
     case round =>
      clear H'; (try clear c2)
      (try clear c2b0)
      (try clear c2b1)
      (try clear p2)
      (try clear c4)
      (try clear c8)
      (try clear c8)
      (try clear q4_0)
      (try clear q4_1)
      (try clear q4_2)
      (try clear u4_0)
      (try clear u4_1)
      (try clear u4_2)
      (try clear p2)
      obtain ⟨x23_2, x41_2, x42_2, x43_2, rfl, HA, HK2, HO_4, HO_21, BK34, HB⟩ := hrel; cases gk with
      | zero => exact absurd HA.out (by simp [impl_ParseStmt.l1])
      | succ k2 =>
       have H := HA.out; clear HA; simp only [impl_ParseStmt.l1] at H; by_cases c10 : x23_2 < (t35.length : Int)
       ·rw [if_pos c10] at H; replace c10 := decide_eq_true c10; by_cases c11 : 0 ≤ x23_2
        ·rw [if_pos c11] at H; replace c11 := decide_eq_true c11; by_cases c12 : x23_2 < (t35.length : Int)
         ·rw [if_pos c12] at H; replace c12 := decide_eq_true c12; have H' := Qa H; clear H; have p40 : 0 ≤ (x23_2 : Int) := Da; have q40 : x23_2 < (t35.length : Int) := Da; obtain ⟨ad40, e40, hx40_0⟩ := Qg (Qc HO_21.out).2.2 x23_2 p40 q40; cases e40
          replace p40 := eq_true p40; replace q40 := eq_true q40; go_wp2; go_loopg [29] k2 (fun kq v29 w' => ∃ (x29_3 : Int) (x41_3 : Int) (x42_3 : ByteArray) (x43_3 : ByteArray), v29 = .int .i64 x29_3 ∧ Qe (impl_ParseStmt.l2 kq a0 t35 x5_1 (rdOf ByteArray.empty t35 x23_2) t35 (t35.length : Int) x23_2 t35 (t35.length : Int) x29_3 = some (r1, r2, r3, r4)) ∧ Qe (kq ≤ k2) ∧ Qe (Kd.R Qf 9 w' w.heap.size (fun _ => True) (.slice (some ad40) t35.length co9) t35) ∧ Qe (Kd.R Qf 9 w' w.heap.size (fun _ => True) (.slice (some ad40) t35.length co9) t35) ∧ Qe (Kd.R Qf 9 w' w.heap.size (fun _ => True) (.slice (some ad40) t35.length co9) t35) ∧ Qe (w'.heap[gb34]? = some (.cells #[.int .i64 x41_3, .string x42_3, .string x43_3] 50 (0, 0))) ∧ Qe (Qv w.heap.size w w'))
          case atStart => exact ⟨(0), (x41_2), (x42_2), (x43_2), Zf, H', ⟨Nat.le_refl _⟩, ⟨Br HO_4.out⟩, ⟨Br HO_21.out⟩, ⟨Br HO_4.out⟩, ⟨Ba BK34.out⟩, ⟨Bb1 HB.out GE34.out⟩⟩
          case round =>
           clear H'; (try clear c1)
           (try clear c2)
           (try clear c2b0)
           (try clear c2b1)
           (try clear p2)
           (try clear p3)
           (try clear q3)
           (try clear hx3)
           (try clear c4)
           (try clear c8)
           (try clear c8)
           (try clear c10)
           (try clear c10)
           (try clear c11)
           (try clear c11)
           (try clear c12)
           (try clear c12)
           (try clear q4_0)
           (try clear q4_1)
           (try clear q4_2)
           (try clear u4_0)
           (try clear u4_1)
           (try clear u4_2)
           (try clear hx40_0)
           (try clear p2)
           (try clear p40)
           (try clear q40)
           obtain ⟨x29_3, x41_3, x42_3, x43_3, rfl, HA, HK3, HO_4, HO_21, HO_27, BK34, HB⟩ := hrel; cases gk with
           | zero => exact absurd HA.out (by simp [impl_ParseStmt.l2])
           | succ k3 =>
            have H := HA.out; clear HA; simp only [impl_ParseStmt.l2] at H; by_cases c13 : x29_3 < (t35.length : Int)
            ·rw [if_pos c13] at H; replace c13 := decide_eq_true c13; by_cases c14 : 0 ≤ x29_3
             ·rw [if_pos c14] at H; replace c14 := decide_eq_true c14; by_cases c15 : x29_3 < (t35.length : Int)
              ·rw [if_pos c15] at H; replace c15 := decide_eq_true c15; obtain ⟨t47, A16, H⟩ := Ob H; (try dsimp only at H)
               by_cases c17 : t47.toList = a0.toList
               ·rw [if_pos c17] at H; have c17b0 := beq_iff_eq.mpr c17; have c17b1 := bne_eq_false_iff_eq.mpr c17; clear c17; by_cases c18 : a0.toList = ([] : List UInt8)
                ·rw [if_pos c18] at H; have c18b0 := beq_iff_eq.mpr c18; have c18b1 := bne_eq_false_iff_eq.mpr c18; clear c18; have H' := Qa H; clear H; have p37 : 0 ≤ (x29_3 : Int) := Da; have q37 : x29_3 < (t35.length : Int) := Da; obtain ⟨ad37, e37, hx37_0⟩ := Qg (Qc HO_27.out).2.2 x29_3 p37 q37; obtain rfl : ad40 = ad37 := (by injection e37); replace p37 := eq_true p37; replace q37 := eq_true q37; go_wp2_with (first | ((with_reducible refine Ql (N := 10) rfl ?_); refine Bx (N := 10) (cs := #[.int .i64 0, .string (⟨#[]⟩ : ByteArray), .string (⟨#[]⟩ : ByteArray)]) (t := 50) ?_; intro gb36 hg w19 hbox hb; replace HO_4 := Rb HO_4 hb; replace HO_21 := Rb HO_21 hb; replace HO_27 := Rb HO_27 hb; have BK36 := Qa (hbox); have GW36 := Gs (w := w) hg (Bb1 HB.out GE34.out); have GE36 := GW36; replace HB := Sb (Bb1 HB.out GE34.out) hb; have NB34_36 := Nl hg BK34; have NB36_34 := Ng hg BK34; replace BK34 := Kb BK34 hb; clear hb hbox hg; have hnb20 := NB36_34.out; have hnc20 := NB34_36.out; obtain ⟨q21_0, q21_1, q21_2, u21_0, u21_1, u21_2⟩ := Cf3 BK36) | ((with_reducible refine Qd (f := 36) rfl ?_); refine Gl 38 Tryz.func36 #[.agg #[.int .i64 x5_1, .string (rdOf ByteArray.empty t35 x23_2), .string (rdOf ByteArray.empty t35 x29_3)]] ?_; (with_reducible refine (impl_StmtText.calls k3 x5_1 (rdOf ByteArray.empty t35 x23_2) (rdOf ByteArray.empty t35 x29_3) t47 _ A16.out).mono ?_); rintro e w22 ⟨rfl, hb⟩; refine ⟨_, rfl, ?_⟩; replace HO_4 := Qa (Qw (Rv (Qh HO_4.out BK36.out (by decide))) hb); replace HO_21 := Qa (Qw (Rv (Qh HO_21.out BK36.out (by decide))) hb); replace HO_27 := Qa (Qw (Rv (Qh HO_27.out BK36.out (by decide))) hb); replace BK34 := Kf BK34 NB34_36.out hb; replace BK36 := Kx0 (.cells #[.int .i64 x5_1, .string (rdOf ByteArray.empty t35 x23_2), .string (rdOf ByteArray.empty t35 x29_3)] 50 (0, 0)) BK36 hb; replace HB := Sb (Bb2 HB.out GE34.out GE36.out) hb; clear hb)); go_roundg k3
                 case measure => have := HK1.out; have := HK2.out; have := HK3.out; omega
                 case rel => exact ⟨(Qb (x29_3 + 1)), (x41_3), (x42_3), (x43_3), Zf, H', ⟨by have := HK1.out; have := HK2.out; have := HK3.out; omega⟩, ⟨Br HO_4.out⟩, ⟨Br HO_21.out⟩, ⟨Br HO_27.out⟩, ⟨Ba BK34.out⟩, ⟨Bb2 HB.out GE34.out GE36.out⟩⟩
                ·rw [if_neg c18] at H; have c18b0 := beq_eq_false_iff_ne.mpr c18; have c18b1 := bne_iff_ne.mpr c18; simp only [Option.some.injEq, Prod.mk.injEq] at H; obtain ⟨rfl, rfl, rfl, rfl⟩ := H; have p37 : 0 ≤ (x29_3 : Int) := Da; have q37 : x29_3 < (t35.length : Int) := Da; obtain ⟨ad37, e37, hx37_0⟩ := Qg (Qc HO_27.out).2.2 x29_3 p37 q37; obtain rfl : ad40 = ad37 := (by injection e37); replace p37 := eq_true p37; replace q37 := eq_true q37; go_wp2_with (first | ((with_reducible refine Ql (N := 10) rfl ?_); refine Bx (N := 10) (cs := #[.int .i64 0, .string (⟨#[]⟩ : ByteArray), .string (⟨#[]⟩ : ByteArray)]) (t := 50) ?_; intro gb36 hg w23 hbox hb; replace HO_4 := Rb HO_4 hb; replace HO_21 := Rb HO_21 hb; replace HO_27 := Rb HO_27 hb; have BK36 := Qa (hbox); have GW36 := Gs (w := w) hg (Bb1 HB.out GE34.out); have GE36 := GW36; replace HB := Sb (Bb1 HB.out GE34.out) hb; have NB34_36 := Nl hg BK34; have NB36_34 := Ng hg BK34; replace BK34 := Kb BK34 hb; clear hb hbox hg; have hnb24 := NB36_34.out; have hnc24 := NB34_36.out; obtain ⟨q25_0, q25_1, q25_2, u25_0, u25_1, u25_2⟩ := Cf3 BK36) | ((with_reducible refine Qd (f := 36) rfl ?_); refine Gl 38 Tryz.func36 #[.agg #[.int .i64 x5_1, .string (rdOf ByteArray.empty t35 x23_2), .string (rdOf ByteArray.empty t35 x29_3)]] ?_; (with_reducible refine (impl_StmtText.calls k3 x5_1 (rdOf ByteArray.empty t35 x23_2) (rdOf ByteArray.empty t35 x29_3) t47 _ A16.out).mono ?_); rintro e w26 ⟨rfl, hb⟩; refine ⟨_, rfl, ?_⟩; replace HO_4 := Qa (Qw (Rv (Qh HO_4.out BK36.out (by decide))) hb); replace HO_21 := Qa (Qw (Rv (Qh HO_21.out BK36.out (by decide))) hb); replace HO_27 := Qa (Qw (Rv (Qh HO_27.out BK36.out (by decide))) hb); replace BK34 := Kf BK34 NB34_36.out hb; replace BK36 := Kx0 (.cells #[.int .i64 x5_1, .string (rdOf ByteArray.empty t35 x23_2), .string (rdOf ByteArray.empty t35 x29_3)] 50 (0, 0)) BK36 hb; replace HB := Sb (Bb2 HB.out GE34.out GE36.out) hb; clear hb; obtain ⟨q27_0, q27_1, q27_2, u27_0, u27_1, u27_2⟩ := Cf3 BK36; obtain ⟨q28_0, q28_1, q28_2, u28_0, u28_1, u28_2⟩ := Cf3 BK34) | ((with_reducible show bodyPost _ _ _ _ _ _); refine bodyPost_ret (results_ct rfl _ _ gb34 50 #[.int .i64 x5_1, .string (rdOf ByteArray.empty t35 x23_2), .string (rdOf ByteArray.empty t35 x29_3)] (0, 0) _ rfl (Bq BK34.out) Qu rfl (by kernel_rfl)) rfl ?_; exact ⟨Ze, Bb2 HB.out GE34.out GE36.out⟩))
               ·rw [if_neg c17] at H; have c17b0 := beq_eq_false_iff_ne.mpr c17; have c17b1 := bne_iff_ne.mpr c17; have H' := Qa H; clear H; have p37 : 0 ≤ (x29_3 : Int) := Da; have q37 : x29_3 < (t35.length : Int) := Da; obtain ⟨ad37, e37, hx37_0⟩ := Qg (Qc HO_27.out).2.2 x29_3 p37 q37; obtain rfl : ad40 = ad37 := (by injection e37); replace p37 := eq_true p37; replace q37 := eq_true q37; go_wp2_with (first | ((with_reducible refine Ql (N := 10) rfl ?_); refine Bx (N := 10) (cs := #[.int .i64 0, .string (⟨#[]⟩ : ByteArray), .string (⟨#[]⟩ : ByteArray)]) (t := 50) ?_; intro gb36 hg w29 hbox hb; replace HO_4 := Rb HO_4 hb; replace HO_21 := Rb HO_21 hb; replace HO_27 := Rb HO_27 hb; have BK36 := Qa (hbox); have GW36 := Gs (w := w) hg (Bb1 HB.out GE34.out); have GE36 := GW36; replace HB := Sb (Bb1 HB.out GE34.out) hb; have NB34_36 := Nl hg BK34; have NB36_34 := Ng hg BK34; replace BK34 := Kb BK34 hb; clear hb hbox hg; have hnb30 := NB36_34.out; have hnc30 := NB34_36.out; obtain ⟨q31_0, q31_1, q31_2, u31_0, u31_1, u31_2⟩ := Cf3 BK36) | ((with_reducible refine Qd (f := 36) rfl ?_); refine Gl 38 Tryz.func36 #[.agg #[.int .i64 x5_1, .string (rdOf ByteArray.empty t35 x23_2), .string (rdOf ByteArray.empty t35 x29_3)]] ?_; (with_reducible refine (impl_StmtText.calls k3 x5_1 (rdOf ByteArray.empty t35 x23_2) (rdOf ByteArray.empty t35 x29_3) t47 _ A16.out).mono ?_); rintro e w32 ⟨rfl, hb⟩; refine ⟨_, rfl, ?_⟩; replace HO_4 := Qa (Qw (Rv (Qh HO_4.out BK36.out (by decide))) hb); replace HO_21 := Qa (Qw (Rv (Qh HO_21.out BK36.out (by decide))) hb); replace HO_27 := Qa (Qw (Rv (Qh HO_27.out BK36.out (by decide))) hb); replace BK34 := Kf BK34 NB34_36.out hb; replace BK36 := Kx0 (.cells #[.int .i64 x5_1, .string (rdOf ByteArray.empty t35 x23_2), .string (rdOf ByteArray.empty t35 x29_3)] 50 (0, 0)) BK36 hb; replace HB := Sb (Bb2 HB.out GE34.out GE36.out) hb; clear hb)); go_roundg k3
                case measure => have := HK1.out; have := HK2.out; have := HK3.out; omega
                case rel => exact ⟨(Qb (x29_3 + 1)), (x41_3), (x42_3), (x43_3), Zf, H', ⟨by have := HK1.out; have := HK2.out; have := HK3.out; omega⟩, ⟨Br HO_4.out⟩, ⟨Br HO_21.out⟩, ⟨Br HO_27.out⟩, ⟨Ba BK34.out⟩, ⟨Bb2 HB.out GE34.out GE36.out⟩⟩
              ·rw [if_neg c15] at H; exact absurd H (by simp)
             ·rw [if_neg c14] at H; exact absurd H (by simp)
            ·rw [if_neg c13] at H; replace c13 := decide_eq_false c13; have H' := Qa H; clear H; go_wp2; go_roundg k3
             case measure => have := HK1.out; have := HK2.out; have := HK3.out; omega
             case rel => exact ⟨(Qb (x23_2 + 1)), (x41_3), (x42_3), (x43_3), Zf, H', ⟨by have := HK1.out; have := HK2.out; have := HK3.out; omega⟩, ⟨Br HO_4.out⟩, ⟨Br HO_21.out⟩, ⟨Ba BK34.out⟩, ⟨Bb1 HB.out GE34.out⟩⟩
         ·rw [if_neg c12] at H; exact absurd H (by simp)
        ·rw [if_neg c11] at H; exact absurd H (by simp)
       ·rw [if_neg c10] at H; replace c10 := decide_eq_false c10; have H' := Qa H; clear H; go_wp2; go_roundg k2
        case measure => have := HK1.out; have := HK2.out; omega
        case rel => exact ⟨(Qb (x5_1 + 1)), (x41_2), (x42_2), (x43_2), Zf, H', ⟨by have := HK1.out; have := HK2.out; omega⟩, ⟨Br HO_4.out⟩, ⟨Ba BK34.out⟩, ⟨Bb1 HB.out GE34.out⟩⟩
    ·rw [if_neg c8] at H; replace c8 := decide_eq_false c8; simp only [Option.some.injEq, Prod.mk.injEq] at H; obtain ⟨rfl, rfl, rfl, rfl⟩ := H; obtain ⟨q33_0, q33_1, q33_2, u33_0, u33_1, u33_2⟩ := Cf3 BK34; go_wp2; refine bodyPost_ret (results_ct rfl _ _ gb34 50 #[.int .i64 0, .string (⟨#[]⟩ : ByteArray), .string (⟨#[]⟩ : ByteArray)] (0, 0) _ rfl (Bq BK34.out) Qu rfl (by kernel_rfl)) rfl ?_; exact ⟨Ze, Bb1 HB.out GE34.out⟩
end Go.Proofs.YtndkkpjofddfjaaGreatDoor.PFnExactParseProgram
