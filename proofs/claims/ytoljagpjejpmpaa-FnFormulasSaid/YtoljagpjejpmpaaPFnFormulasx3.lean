-- Laid by wip/tools/xprint.py (a program of this session over the kit's print). Not trusted: Lean checks it.
import Derived.Test.YtoljagpjejpmpaaXAuto
import Derived.Test.YtoljagpjejpmpaaPFnFormulasx0
import Derived.Test.YtoljagpjejpmpaaPFnFormulasx2
namespace Go.Proofs.Ytoljagpjejpmpaa.PFnFormulas
open Go.RowKit Go.Proofs.YtoljagpjejpmpaaW.PrintWords Go.Proofs.YtoljagpjejpmpaaW.PrintLast Go.Proofs.YtoljagpjejpmpaaW.PrintMore
open Go.Proofs.YtoljagpjejpmpaaW.PrintWords.Aside0 renaming mk → Qa
open Go.Proofs.YtoljagpjejpmpaaW.PrintWords renaming blk_cell → Qb, blk_frozen → Qc, blk_alloc → Qf, blk_drewN → Qg, below_set → Ql, pw_below_drewN → Qp, below_drew1 → Qu, below_size → Qv, below_alloc → Za, gate_callee → Zf
open Go.World renaming block_lt_of_cell? → Qd
open Option renaming bind_eq_some_iff → Qi, bind_some → Zz
open List renaming map_toArray → Qm, length_drop → Qn, length_take → Qo, map_cons → Qt, map_nil → Zb
open Go.RowKit renaming wrap64 → Qq
open Option.some renaming inj → Qs
open Bool renaming eq_iff_iff → Qx, eq_false_iff → Xe
open Go.Proofs.YtoljagpjejpmpaaW.PrintWords.Kd renaming R_mono → Zq, R_alloc → Xl, R_drewN → Xm, R_drew → Xp, int → Xu
open Nat renaming le_refl → Zv
open Go.Proofs.Try renaming prog → Xh
open Go.Proofs.YtoljagpjejpmpaaW.PrintLast renaming goesL_ → Xq
open Go renaming World → Xs
open Go.RowKit.Below renaming refl → Xv
attribute [local go_sem] max2_int min2_int max_two min_two max_three min_three max_four min_four
set_option linter.unusedVariables false
set_option linter.unusedSimpArgs false
def spec_FreeLogic.l0 : Nat → List Bool → List Int → Int → Option (List Int)
 | 0, _, _, _ => none
 | k + 1, x3, x4, x5 => if x5 < (x3.length : Int) then (if 0 ≤ x5 then (if rdOf false x3 x5 = true then (if x4.length < 17592186044416 then (spec_FreeLogic.l0 k x3 (x4 ++ [x5]) (Qq (x5 + 1))) else (none)) else (spec_FreeLogic.l0 k x3 x4 (Qq (x5 + 1)))) else (none)) else (some x4)
def spec_FreeLogic.f (k : Nat) (a0_0 : Int) (a0_1 : Int) (a0_2 : Int) (a0_3 : Int) (l0_4 : List (S32)) : Option (List Int) := if 4 ≤ 281474976710656 then ((spec_l10Free.f k a0_0 a0_1 a0_2 a0_3 l0_4 (([] : List Int)) (List.replicate 4 false)).bind fun t126 => (spec_FreeLogic.l0 k t126 (([] : List Int)) 0)) else (none)
theorem spec_FreeLogic.mono_l : ∀ k, (∀ y0 y1 y2, LeO (spec_FreeLogic.l0 k y0 y1 y2) (spec_FreeLogic.l0 (k + 1) y0 y1 y2))
 | 0 => fun _ _ _ r h => by simp [spec_FreeLogic.l0] at h
 | k + 1 => by
  have ih0 := spec_FreeLogic.mono_l k
  ·intro y0 y1 y2
   unfold spec_FreeLogic.l0
   repeat' first
   | (with_reducible exact ih0 _ _ _)
   | (with_reducible exact spec_l10Free.mono _ _ _ _ _ _ _ _)
   | (with_reducible exact LeO.refl _)
   | (with_reducible exact LeO.none _)
   | (with_reducible refine LeO.ite ?_ ?_)
   | (with_reducible refine LeO.bind ?_ (fun _ => ?_))
   | exact ih0 _ _ _
   | exact spec_l10Free.mono _ _ _ _ _ _ _ _
   | exact LeO.none _
   | refine LeO.ite ?_ ?_
   | refine LeO.bind ?_ (fun _ => ?_)
theorem spec_FreeLogic.mono : ∀ a0 a1 a2 a3 a4 k, LeO (spec_FreeLogic.f k a0 a1 a2 a3 a4) (spec_FreeLogic.f (k + 1) a0 a1 a2 a3 a4) := by
 intro a0 a1 a2 a3 a4 k
 have ih0 := spec_FreeLogic.mono_l k
 unfold spec_FreeLogic.f
 repeat' first
   | (with_reducible exact ih0 _ _ _)
   | (with_reducible exact spec_l10Free.mono _ _ _ _ _ _ _ _)
   | (with_reducible exact LeO.refl _)
   | (with_reducible exact LeO.none _)
   | (with_reducible refine LeO.ite ?_ ?_)
   | (with_reducible refine LeO.bind ?_ (fun _ => ?_))
   | exact ih0 _ _ _
   | exact spec_l10Free.mono _ _ _ _ _ _ _ _
   | exact LeO.none _
   | refine LeO.ite ?_ ?_
   | refine LeO.bind ?_ (fun _ => ?_)
set_option maxHeartbeats 8000000 in
set_option maxRecDepth 100000 in
theorem spec_FreeLogic.calls (k : Nat) (a0_0 : Int) (a0_1 : Int) (a0_2 : Int) (a0_3 : Int) (A0_4 : Option Addr) (c0_4 : Nat) (l0_4 : List (S32)) (r : List Int) (w : Xs) (hr0_4 : Kd.C k32 w A0_4 l0_4.length l0_4) (hc0_4 : l0_4.length ≤ c0_4) (h : spec_FreeLogic.f k a0_0 a0_1 a0_2 a0_3 l0_4 = some r) :
  Calls Xh 25 #[.agg #[.int .i64 a0_0, .int .i64 a0_1, .int .i64 a0_2, .int .i64 a0_3, .slice A0_4 l0_4.length c0_4]] w fun e w' => ∃ v0_ : Value, e = .returned (v0_) ∧ Kd.R (Xu .i64) 3 w' w.heap.size (fun _ => True) v0_ r ∧ Below w.heap.size w w' := by
 have hu32 := Try.underlying32
 have HR0_4 := Qa hr0_4
 have HC0_4 := Qa hc0_4
 clear hr0_4 hc0_4
 have HB := Qa (Xv w.heap.size w)
 have H : (if 4 ≤ 281474976710656 then ((spec_l10Free.f k a0_0 a0_1 a0_2 a0_3 l0_4 (([] : List Int)) (List.replicate 4 false)).bind fun t126 => (spec_FreeLogic.l0 k t126 (([] : List Int)) 0)) else (none)) = some r := h
 clear h
 by_cases c2 : 4 ≤ 281474976710656
 ·rw [if_pos c2] at H
  have c2b0 := eq_true c2
  have c2b1 : decide (4 ≤ 281474976710656) = true := decide_eq_true c2
  clear c2
  obtain ⟨y120, hy120⟩ : ∃ y_ : List Bool, y_ = (List.replicate 4 false) := ⟨_, rfl⟩
  replace H : ((spec_l10Free.f k a0_0 a0_1 a0_2 a0_3 l0_4 (([] : List Int)) y120).bind fun t126 => (spec_FreeLogic.l0 k t126 (([] : List Int)) 0)) = some r := by first | (rw [hy120]; with_reducible exact H) | (have H2_ := (Zz _ _).symm.trans H; rw [hy120]; with_reducible exact H2_) | (have H2_ := (Zz _ _).symm.trans H; with_reducible exact H2_) | with_reducible exact H | (rw [hy120]; exact H) | exact H
  have Ny120 := Qa hy120
  clear hy120
  obtain ⟨y123, hy123⟩ : ∃ y_ : List Int, y_ = (([] : List Int)) := ⟨_, rfl⟩
  replace H : ((spec_l10Free.f k a0_0 a0_1 a0_2 a0_3 l0_4 y123 y120).bind fun t126 => (spec_FreeLogic.l0 k t126 (([] : List Int)) 0)) = some r := by first | (rw [hy123]; with_reducible exact H) | (have H2_ := (Zz _ _).symm.trans H; rw [hy123]; with_reducible exact H2_) | (have H2_ := (Zz _ _).symm.trans H; with_reducible exact H2_) | with_reducible exact H | (rw [hy123]; exact H) | exact H
  have Ny123 := Qa hy123
  clear hy123
  replace H := Qi.mp H
  obtain ⟨t126, A30, H⟩ := H
  replace H : (spec_FreeLogic.l0 k t126 (([] : List Int)) 0) = some r := H
  have A3 := Qa A30
  clear A30
  obtain ⟨y127, hy127⟩ : ∃ y_ : List Int, y_ = (([] : List Int)) := ⟨_, rfl⟩
  replace H : (spec_FreeLogic.l0 k t126 y127 0) = some r := by first | (rw [hy127]; with_reducible exact H) | (have H2_ := (Zz _ _).symm.trans H; rw [hy127]; with_reducible exact H2_) | (have H2_ := (Zz _ _).symm.trans H; with_reducible exact H2_) | with_reducible exact H | (rw [hy127]; exact H) | exact H
  have Ny127 := Qa hy127
  clear hy127
  have H' := Qa H
  clear H
  go_enter Try.func25, Try.ntmps25
  go_wp2_with (first | ((with_reducible refine gate_dst (N := 1) rfl ?_); refine box_event ?hg (N := 1) ?hd (cs := #[.int .i64 a0_0, .int .i64 a0_1, .int .i64 a0_2, .int .i64 a0_3, .slice A0_4 l0_4.length c0_4]) (t := 32) ?hr ?_; (case hd => rfl); (case hg => rfl); (case hr => first | (go_simp; done) | (go_simp; rfl)); intro gb119 hg w4 hbox hb; have BK119 := Qa (hbox); have GW119 := Qa ((by rw [hg]; exact (Qv (Bb0 HB.out)) : w.heap.size ≤ gb119)); have GE119 := Qa ((by rw [hg]; exact (Qv (Bb0 HB.out)) : w.heap.size ≤ gb119)); replace HB := Qa (below_step (Bb0 HB.out) hb); clear hb hbox hg) | ((with_reducible refine gate_dst (N := 6) rfl ?_); refine Kd.R_make Kd.bool _ 4 rfl (N := 6) rfl 82 _ _ rfl 4 rfl rfl Try.underlying82 (.bool false) 1 info4 rfl (by decide) (by omega) false (ok := fun _ => True) (okp := fun _ => True) rfl (fun _ hk => hk) trivial (by omega) (by omega) (Xv _ _) (Zv _) ?_; intro v121 w5 ho6 hb hg_ hnew_; clear hg_ hnew_; (first | rw [← Ny120.out] at ho6 | (simp only [Int.reduceToNat] at ho6; rw [← Ny120.out] at ho6)); have HO122 := Qa (Kd.R_lower ho6 (Qv (Bb1 HB.out GE119.out))); replace BK119 := Qa (blk_below (g := gb119) (o := .cells #[.int .i64 a0_0, .int .i64 a0_1, .int .i64 a0_2, .int .i64 a0_3, .slice A0_4 l0_4.length c0_4] 32 (0, 0)) (Ba BK119.out) hb); replace HB := Qa (below_step (Bb1 HB.out GE119.out) hb); clear hb ho6; have q7_0 : w5.cell? ⟨gb119, 0, none⟩ = some (.int .i64 a0_0) := (Qb BK119.out 0).trans rfl; have q7_1 : w5.cell? ⟨gb119, 1, none⟩ = some (.int .i64 a0_1) := (Qb BK119.out 1).trans rfl; have q7_2 : w5.cell? ⟨gb119, 2, none⟩ = some (.int .i64 a0_2) := (Qb BK119.out 2).trans rfl; have q7_3 : w5.cell? ⟨gb119, 3, none⟩ = some (.int .i64 a0_3) := (Qb BK119.out 3).trans rfl; have q7_4 : w5.cell? ⟨gb119, 4, none⟩ = some (.slice A0_4 l0_4.length c0_4) := (Qb BK119.out 4).trans rfl; have u7_0 := Qc BK119.out 0; have u7_1 := Qc BK119.out 1; have u7_2 := Qc BK119.out 2; have u7_3 := Qc BK119.out 3; have u7_4 := Qc BK119.out 4) | ((with_reducible refine gate_dst (N := 8) rfl ?_); refine Kd.R_lit (Xu .i64) _ 3 ?hg (N := 8) ?hd (xs := ([] : List Int)) (inner := []) (ok := fun _ => True) (okp := fun _ => True) ?hr ?hp (fun _ hk => hk) trivial (Xv _ _) (Zv _) (by simp) ?_; (case hd => rfl); (case hg => rfl); (case hr => first | (go_simp; done) | (go_simp; rfl)); (case hp => exact (Reps.none _ _)); intro v124 w8 ho9 hb hg_ hnew_; clear hg_ hnew_; (first | rw [← Ny123.out] at ho9 | (simp only [Int.reduceToNat] at ho9; rw [← Ny123.out] at ho9)); replace HO122 := Qa (Kd.R_below (Br HO122.out) hb); have HO125 := Qa (Kd.R_lower ho9 (Qv (Bb1 HB.out GE119.out))); replace BK119 := Qa (blk_below (g := gb119) (o := .cells #[.int .i64 a0_0, .int .i64 a0_1, .int .i64 a0_2, .int .i64 a0_3, .slice A0_4 l0_4.length c0_4] 32 (0, 0)) (Ba BK119.out) hb); replace HB := Qa (below_step (Bb1 HB.out GE119.out) hb); clear hb ho9; obtain ⟨Ao10, co10, eo10⟩ := Kd.R_slice HO125.out; subst eo10; obtain ⟨Ao11, co11, eo11⟩ := Kd.R_slice HO122.out; subst eo11) | ((with_reducible refine Zf (f := 59) rfl ?_); refine Xq (some 10) rfl rfl Try.func59 (by kernel_rfl) rfl #[.agg #[.int .i64 a0_0, .int .i64 a0_1, .int .i64 a0_2, .int .i64 a0_3, .slice A0_4 l0_4.length c0_4], .slice Ao10 y123.length co10, .slice Ao11 y120.length co11] rfl (by (try simp only [Qm, Qt, Zb]); first | done | rfl | (simp only [Qn, Qo]; rfl)) ?_; (with_reducible refine (spec_l10Free.calls k a0_0 a0_1 a0_2 a0_3 _ _ l0_4 _ _ y123 (fun k_ => some k_ = (.slice Ao11 y120.length co11 : Value).ownBlock) (.slice Ao11 y120.length co11) y120 t126 w _ ?side1 ?side2 ?side3 ?side4 ?side5 ?side6 A3.out).mono ?_); (case side1 => repeat (first | (with_reducible first | exact HB.out | apply Za | apply Qp | apply Qu | refine Ql ?_ GE119.out) | exact HB.out)); (case side2 => exact HR0_4.out); (case side3 => exact HC0_4.out); (case side4 => exact Kd.C_kept_own ((Kd.R_apart' HO125.out (Kd.R_typed HO122.out) (by decide))) (fun k_ hk_ hs_ => (hk_.2) hs_)); (case side5 => exact (Kd.R_reads' HO125.out).2.1); (case side6 => exact Kd.R_tight rfl HO122.out); rintro e w12 ⟨rfl, hy0, hb, hkp⟩; refine ⟨_, rfl, ?_⟩; replace BK119 := Qa (blk_kept (Ba BK119.out) hkp (fun hs_ => (fun e_ => (Kd.R_ne HO122.out BK119.out (by decide)) e_) hs_)); replace HO125 := Qa (Zq (ok' := fun k_ => True) (Kd.R_keptB ((Kd.R_apart' HO125.out (Kd.R_typed HO122.out) (by decide))) hkp (fun k_ hk_ hs_ => (hk_.2) hs_)) (fun k_ hk_ => trivial)); replace HO122 := Qa (Kd.R_reok rfl hy0 (fun k_ e_ => HO122.out.1 k_ e_)); replace HB := Qa (hb); (try clear hb); (try clear hkp); (try clear hy0)) | ((with_reducible refine gate_dst (N := 11) rfl ?_); refine Kd.R_lit (Xu .i64) _ 3 ?hg (N := 11) ?hd (xs := ([] : List Int)) (inner := []) (ok := fun _ => True) (okp := fun _ => True) ?hr ?hp (fun _ hk => hk) trivial (Xv _ _) (Zv _) (by simp) ?_; (case hd => rfl); (case hg => rfl); (case hr => first | (go_simp; done) | (go_simp; rfl)); (case hp => exact (Reps.none _ _)); intro v128 w13 ho14 hb hg_ hnew_; clear hg_ hnew_; (first | rw [← Ny127.out] at ho14 | (simp only [Int.reduceToNat] at ho14; rw [← Ny127.out] at ho14)); replace HO122 := Qa (Kd.R_below (Br HO122.out) hb); have HO129 := Qa (Kd.R_lower (Kd.R_new' ho14 (Kd.R_lt (Br HO125.out))) (Qv (Bb1 HB.out GE119.out))); replace HO125 := Qa (Kd.R_elder' (Br HO125.out) (Kd.R_base ho14) hb); replace BK119 := Qa (blk_below (g := gb119) (o := .cells #[.int .i64 a0_0, .int .i64 a0_1, .int .i64 a0_2, .int .i64 a0_3, .slice A0_4 l0_4.length c0_4] 32 (0, 0)) (Ba BK119.out) hb); replace HB := Qa (below_step (Bb1 HB.out GE119.out) hb); clear hb ho14))
  go_loopg [4, 5] k (fun kq v4 v5 w' => ∃ (x4_1 : List Int) (x5_1 : Int), v5 = .int .i64 x5_1 ∧ Aside0 (spec_FreeLogic.l0 kq t126 x4_1 x5_1 = some r) ∧ Aside0 (kq ≤ k) ∧ Aside0 (Kd.R Kd.bool 4 w' w.heap.size (fun _ => True) (.slice Ao11 y120.length co11) t126) ∧ Aside0 (Kd.R (Xu .i64) 3 w' w.heap.size (fun _ => True) v4 x4_1) ∧ Aside0 (w'.heap[gb119]? = some (.cells #[.int .i64 a0_0, .int .i64 a0_1, .int .i64 a0_2, .int .i64 a0_3, (.slice A0_4 l0_4.length c0_4)] 32 (0, 0))) ∧ Aside0 (Below w.heap.size w w'))
  case atStart => exact ⟨(y127), (0), (by first | rfl | (simp; done) | (simp [*]; done) | (simp; rw [Qx]; simp; done)), H', ⟨Nat.le_refl _⟩, ⟨by (with_reducible repeat (first | apply Xl | apply Xm | apply Xp)); exact HO122.out⟩, ⟨by (with_reducible repeat (first | apply Xl | apply Xm | apply Xp)); exact Zq HO129.out (fun _ hk => trivial)⟩, ⟨Ba BK119.out⟩, ⟨Bb1 HB.out GE119.out⟩⟩
  case round =>
   clear H'
   try clear c2
   try clear c2b0
   try clear c2b1
   try clear p2
   try clear c5
   try clear q7_0
   try clear q7_1
   try clear q7_2
   try clear q7_3
   try clear q7_4
   try clear u7_0
   try clear u7_1
   try clear u7_2
   try clear u7_3
   try clear u7_4
   obtain ⟨x4_1, x5_1, rfl, HA, HK1, HO_3, HO_4, BK119, HB⟩ := hrel
   have hl3_1 := (Kd.R_reads' HO_3.out).1
   rw [hl3_1] at HO_3
   (try simp only [hl3_1])
   (try simp only [hl3_1] at BK119)
   (try simp only [hl3_1] at HO_4)
   cases gk with
   | zero => exact absurd HA.out (by simp [spec_FreeLogic.l0])
   | succ k1 =>
    have H := HA.out
    clear HA
    simp only [spec_FreeLogic.l0] at H
    by_cases c15 : x5_1 < (t126.length : Int)
    ·rw [if_pos c15] at H
     have c15b0 : decide (x5_1 < (t126.length : Int)) = true := decide_eq_true c15
     clear c15
     by_cases c16 : 0 ≤ x5_1
     ·rw [if_pos c16] at H
      have c16b0 : decide (0 ≤ x5_1) = true := decide_eq_true c16
      clear c16
      obtain ⟨bq17, hbq17⟩ : ∃ b_ : Bool, b_ = (rdOf false t126 x5_1) := ⟨_, rfl⟩
      replace H : (if bq17 = true then (if x4_1.length < 17592186044416 then (spec_FreeLogic.l0 k1 t126 (x4_1 ++ [x5_1]) (Qq (x5_1 + 1))) else (none)) else (spec_FreeLogic.l0 k1 t126 x4_1 (Qq (x5_1 + 1)))) = some r := by rw [← hbq17] at H; exact H
      have Nbq17 := Qa hbq17
      clear hbq17
      by_cases c18 : bq17 = true
      ·subst c18
       have H1 : (if x4_1.length < 17592186044416 then (spec_FreeLogic.l0 k1 t126 (x4_1 ++ [x5_1]) (Qq (x5_1 + 1))) else (none)) = some r := by rw [if_pos rfl] at H; exact H
       clear H
       have H := H1
       clear H1
       by_cases c19 : x4_1.length < 17592186044416
       ·rw [if_pos c19] at H
        have LMc19 := Qa c19
        clear c19
        obtain ⟨y131, hy131⟩ : ∃ y_ : List Int, y_ = (x4_1 ++ [x5_1]) := ⟨_, rfl⟩
        replace H : (spec_FreeLogic.l0 k1 t126 y131 (Qq (x5_1 + 1))) = some r := by first | (rw [hy131]; with_reducible exact H) | (have H2_ := (Zz _ _).symm.trans H; rw [hy131]; with_reducible exact H2_) | (have H2_ := (Zz _ _).symm.trans H; with_reducible exact H2_) | with_reducible exact H | (rw [hy131]; exact H) | exact H
        have Ny131 := Qa hy131
        clear hy131
        have H' := Qa H
        clear H
        have p130 : 0 ≤ (x5_1 : Int) := of_decide_eq_true (by first | (with_reducible assumption) | assumption)
        have q130 : x5_1 < (t126.length : Int) := of_decide_eq_true (by first | (with_reducible assumption) | assumption)
        obtain ⟨ad130, e130, hx130_0⟩ := Kd.at_bool (Kd.R_reads' HO_3.out).2.2 x5_1 p130 q130
        (try rw [← Nbq17.out] at hx130_0)
        cases e130
        replace p130 := eq_true p130
        replace q130 := eq_true q130
        go_wp2_with (first | ((with_reducible refine gate_builtin (b := .append) (xs := #[.tmp 22, .tmp 24]) rfl ?_); at_builtin; refine Kd.R_append (Xu .i64) (w0 := w) w.heap.size rfl (.tmp 22) (.tmp 24) 47 3 (.int .i64 0) 8 rfl Try.underlying47 info3 rfl (by decide) (by omega) u4 x4_1 x5_1 [.int .i64 x5_1] (fun _ => True) (fun _ => False) rfl rfl ?aP (fun _ hk => hk.elim) ?aF ?aO ?aB ?aS ?aL ?_; (case aP => exact rfl); (case aB => exact (Bb1 HB.out GE119.out)); (case aF => exact (fun _ _ => trivial)); (case aO => exact (Br HO_4.out)); (case aS => exact (Qv (Bb1 HB.out GE119.out))); (case aL => have := LMc19.out; omega); intro v132 w20 ho hb hg hat; rw [← Ny131.out] at ho; replace HO_3 := Qa (Kd.R_over' (Br HO_3.out) (Kd.R_typed (Br HO_4.out)) (by decide) hg); replace BK119 := Qa (blk_grown (g := gb119) (o := .cells #[.int .i64 a0_0, .int .i64 a0_1, .int .i64 a0_2, .int .i64 a0_3, .slice A0_4 l0_4.length c0_4] 32 (0, 0)) (Ba BK119.out) hg (Kd.R_ne HO_4.out BK119.out (by decide))); replace HB := Qa (hb); have HO133 := Qa (ho); clear HO_4; clear ho hb hg hat))
        (try simp only [← hl3_1])
        go_roundg k1
        case measure => have := HK1.out; omega
        case rel => exact ⟨(y131), (Qq (x5_1 + 1)), (by first | rfl | (simp; done) | (simp [*]; done) | (simp; rw [Qx]; simp; done)), H', ⟨by have := HK1.out; omega⟩, ⟨by (try simp only [hl3_1]); (with_reducible repeat (first | apply Xl | apply Xm | apply Xp)); exact HO_3.out⟩, ⟨by (try simp only [hl3_1]); (with_reducible repeat (first | apply Xl | apply Xm | apply Xp)); exact HO133.out⟩, ⟨by (try simp only [hl3_1]); (with_reducible repeat (first | refine Qg ?_ _ | refine blk_drew ?_ | refine Qf ?_ _)); exact BK119.out⟩, ⟨Bb1 HB.out GE119.out⟩⟩
       ·rw [if_neg c19] at H
        exact absurd H (by simp)
      ·replace c18 := Xe.mpr c18
       subst c18
       have H1 : (spec_FreeLogic.l0 k1 t126 x4_1 (Qq (x5_1 + 1))) = some r := by rw [if_neg (show ¬ (false = true) by decide)] at H; exact H
       clear H
       have H := H1
       clear H1
       have H' := Qa H
       clear H
       have p130 : 0 ≤ (x5_1 : Int) := of_decide_eq_true (by first | (with_reducible assumption) | assumption)
       have q130 : x5_1 < (t126.length : Int) := of_decide_eq_true (by first | (with_reducible assumption) | assumption)
       obtain ⟨ad130, e130, hx130_0⟩ := Kd.at_bool (Kd.R_reads' HO_3.out).2.2 x5_1 p130 q130
       (try rw [← Nbq17.out] at hx130_0)
       cases e130
       replace p130 := eq_true p130
       replace q130 := eq_true q130
       go_wp2
       (try simp only [← hl3_1])
       go_roundg k1
       case measure => have := HK1.out; omega
       case rel => exact ⟨(x4_1), (Qq (x5_1 + 1)), (by first | rfl | (simp; done) | (simp [*]; done) | (simp; rw [Qx]; simp; done)), H', ⟨by have := HK1.out; omega⟩, ⟨by (try simp only [hl3_1]); (with_reducible repeat (first | apply Xl | apply Xm | apply Xp)); exact HO_3.out⟩, ⟨by (try simp only [hl3_1]); (with_reducible repeat (first | apply Xl | apply Xm | apply Xp)); exact HO_4.out⟩, ⟨by (try simp only [hl3_1]); (with_reducible repeat (first | refine Qg ?_ _ | refine blk_drew ?_ | refine Qf ?_ _)); exact BK119.out⟩, ⟨Bb1 HB.out GE119.out⟩⟩
     ·rw [if_neg c16] at H
      exact absurd H (by simp)
    ·rw [if_neg c15] at H
     have c15b0 : decide (x5_1 < (t126.length : Int)) = false := decide_eq_false c15
     clear c15
     obtain rfl := Qs H
     go_wp2
     go_ret
     exact ⟨_, by first | rfl | (simp [errW_none, errW_some] <;> rfl) | (simp [*, errW_none, errW_some] <;> rfl), by (with_reducible repeat (first | apply Xl | apply Xm | apply Xp)); exact HO_4.out, by repeat (first | (with_reducible first | exact HB.out | apply Za | apply Qp | apply Qu | refine Ql ?_ GE119.out) | exact HB.out)⟩
 ·rw [if_neg c2] at H
  exact absurd H (by simp)
def impl_isBinder.f (a0 : Int) : Option (Bool) := if a0 = 11 then (some true) else (some (a0 == 12))
set_option maxHeartbeats 8000000 in
set_option maxRecDepth 100000 in
theorem impl_isBinder.calls (a0 : Int) (r : Bool) (w : Xs) (h : impl_isBinder.f a0 = some r) :
  Calls Xh 60 #[.int .i64 a0] w fun e w' => e = .returned (.bool r) ∧ Drawn0 w w' := by
 have H : (if a0 = 11 then (some true) else (some (a0 == 12))) = some r := h
 clear h
 by_cases c2 : a0 = 11
 ·rw [if_pos c2] at H
  have c2b0 : (a0 == 11) = true := beq_iff_eq.mpr c2
  have c2b1 : (a0 != 11) = false := bne_eq_false_iff_eq.mpr c2
  clear c2
  obtain rfl := Qs H
  go_enter Try.func60, Try.ntmps60
  go_wp2
  go_ret
  exact ⟨by first | rfl | (simp; done) | (simp [*]; done), by repeat (first | exact Drawn0.refl _ | apply Drawn0.step)⟩
 ·rw [if_neg c2] at H
  have c2b0 : (a0 == 11) = false := beq_eq_false_iff_ne.mpr c2
  have c2b1 : (a0 != 11) = true := bne_iff_ne.mpr c2
  obtain rfl := Qs H
  go_enter Try.func60, Try.ntmps60
  go_wp2
  go_ret
  exact ⟨by first | rfl | (simp; done) | (simp [*]; done), by repeat (first | exact Drawn0.refl _ | apply Drawn0.step)⟩
def impl_within.f (a0 : Int) (a1 : Int) (a2 : Int) : Option (Bool) := if a1 ≤ a0 then (some (decide (a0 ≤ a2))) else (some false)
set_option maxHeartbeats 8000000 in
set_option maxRecDepth 100000 in
theorem impl_within.calls (a0 : Int) (a1 : Int) (a2 : Int) (r : Bool) (w : Xs) (h : impl_within.f a0 a1 a2 = some r) :
  Calls Xh 66 #[.int .i64 a0, .int .i64 a1, .int .i64 a2] w fun e w' => e = .returned (.bool r) ∧ Drawn0 w w' := by
 have H : (if a1 ≤ a0 then (some (decide (a0 ≤ a2))) else (some false)) = some r := h
 clear h
 by_cases c4 : a1 ≤ a0
 ·rw [if_pos c4] at H
  have c4b0 : decide (a1 ≤ a0) = true := decide_eq_true c4
  clear c4
  obtain rfl := Qs H
  go_enter Try.func66, Try.ntmps66
  go_wp2
  go_ret
  exact ⟨by first | rfl | (simp; done) | (simp [*]; done), by repeat (first | exact Drawn0.refl _ | apply Drawn0.step)⟩
 ·rw [if_neg c4] at H
  have c4b0 : decide (a1 ≤ a0) = false := decide_eq_false c4
  clear c4
  obtain rfl := Qs H
  go_enter Try.func66, Try.ntmps66
  go_wp2
  go_ret
  exact ⟨by first | rfl | (simp; done) | (simp [*]; done), by repeat (first | exact Drawn0.refl _ | apply Drawn0.step)⟩
def impl_usesU.f (a0 : Int) : Option (Bool) := (impl_within.f a0 2 7).bind fun t134 => (if t134 = true then (some true) else ((impl_isBinder.f a0).bind fun t135 => (some t135)))
set_option maxHeartbeats 8000000 in
set_option maxRecDepth 100000 in
theorem impl_usesU.calls (a0 : Int) (r : Bool) (w : Xs) (h : impl_usesU.f a0 = some r) :
  Calls Xh 63 #[.int .i64 a0] w fun e w' => e = .returned (.bool r) ∧ Drawn0 w w' := by
 have H : ((impl_within.f a0 2 7).bind fun t134 => (if t134 = true then (some true) else ((impl_isBinder.f a0).bind fun t135 => (some t135)))) = some r := h
 clear h
 replace H := Qi.mp H
 obtain ⟨t134, A20, H⟩ := H
 replace H : (if t134 = true then (some true) else ((impl_isBinder.f a0).bind fun t135 => (some t135))) = some r := H
 have A2 := Qa A20
 clear A20
 by_cases c3 : t134 = true
 ·subst c3
  have H1 : (some true) = some r := by rw [if_pos rfl] at H; exact H
  clear H
  have H := H1
  clear H1
  obtain rfl := Qs H
  go_enter Try.func63, Try.ntmps63
  go_wp2_with (first | ((with_reducible refine Zf (f := 66) rfl ?_); refine Xq (some 4) rfl rfl Try.func66 (by kernel_rfl) rfl #[.int .i64 a0, .int .i64 2, .int .i64 7] rfl (by (try simp only [Qm, Qt, Zb]); first | done | rfl | (simp only [Qn, Qo]; rfl)) ?_; (with_reducible refine (impl_within.calls a0 2 7 true _ A2.out).mono ?_); rintro e w' ⟨rfl, ⟨nd, rfl⟩⟩; refine ⟨_, rfl, ?_⟩))
  go_ret
  exact ⟨by first | rfl | (simp; done) | (simp [*]; done), by repeat (first | exact Drawn0.refl _ | apply Drawn0.step)⟩
 ·replace c3 := Xe.mpr c3
  subst c3
  have H1 : ((impl_isBinder.f a0).bind fun t135 => (some t135)) = some r := by rw [if_neg (show ¬ (false = true) by decide)] at H; exact H
  clear H
  have H := H1
  clear H1
  replace H := Qi.mp H
  obtain ⟨t135, A40, H⟩ := H
  replace H : (some t135) = some r := H
  have A4 := Qa A40
  clear A40
  obtain rfl := Qs H
  go_enter Try.func63, Try.ntmps63
  go_wp2_with (first | ((with_reducible refine Zf (f := 66) rfl ?_); refine Xq (some 4) rfl rfl Try.func66 (by kernel_rfl) rfl #[.int .i64 a0, .int .i64 2, .int .i64 7] rfl (by (try simp only [Qm, Qt, Zb]); first | done | rfl | (simp only [Qn, Qo]; rfl)) ?_; (with_reducible refine (impl_within.calls a0 2 7 false _ A2.out).mono ?_); rintro e w' ⟨rfl, ⟨nd, rfl⟩⟩; refine ⟨_, rfl, ?_⟩) | (go_at_call 60; (with_reducible refine (impl_isBinder.calls a0 t135 _ A4.out).mono ?_); rintro e w' ⟨rfl, ⟨nd, rfl⟩⟩))
  go_ret
  exact ⟨by first | rfl | (simp; done) | (simp [*]; done), by repeat (first | exact Drawn0.refl _ | apply Drawn0.step)⟩
def impl_usesV.f (a0 : Int) : Option (Bool) := (impl_within.f a0 5 7).bind fun t136 => (some t136)
set_option maxHeartbeats 8000000 in
set_option maxRecDepth 100000 in
theorem impl_usesV.calls (a0 : Int) (r : Bool) (w : Xs) (h : impl_usesV.f a0 = some r) :
  Calls Xh 64 #[.int .i64 a0] w fun e w' => e = .returned (.bool r) ∧ Drawn0 w w' := by
 have H : ((impl_within.f a0 5 7).bind fun t136 => (some t136)) = some r := h
 clear h
 replace H := Qi.mp H
 obtain ⟨t136, A20, H⟩ := H
 replace H : (some t136) = some r := H
 have A2 := Qa A20
 clear A20
 obtain rfl := Qs H
 go_enter Try.func64, Try.ntmps64
 go_wp2_with (first | ((with_reducible refine Zf (f := 66) rfl ?_); refine Xq (some 4) rfl rfl Try.func66 (by kernel_rfl) rfl #[.int .i64 a0, .int .i64 5, .int .i64 7] rfl (by (try simp only [Qm, Qt, Zb]); first | done | rfl | (simp only [Qn, Qo]; rfl)) ?_; (with_reducible refine (impl_within.calls a0 5 7 t136 _ A2.out).mono ?_); rintro e w' ⟨rfl, ⟨nd, rfl⟩⟩; refine ⟨_, rfl, ?_⟩))
 go_ret
 exact ⟨by first | rfl | (simp; done) | (simp [*]; done), by repeat (first | exact Drawn0.refl _ | apply Drawn0.step)⟩
def slices_Sort_int_int.f (l0 : List Int) : Option (List Int) := if l0.length < 4611686018427387904 then some (l0.mergeSort fun x y => decide (x ≤ y)) else none
theorem slices_Sort_int_int.calls (P0_ : Nat → Prop) (u9000_ : Value) (l0 : List Int) (r : List Int) (w0 w : Xs) (hB : Below w0.heap.size w0 w) (ho0 : Kd.R (Xu .i64) 3 w w0.heap.size P0_ u9000_ l0) (h : slices_Sort_int_int.f l0 = some r) :
  Calls Xh 67 #[u9000_] w fun e w' => e = .returned (.tuple #[]) ∧ Kd.R (Xu .i64) 3 w' w0.heap.size (fun k_ => (P0_ k_ ∨ w.heap.size ≤ k_)) u9000_ r ∧ Below w0.heap.size w0 w' ∧ Kept w w' (fun k_ => P0_ k_) := by
 unfold slices_Sort_int_int.f at h
 split at h
 case isFalse => cases h
 case isTrue hl =>
 obtain rfl := Qs h
 rcases irow_open ho0 with ⟨rfl, rfl⟩ | ⟨g, cap, cur, rfl, a1, a2, a3, a4, a5, a6, a7⟩
 ·refine (Go.Proofs.YtoljagpjejpmpaaShelf.slices_Sort_int_none none 0 w).mono ?_
  rintro e w' ⟨rfl, rfl⟩
  exact ⟨rfl, by simpa using Kd.R_nil _ _ _ _ _, hB, Kept.refl _ _⟩
 ·refine (Go.Proofs.YtoljagpjejpmpaaShelf.slices_Sort_int g 0 cap l0 w (irow_holds a2 a6) (Array.getElem?_eq_some_iff.1 a2).1 hl).mono ?_
  rintro e w' ⟨rfl, n, os, rfl⟩
  have hlen : (l0.mergeSort fun x y => decide (x ≤ y)).length = l0.length := by simp
  have hd := irow_done (n := n) (os := os) (P := P0_) (ts := l0.mergeSort fun x y => decide (x ≤ y)) hB a1 a2 (by omega) a4 a5 a7 (List.prefix_refl _)
  rw [hlen] at hd
  exact ⟨rfl, hd⟩
def slices_Compact_int_int.f (l0 : List Int) : Option (List Int) := if l0.length ≤ 9223372036854775807 then some (Go.Lib.compact l0) else none
theorem slices_Compact_int_int.calls (P0_ : Nat → Prop) (u9000_ : Value) (l0 : List Int) (r : List Int) (w0 w : Xs) (hB : Below w0.heap.size w0 w) (ho0 : Kd.R (Xu .i64) 3 w w0.heap.size P0_ u9000_ l0) (h : slices_Compact_int_int.f l0 = some r) :
  Calls Xh 68 #[u9000_] w fun e w' => ∃ v0_ : Value, e = .returned (v0_) ∧ Kd.R (Xu .i64) 3 w' w0.heap.size (fun k_ => (P0_ k_ ∨ w.heap.size ≤ k_)) v0_ r ∧ Below w0.heap.size w0 w' ∧ Kept w w' (fun k_ => P0_ k_) := by
 unfold slices_Compact_int_int.f at h
 split at h
 case isFalse => cases h
 case isTrue hl =>
 obtain rfl := Qs h
 rcases irow_open ho0 with ⟨rfl, rfl⟩ | ⟨g, cap, cur, rfl, a1, a2, a3, a4, a5, a6, a7⟩
 ·refine (Go.Proofs.YtoljagpjejpmpaaShelf.slices_Compact_int_empty none 0 w).mono ?_
  rintro e w' ⟨rfl, rfl⟩
  exact ⟨_, rfl, Kd.R_nil _ _ _ _ _, hB, Kept.refl _ _⟩
 ·refine (Go.Proofs.YtoljagpjejpmpaaShelf.slices_Compact_int g 0 cap l0 w (irow_holds a2 a6) hl a3).mono ?_
  rintro e w' ⟨rfl, n, rfl⟩
  have hc : (Go.Lib.compact l0).length ≤ l0.length := compact_le l0
  have hd := irow_done' (n := n) (P := P0_) (ts := Go.Lib.compact l0 ++ List.replicate (l0.length - (Go.Lib.compact l0).length) 0) (r := Go.Lib.compact l0) hB a1 a2 (by simp only [List.length_append, List.length_replicate]; omega) a4 a5 a7 (List.prefix_append _ _)
  exact ⟨_, rfl, hd⟩
def slices_DeleteFunc_int_int_FreeLogic_1.fin (l0 : List Int) (u : Int) : List Int := l0.filter fun x => !(x == u)
theorem slices_DeleteFunc_int_int_FreeLogic_1.pred (W : Xs) (g1_0 : Nat) (a1_0 a1_1 a1_2 a1_3 : Int) (v : Value) (hq1_0 : W.cell? ⟨g1_0, 0, none⟩ = some (.int .i64 a1_0)) (hq1_1 : W.cell? ⟨g1_0, 1, none⟩ = some (.int .i64 a1_1)) (hq1_2 : W.cell? ⟨g1_0, 2, none⟩ = some (.int .i64 a1_2)) (hq1_3 : W.cell? ⟨g1_0, 3, none⟩ = some (.int .i64 a1_3)) (hq1_4 : W.cell? ⟨g1_0, 4, none⟩ = some v) (x : Int) : FnGives Xh 62 #[.pointer (some ⟨g1_0, 0, none⟩)] #[.int .i64 x] (.bool (x == a1_2)) W := by
 show Calls Xh 62 #[.int .i64 x, .pointer (some ⟨g1_0, 0, none⟩)] W _
 go_enter Try.func62, Try.ntmps62
 go_wp2
 go_ret
 exact ⟨rfl, 0, rfl⟩
def slices_DeleteFunc_int_int_FreeLogic_1.f (l0 : List Int) (a1_0 : Int) (a1_1 : Int) (a1_2 : Int) (a1_3 : Int) (l1_4 : List (S32)) : Option (List Int) := some (slices_DeleteFunc_int_int_FreeLogic_1.fin l0 a1_2)
theorem slices_DeleteFunc_int_int_FreeLogic_1.calls (P0_ : Nat → Prop) (u9000_ : Value) (l0 : List Int) (g1_0 : Nat) (a1_0 : Int) (a1_1 : Int) (a1_2 : Int) (a1_3 : Int) (A1_4 : Option Addr) (c1_4 : Nat) (l1_4 : List (S32)) (r : List Int) (w0 w : Xs) (hB : Below w0.heap.size w0 w) (ho0 : Kd.R (Xu .i64) 3 w w0.heap.size P0_ u9000_ l0) (hr1_4 : ∀ W_, Kept w W_ (fun k_ => P0_ k_) → Kd.C k32 W_ A1_4 l1_4.length l1_4) (hc1_4 : l1_4.length ≤ c1_4) (hq1_0 : w.cell? ⟨g1_0, 0, none⟩ = some (.int .i64 a1_0)) (hq1_1 : w.cell? ⟨g1_0, 1, none⟩ = some (.int .i64 a1_1)) (hq1_2 : w.cell? ⟨g1_0, 2, none⟩ = some (.int .i64 a1_2)) (hq1_3 : w.cell? ⟨g1_0, 3, none⟩ = some (.int .i64 a1_3)) (hq1_4 : w.cell? ⟨g1_0, 4, none⟩ = some (.slice A1_4 l1_4.length c1_4)) (h : slices_DeleteFunc_int_int_FreeLogic_1.f l0 a1_0 a1_1 a1_2 a1_3 l1_4 = some r) (hbx : ∃ cs, w.heap[g1_0]? = some (.cells cs 32 (0, 0))) :
  Calls Xh 61 #[u9000_, .func (.func 62) #[] #[.pointer (some ⟨g1_0, 0, none⟩)]] w fun e w' => ∃ v0_ : Value, e = .returned (v0_) ∧ Kd.R (Xu .i64) 3 w' w0.heap.size (fun k_ => (P0_ k_ ∨ w.heap.size ≤ k_)) v0_ r ∧ Below w0.heap.size w0 w' ∧ Kept w w' (fun k_ => P0_ k_) := by
 have eg : ∀ args w, (callFunc 62 args).run Xh w = .ok (.enter 62 args) w := enters_of Try.func62 (by kernel_rfl) rfl
 have hf : slices_DeleteFunc_int_int_FreeLogic_1.fin l0 a1_2 = r := Qs h
 subst hf
 rcases irow_open ho0 with ⟨rfl, rfl⟩ | ⟨g, cap, cur, rfl, b1, b2, b3, b4, b5, b6, b7⟩
 ·have hi : ∀ w : Xs, Calls Xh 100 #[.slice none 0 0, .func (.func 62) #[] #[.pointer (some ⟨g1_0, 0, none⟩)]] w fun e w' => e = .returned (.int .i64 (-1)) ∧ w' = w := fun w => Go.Proofs.YtoljagpjejpmpaaShelf.slices_IndexFunc_empty (α := Int) none 0 _ w
  go_enter Try.func61, Try.ntmps61
  go_wp2_with (go_at_call 100; refine (hi _).mono ?_; rintro e w' ⟨rfl, rfl⟩)
  go_ret
  exact ⟨_, rfl, Kd.R_nil _ _ _ _ _, hB, Kept.refl _ _⟩
 ·have hH := irow_holds b2 b6
  have hne : g ≠ g1_0 := by
   rintro rfl
   obtain ⟨cs, hcs⟩ := hbx
   rw [b2] at hcs
   injection hcs with hcs
   injection hcs with _ hcs
   cases hcs
  have hg1 : g1_0 < w.heap.size := by
   obtain ⟨cs, hcs⟩ := hbx
   exact (Array.getElem?_eq_some_iff.1 hcs).1
  have hp : PredAt Xh 62 #[.pointer (some ⟨g1_0, 0, none⟩)] (Value.int .i64) (fun x => x == a1_2) w := fun W x hb =>
   slices_DeleteFunc_int_int_FreeLogic_1.pred W g1_0 a1_0 a1_1 a1_2 a1_3 _ ((hb.cell (p := ⟨g1_0, 0, none⟩) hg1).trans hq1_0) ((hb.cell (p := ⟨g1_0, 1, none⟩) hg1).trans hq1_1) ((hb.cell (p := ⟨g1_0, 2, none⟩) hg1).trans hq1_2) ((hb.cell (p := ⟨g1_0, 3, none⟩) hg1).trans hq1_3) ((hb.cell (p := ⟨g1_0, 4, none⟩) hg1).trans hq1_4) x
  have hfar : ∀ (n : Nat) (os : Array Obj) (dk : Array Int) (o : Nat), (sortWorld (Value.int .i64) w g 0 n dk os).cell? ⟨g1_0, o, none⟩ = w.cell? ⟨g1_0, o, none⟩ := fun n os dk o => by
   have hk := irow_kept (g := g) (n := n) (os := os) (w := w) (d := dk) (P := fun k => k = g) rfl
   have := hk.2 g1_0 hg1 (fun e => hne e.symm)
   unfold sortWorld
   simp only [World.cell?, this]
  have hpo : PredOver Xh 62 #[.pointer (some ⟨g1_0, 0, none⟩)] (Value.int .i64) (fun x => x == a1_2) g 0 l0.toArray.size w := fun n os dk x _ =>
   slices_DeleteFunc_int_int_FreeLogic_1.pred _ g1_0 a1_0 a1_1 a1_2 a1_3 _ ((hfar n os dk 0).trans hq1_0) ((hfar n os dk 1).trans hq1_1) ((hfar n os dk 2).trans hq1_2) ((hfar n os dk 3).trans hq1_3) ((hfar n os dk 4).trans hq1_4) x
  have hm : maxLen = 9223372036854775807 := rfl
  have hlt : g < w.heap.size := (Array.getElem?_eq_some_iff.1 b2).1
  refine (Go.Proofs.YtoljagpjejpmpaaShelf.slices_DeleteFunc (Value.int .i64) (fun _ => rfl) (fun x => (x == a1_2)) 62 #[.pointer (some ⟨g1_0, 0, none⟩)] eg 0 Try.zeroValue3 g 0 cap l0.toArray w hp hpo hH (by simp; omega) (by simpa using b3)).mono ?_
  rintro e w' ⟨rfl, n, rfl⟩
  have hc : (l0.filter fun x => !(x == a1_2)).length ≤ l0.length := List.length_filter_le _ _
  have hd := irow_done' (n := n) (P := P0_) (ts := (l0.filter fun x => !(x == a1_2)) ++ List.replicate (l0.length - (l0.filter fun x => !(x == a1_2)).length) 0) (r := l0.filter fun x => !(x == a1_2)) hB b1 b2 (by simp only [List.length_append, List.length_replicate]; omega) b4 b5 b7 (List.prefix_append _ _)
  refine ⟨_, rfl, ?_⟩
  exact hd
def slices_DeleteFunc_int_int_FreeLogic_2.fin (l0 : List Int) : List Int := l0.filter fun x => !(!(decide (0 ≤ x) && decide (x ≤ 3)))
def slices_DeleteFunc_int_int_FreeLogic_2.f (l0 : List Int) : Option (List Int) := some (slices_DeleteFunc_int_int_FreeLogic_2.fin l0)
theorem slices_DeleteFunc_int_int_FreeLogic_2.pred (W : Xs) (x : Int) : FnGives Xh 65 #[] #[.int .i64 x] (.bool (!(decide (0 ≤ x) && decide (x ≤ 3)))) W := by
 show Calls Xh 65 #[.int .i64 x] W _
 by_cases c : 0 ≤ x
 ·have c1 : decide (0 ≤ x) = true := decide_eq_true c
  go_enter Try.func65, Try.ntmps65
  go_wp2
  go_ret
  exact ⟨by simp [c], 0, rfl⟩
 ·have c1 : decide (0 ≤ x) = false := decide_eq_false c
  go_enter Try.func65, Try.ntmps65
  go_wp2
  go_ret
  exact ⟨by simp [c], 0, rfl⟩
theorem slices_DeleteFunc_int_int_FreeLogic_2.calls (P0_ : Nat → Prop) (u9000_ : Value) (l0 : List Int)  (r : List Int) (w0 w : Xs) (hB : Below w0.heap.size w0 w) (ho0 : Kd.R (Xu .i64) 3 w w0.heap.size P0_ u9000_ l0) (h : slices_DeleteFunc_int_int_FreeLogic_2.f l0 = some r) :
  Calls Xh 61 #[u9000_, .func (.func 65) #[] #[]] w fun e w' => ∃ v0_ : Value, e = .returned (v0_) ∧ Kd.R (Xu .i64) 3 w' w0.heap.size (fun k_ => (P0_ k_ ∨ w.heap.size ≤ k_)) v0_ r ∧ Below w0.heap.size w0 w' ∧ Kept w w' (fun k_ => P0_ k_) := by
 have eg : ∀ args w, (callFunc 65 args).run Xh w = .ok (.enter 65 args) w := enters_of Try.func65 (by kernel_rfl) rfl
 have hf : slices_DeleteFunc_int_int_FreeLogic_2.fin l0 = r := Qs h
 subst hf
 rcases irow_open ho0 with ⟨rfl, rfl⟩ | ⟨g, cap, cur, rfl, b1, b2, b3, b4, b5, b6, b7⟩
 ·have hi : ∀ w : Xs, Calls Xh 100 #[.slice none 0 0, .func (.func 65) #[] #[]] w fun e w' => e = .returned (.int .i64 (-1)) ∧ w' = w := fun w => Go.Proofs.YtoljagpjejpmpaaShelf.slices_IndexFunc_empty (α := Int) none 0 _ w
  go_enter Try.func61, Try.ntmps61
  go_wp2_with (go_at_call 100; refine (hi _).mono ?_; rintro e w' ⟨rfl, rfl⟩)
  go_ret
  exact ⟨_, rfl, Kd.R_nil _ _ _ _ _, hB, Kept.refl _ _⟩
 ·have hH := irow_holds b2 b6
  have hp : PredAt Xh 65 #[] (Value.int .i64) (fun x => !(decide (0 ≤ x) && decide (x ≤ 3))) w := fun W x _ => slices_DeleteFunc_int_int_FreeLogic_2.pred W x
  have hpo : PredOver Xh 65 #[] (Value.int .i64) (fun x => !(decide (0 ≤ x) && decide (x ≤ 3))) g 0 l0.toArray.size w := fun _ _ _ x _ => slices_DeleteFunc_int_int_FreeLogic_2.pred _ x
  have hm : maxLen = 9223372036854775807 := rfl
  have hlt : g < w.heap.size := (Array.getElem?_eq_some_iff.1 b2).1
  refine (Go.Proofs.YtoljagpjejpmpaaShelf.slices_DeleteFunc (Value.int .i64) (fun _ => rfl) (fun x => (!(decide (0 ≤ x) && decide (x ≤ 3)))) 65 #[] eg 0 Try.zeroValue3 g 0 cap l0.toArray w hp hpo hH (by simp; omega) (by simpa using b3)).mono ?_
  rintro e w' ⟨rfl, n, rfl⟩
  have hc : (l0.filter fun x => !(!(decide (0 ≤ x) && decide (x ≤ 3)))).length ≤ l0.length := List.length_filter_le _ _
  have hd := irow_done' (n := n) (P := P0_) (ts := (l0.filter fun x => !(!(decide (0 ≤ x) && decide (x ≤ 3)))) ++ List.replicate (l0.length - (l0.filter fun x => !(!(decide (0 ≤ x) && decide (x ≤ 3)))).length) 0) (r := l0.filter fun x => !(!(decide (0 ≤ x) && decide (x ≤ 3)))) hB b1 b2 (by simp only [List.length_append, List.length_replicate]; omega) b4 b5 b7 (List.prefix_append _ _)
  refine ⟨_, rfl, ?_⟩
  exact hd
mutual
def impl_FreeLogic.l0 : Nat → List Int → List (S32) → Int → Int → Int → Int → Int → Int → List (S32) → Option (List Int)
 | 0, _, _, _, _, _, _, _, _, _ => none
 | k + 1, x3, x8, x9, x10, x138000, x138001, x138002, x138003, x138004 => if x10 < x9 then (if 0 ≤ x10 then (if x10 < (x8.length : Int) then ((impl_FreeLogic.f k ((rd_T32 x8 x10).f0) ((rd_T32 x8 x10).f1) ((rd_T32 x8 x10).f2) ((rd_T32 x8 x10).f3) ((rd_T32 x8 x10).f4)).bind fun t143 => (if x3.length + t143.length < 17592186044416 then (impl_FreeLogic.l0 k (x3 ++ t143) x8 x9 (Qq (x10 + 1)) x138000 x138001 x138002 x138003 x138004) else (none))) else (none)) else (none)) else ((impl_isBinder.f x138000).bind fun t149 => (if t149 = true then ((slices_DeleteFunc_int_int_FreeLogic_1.f x3 x138000 x138001 x138002 x138003 x138004).bind fun t150 => (impl_FreeLogic.j1 k t150 x138000 x138001 x138002 x138003 x138004)) else ((impl_usesU.f x138000).bind fun t153 => (if t153 = true then (if x3.length < 17592186044416 then (impl_FreeLogic.j1 k (x3 ++ [x138002]) x138000 x138001 x138002 x138003 x138004) else (none)) else (impl_FreeLogic.j1 k x3 x138000 x138001 x138002 x138003 x138004)))))
def impl_FreeLogic.j1 : Nat → List Int → Int → Int → Int → Int → List (S32) → Option (List Int)
 | 0, _, _, _, _, _, _ => none
 | k + 1, x3, x138000, x138001, x138002, x138003, x138004 => (impl_usesV.f x138000).bind fun t157 => (if t157 = true then (if x3.length < 17592186044416 then ((slices_DeleteFunc_int_int_FreeLogic_2.f (x3 ++ [x138003])).bind fun t161 => ((slices_Sort_int_int.f t161).bind fun t164 => ((slices_Compact_int_int.f t164).bind fun t165 => (some t165)))) else (none)) else ((slices_DeleteFunc_int_int_FreeLogic_2.f x3).bind fun t168 => ((slices_Sort_int_int.f t168).bind fun t171 => ((slices_Compact_int_int.f t171).bind fun t172 => (some t172)))))
def impl_FreeLogic.f : Nat → Int → Int → Int → Int → List (S32) → Option (List Int)
 | 0, _, _, _, _, _ => none
 | k + 1, a0_0, a0_1, a0_2, a0_3, l0_4 => impl_FreeLogic.l0 k (([] : List Int)) l0_4 (l0_4.length : Int) 0 a0_0 a0_1 a0_2 a0_3 l0_4
end
theorem impl_FreeLogic.mono_l : ∀ k, (∀ y0 y1 y2 y3 y4, LeO (impl_FreeLogic.f k y0 y1 y2 y3 y4) (impl_FreeLogic.f (k + 1) y0 y1 y2 y3 y4)) ∧ (∀ y0 y1 y2 y3 y4 y5 y6 y7 y8, LeO (impl_FreeLogic.l0 k y0 y1 y2 y3 y4 y5 y6 y7 y8) (impl_FreeLogic.l0 (k + 1) y0 y1 y2 y3 y4 y5 y6 y7 y8)) ∧ (∀ y0 y1 y2 y3 y4 y5, LeO (impl_FreeLogic.j1 k y0 y1 y2 y3 y4 y5) (impl_FreeLogic.j1 (k + 1) y0 y1 y2 y3 y4 y5))
 | 0 => ⟨fun _ _ _ _ _ r h => by simp [impl_FreeLogic.f] at h, fun _ _ _ _ _ _ _ _ _ r h => by simp [impl_FreeLogic.l0] at h, fun _ _ _ _ _ _ r h => by simp [impl_FreeLogic.j1] at h⟩
 | k + 1 => by
  obtain ⟨ih0, ih1, ih2⟩ := impl_FreeLogic.mono_l k
  refine ⟨?_, ?_, ?_⟩
  ·intro y0 y1 y2 y3 y4
   unfold impl_FreeLogic.f
   repeat' first
   | (with_reducible exact ih0 _ _ _ _ _)
   | (with_reducible exact ih1 _ _ _ _ _ _ _ _ _)
   | (with_reducible exact ih2 _ _ _ _ _ _)
   | (with_reducible exact LeO.refl _)
   | (with_reducible exact LeO.none _)
   | (with_reducible refine LeO.ite ?_ ?_)
   | (with_reducible refine LeO.bind ?_ (fun _ => ?_))
   | exact ih0 _ _ _ _ _
   | exact ih1 _ _ _ _ _ _ _ _ _
   | exact ih2 _ _ _ _ _ _
   | exact LeO.none _
   | refine LeO.ite ?_ ?_
   | refine LeO.bind ?_ (fun _ => ?_)
  ·intro y0 y1 y2 y3 y4 y5 y6 y7 y8
   unfold impl_FreeLogic.l0
   repeat' first
   | (with_reducible exact ih0 _ _ _ _ _)
   | (with_reducible exact ih1 _ _ _ _ _ _ _ _ _)
   | (with_reducible exact ih2 _ _ _ _ _ _)
   | (with_reducible exact LeO.refl _)
   | (with_reducible exact LeO.none _)
   | (with_reducible refine LeO.ite ?_ ?_)
   | (with_reducible refine LeO.bind ?_ (fun _ => ?_))
   | exact ih0 _ _ _ _ _
   | exact ih1 _ _ _ _ _ _ _ _ _
   | exact ih2 _ _ _ _ _ _
   | exact LeO.none _
   | refine LeO.ite ?_ ?_
   | refine LeO.bind ?_ (fun _ => ?_)
  ·intro y0 y1 y2 y3 y4 y5
   unfold impl_FreeLogic.j1
   repeat' first
   | (with_reducible exact ih0 _ _ _ _ _)
   | (with_reducible exact ih1 _ _ _ _ _ _ _ _ _)
   | (with_reducible exact ih2 _ _ _ _ _ _)
   | (with_reducible exact LeO.refl _)
   | (with_reducible exact LeO.none _)
   | (with_reducible refine LeO.ite ?_ ?_)
   | (with_reducible refine LeO.bind ?_ (fun _ => ?_))
   | exact ih0 _ _ _ _ _
   | exact ih1 _ _ _ _ _ _ _ _ _
   | exact ih2 _ _ _ _ _ _
   | exact LeO.none _
   | refine LeO.ite ?_ ?_
   | refine LeO.bind ?_ (fun _ => ?_)
theorem impl_FreeLogic.mono : ∀ a0 a1 a2 a3 a4 k, LeO (impl_FreeLogic.f k a0 a1 a2 a3 a4) (impl_FreeLogic.f (k + 1) a0 a1 a2 a3 a4) := by
 intro a0 a1 a2 a3 a4 k
 obtain ⟨ih0, ih1, ih2⟩ := impl_FreeLogic.mono_l k
 exact ih0 a0 a1 a2 a3 a4
set_option maxHeartbeats 8000000 in
set_option maxRecDepth 100000 in
theorem impl_FreeLogic.calls (k : Nat) : ∀ (a0_0 : Int) (a0_1 : Int) (a0_2 : Int) (a0_3 : Int) (A0_4 : Option Addr) (c0_4 : Nat) (l0_4 : List (S32)) (r : List Int) (w : Xs) (hr0_4 : Kd.C k32 w A0_4 l0_4.length l0_4) (hc0_4 : l0_4.length ≤ c0_4) (h : impl_FreeLogic.f k a0_0 a0_1 a0_2 a0_3 l0_4 = some r),
  Calls Xh 26 #[.agg #[.int .i64 a0_0, .int .i64 a0_1, .int .i64 a0_2, .int .i64 a0_3, .slice A0_4 l0_4.length c0_4]] w fun e w' => ∃ v0_ : Value, e = .returned (v0_) ∧ Kd.R (Xu .i64) 3 w' w.heap.size (fun _ => True) v0_ r ∧ Below w.heap.size w w' := by
 induction k using Nat.strongRecOn with
 | _ k ih =>
 intro a0_0 a0_1 a0_2 a0_3 A0_4 c0_4 l0_4 r w hr0_4 hc0_4 h
 cases k with
 | zero => exact absurd h (by simp [impl_FreeLogic.f])
 | succ k =>
 simp only [impl_FreeLogic.f] at h
 have hu32 := Try.underlying32
 have HR0_4 := Qa hr0_4
 have HC0_4 := Qa hc0_4
 clear hr0_4 hc0_4
 have HB := Qa (Xv w.heap.size w)
 have H : (impl_FreeLogic.l0 k (([] : List Int)) l0_4 (l0_4.length : Int) 0 a0_0 a0_1 a0_2 a0_3 l0_4) = some r := h
 clear h
 obtain ⟨y138, hy138⟩ : ∃ y_ : List Int, y_ = (([] : List Int)) := ⟨_, rfl⟩
 replace H : (impl_FreeLogic.l0 k y138 l0_4 (l0_4.length : Int) 0 a0_0 a0_1 a0_2 a0_3 l0_4) = some r := by first | (rw [hy138]; with_reducible exact H) | (have H2_ := (Zz _ _).symm.trans H; rw [hy138]; with_reducible exact H2_) | (have H2_ := (Zz _ _).symm.trans H; with_reducible exact H2_) | with_reducible exact H | (rw [hy138]; exact H) | exact H
 have Ny138 := Qa hy138
 clear hy138
 have H' := Qa H
 clear H
 go_enter Try.func26, Try.ntmps26
 go_wp2_with (first | ((with_reducible refine gate_dst (N := 1) rfl ?_); refine box_event ?hg (N := 1) ?hd (cs := #[.int .i64 a0_0, .int .i64 a0_1, .int .i64 a0_2, .int .i64 a0_3, .slice A0_4 l0_4.length c0_4]) (t := 32) ?hr ?_; (case hd => rfl); (case hg => rfl); (case hr => first | (go_simp; done) | (go_simp; rfl)); intro gb137 hg w2 hbox hb; have BK137 := Qa (hbox); have GW137 := Qa ((by rw [hg]; exact (Qv (Bb0 HB.out)) : w.heap.size ≤ gb137)); have GE137 := Qa ((by rw [hg]; exact (Qv (Bb0 HB.out)) : w.heap.size ≤ gb137)); replace HB := Qa (below_step (Bb0 HB.out) hb); clear hb hbox hg) | ((with_reducible refine gate_dst (N := 6) rfl ?_); refine Kd.R_lit (Xu .i64) _ 3 ?hg (N := 6) ?hd (xs := ([] : List Int)) (inner := []) (ok := fun _ => True) (okp := fun _ => True) ?hr ?hp (fun _ hk => hk) trivial (Xv _ _) (Zv _) (by simp) ?_; (case hd => rfl); (case hg => rfl); (case hr => first | (go_simp; done) | (go_simp; rfl)); (case hp => exact (Reps.none _ _)); intro v139 w3 ho4 hb hg_ hnew_; clear hg_ hnew_; (first | rw [← Ny138.out] at ho4 | (simp only [Int.reduceToNat] at ho4; rw [← Ny138.out] at ho4)); have HO140 := Qa (Kd.R_lower ho4 (Qv (Bb1 HB.out GE137.out))); replace BK137 := Qa (blk_below (g := gb137) (o := .cells #[.int .i64 a0_0, .int .i64 a0_1, .int .i64 a0_2, .int .i64 a0_3, .slice A0_4 l0_4.length c0_4] 32 (0, 0)) (Ba BK137.out) hb); replace HB := Qa (below_step (Bb1 HB.out GE137.out) hb); clear hb ho4; have q5_0 : w3.cell? ⟨gb137, 0, none⟩ = some (.int .i64 a0_0) := (Qb BK137.out 0).trans rfl; have q5_1 : w3.cell? ⟨gb137, 1, none⟩ = some (.int .i64 a0_1) := (Qb BK137.out 1).trans rfl; have q5_2 : w3.cell? ⟨gb137, 2, none⟩ = some (.int .i64 a0_2) := (Qb BK137.out 2).trans rfl; have q5_3 : w3.cell? ⟨gb137, 3, none⟩ = some (.int .i64 a0_3) := (Qb BK137.out 3).trans rfl; have q5_4 : w3.cell? ⟨gb137, 4, none⟩ = some (.slice A0_4 l0_4.length c0_4) := (Qb BK137.out 4).trans rfl; have u5_0 := Qc BK137.out 0; have u5_1 := Qc BK137.out 1; have u5_2 := Qc BK137.out 2; have u5_3 := Qc BK137.out 3; have u5_4 := Qc BK137.out 4))
 go_loopg [3, 10] k (fun kq v3 v10 w' => ∃ (x3_1 : List Int) (x10_1 : Int), v10 = .int .i64 x10_1 ∧ Aside0 (impl_FreeLogic.l0 kq x3_1 l0_4 (l0_4.length : Int) x10_1 a0_0 a0_1 a0_2 a0_3 l0_4 = some r) ∧ Aside0 (kq ≤ k) ∧ Aside0 (Kd.R (Xu .i64) 3 w' w.heap.size (fun _ => True) v3 x3_1) ∧ Aside0 (w'.heap[gb137]? = some (.cells #[.int .i64 a0_0, .int .i64 a0_1, .int .i64 a0_2, .int .i64 a0_3, (.slice A0_4 l0_4.length c0_4)] 32 (0, 0))) ∧ Aside0 (Below w.heap.size w w'))
 case atStart => exact ⟨(y138), (0), (by first | rfl | (simp; done) | (simp [*]; done) | (simp; rw [Qx]; simp; done)), H', ⟨Nat.le_refl _⟩, ⟨by (with_reducible repeat (first | apply Xl | apply Xm | apply Xp)); exact HO140.out⟩, ⟨Ba BK137.out⟩, ⟨Bb1 HB.out GE137.out⟩⟩
 case round =>
  clear H'
  try clear c2
  try clear p2
  try clear q5_0
  try clear q5_1
  try clear q5_2
  try clear q5_3
  try clear q5_4
  try clear u5_0
  try clear u5_1
  try clear u5_2
  try clear u5_3
  try clear u5_4
  obtain ⟨x3_1, x10_1, rfl, HA, HK1, HO_3, BK137, HB⟩ := hrel
  cases gk with
  | zero => exact absurd HA.out (by simp [impl_FreeLogic.l0])
  | succ k1 =>
   have H := HA.out
   clear HA
   simp only [impl_FreeLogic.l0] at H
   by_cases c6 : x10_1 < (l0_4.length : Int)
   ·rw [if_pos c6] at H
    have c6b0 : decide (x10_1 < (l0_4.length : Int)) = true := decide_eq_true c6
    clear c6
    by_cases c7 : 0 ≤ x10_1
    ·rw [if_pos c7] at H
     have c7b0 : decide (0 ≤ x10_1) = true := decide_eq_true c7
     clear c7
     by_cases c8 : x10_1 < (l0_4.length : Int)
     ·rw [if_pos c8] at H
      have c8b0 : decide (x10_1 < (l0_4.length : Int)) = true := decide_eq_true c8
      clear c8
      replace H := Qi.mp H
      obtain ⟨t143, A90, H⟩ := H
      replace H : (if x3_1.length + t143.length < 17592186044416 then (impl_FreeLogic.l0 k1 (x3_1 ++ t143) l0_4 (l0_4.length : Int) (Qq (x10_1 + 1)) a0_0 a0_1 a0_2 a0_3 l0_4) else (none)) = some r := H
      have A9 := Qa A90
      clear A90
      by_cases c10 : x3_1.length + t143.length < 17592186044416
      ·rw [if_pos c10] at H
       have LMc10 := Qa c10
       clear c10
       obtain ⟨y146, hy146⟩ : ∃ y_ : List Int, y_ = (x3_1 ++ t143) := ⟨_, rfl⟩
       replace H : (impl_FreeLogic.l0 k1 y146 l0_4 (l0_4.length : Int) (Qq (x10_1 + 1)) a0_0 a0_1 a0_2 a0_3 l0_4) = some r := by first | (rw [hy146]; with_reducible exact H) | (have H2_ := (Zz _ _).symm.trans H; rw [hy146]; with_reducible exact H2_) | (have H2_ := (Zz _ _).symm.trans H; with_reducible exact H2_) | with_reducible exact H | (rw [hy146]; exact H) | exact H
       have Ny146 := Qa hy146
       clear hy146
       have H' := Qa H
       clear H
       have p141 : 0 ≤ (x10_1 : Int) := of_decide_eq_true (by first | (with_reducible assumption) | assumption)
       have q141 : x10_1 < (l0_4.length : Int) := of_decide_eq_true (by first | (with_reducible assumption) | assumption)
       obtain ⟨ad141, A141_4, c141_4, e141, hx141_0, hx141_1, hx141_2, hx141_3, hx141_4, hl141_4, hi141_4⟩ := at_T32 HR0_4.out x10_1 p141 q141
       cases e141
       replace hx141_0 := (HB.out.cell (Qd w _ hx141_0)).trans hx141_0
       replace hx141_1 := (HB.out.cell (Qd w _ hx141_1)).trans hx141_1
       replace hx141_2 := (HB.out.cell (Qd w _ hx141_2)).trans hx141_2
       replace hx141_3 := (HB.out.cell (Qd w _ hx141_3)).trans hx141_3
       replace hx141_4 := (HB.out.cell (Qd w _ hx141_4)).trans hx141_4
       have HR141_4 := Qa hi141_4
       have HC141_4 := Qa hl141_4
       clear hi141_4 hl141_4
       replace p141 := eq_true p141
       replace q141 := eq_true q141
       go_wp2_with (first | ((with_reducible refine gate_dst (N := 5) rfl ?_); refine box_event ?hg (N := 5) ?hd (cs := #[.int .i64 0, .int .i64 0, .int .i64 0, .int .i64 0, .slice none 0 0]) (t := 32) ?hr ?_; (case hd => rfl); (case hg => rfl); (case hr => first | (go_simp; done) | (go_simp; rfl)); intro gb142 hg w11 hbox hb; replace HO_3 := Qa (Kd.R_below (Br HO_3.out) hb); have BK142 := Qa (hbox); have GW142 := Qa ((by rw [hg]; exact (Qv (Bb1 HB.out GE137.out)) : w.heap.size ≤ gb142)); have GE142 := Qa ((by rw [hg]; exact (Qv (Bb1 HB.out GE137.out)) : w.heap.size ≤ gb142)); replace HB := Qa (below_step (Bb1 HB.out GE137.out) hb); have NB137_142 := Qa ((by rw [hg]; exact Nat.ne_of_lt (blk_lt (g := gb137) (o := .cells #[.int .i64 a0_0, .int .i64 a0_1, .int .i64 a0_2, .int .i64 a0_3, .slice (some ad141) l0_4.length c0_4] 32 (0, 0)) (Ba BK137.out)) : gb137 ≠ gb142)); have NB142_137 := Qa ((by rw [hg]; exact Nat.ne_of_gt (blk_lt (g := gb137) (o := .cells #[.int .i64 a0_0, .int .i64 a0_1, .int .i64 a0_2, .int .i64 a0_3, .slice (some ad141) l0_4.length c0_4] 32 (0, 0)) (Ba BK137.out)) : gb142 ≠ gb137)); replace BK137 := Qa (blk_below (g := gb137) (o := .cells #[.int .i64 a0_0, .int .i64 a0_1, .int .i64 a0_2, .int .i64 a0_3, .slice (some ad141) l0_4.length c0_4] 32 (0, 0)) (Ba BK137.out) hb); clear hb hbox hg; have hnb12 := NB142_137.out; have hnc12 := NB137_142.out; have q13_0 : w11.cell? ⟨gb142, 0, none⟩ = some (.int .i64 0) := (Qb BK142.out 0).trans rfl; have q13_1 : w11.cell? ⟨gb142, 1, none⟩ = some (.int .i64 0) := (Qb BK142.out 1).trans rfl; have q13_2 : w11.cell? ⟨gb142, 2, none⟩ = some (.int .i64 0) := (Qb BK142.out 2).trans rfl; have q13_3 : w11.cell? ⟨gb142, 3, none⟩ = some (.int .i64 0) := (Qb BK142.out 3).trans rfl; have q13_4 : w11.cell? ⟨gb142, 4, none⟩ = some (.slice none 0 0) := (Qb BK142.out 4).trans rfl; have u13_0 := Qc BK142.out 0; have u13_1 := Qc BK142.out 1; have u13_2 := Qc BK142.out 2; have u13_3 := Qc BK142.out 3; have u13_4 := Qc BK142.out 4) | ((with_reducible refine Zf (f := 26) rfl ?_); refine Xq (some 16) rfl rfl Try.func26 (by kernel_rfl) rfl #[.agg #[.int .i64 ((rd_T32 l0_4 x10_1).f0), .int .i64 ((rd_T32 l0_4 x10_1).f1), .int .i64 ((rd_T32 l0_4 x10_1).f2), .int .i64 ((rd_T32 l0_4 x10_1).f3), .slice A141_4 ((rd_T32 l0_4 x10_1).f4).length c141_4]] rfl (by (try simp only [Qm, Qt, Zb]); first | done | rfl | (simp only [Qn, Qo]; rfl)) ?_; (with_reducible refine (ih k1 (by have := HK1.out; omega) ((rd_T32 l0_4 x10_1).f0) ((rd_T32 l0_4 x10_1).f1) ((rd_T32 l0_4 x10_1).f2) ((rd_T32 l0_4 x10_1).f3) _ _ ((rd_T32 l0_4 x10_1).f4) t143 _ ?side1 ?side2 A9.out).mono ?_); (case side1 => exact Kd.C_below HR141_4.out (Bb2 HB.out GE137.out GE142.out)); (case side2 => exact HC141_4.out); rintro e w14 ⟨v144, rfl, ho0, hb⟩; refine ⟨_, rfl, ?_⟩; have HO145 := Qa (Kd.R_lower (Kd.R_new' ho0 (Kd.R_lt (by (with_reducible repeat (first | apply Xl | apply Xm | apply Xp)); exact (Zq (Kd.R_far (p := ⟨gb142, 4, none⟩) (Kd.R_far (p := ⟨gb142, 3, none⟩) (Kd.R_far (p := ⟨gb142, 2, none⟩) (Kd.R_far (p := ⟨gb142, 1, none⟩) (Kd.R_far (p := ⟨gb142, 0, none⟩) (Kd.R_types HO_3.out BK142.out (by decide)) (fun _ hk => hk.2) (.int .i64 ((rd_T32 l0_4 x10_1).f0))) (fun _ hk => hk.2) (.int .i64 ((rd_T32 l0_4 x10_1).f1))) (fun _ hk => hk.2) (.int .i64 ((rd_T32 l0_4 x10_1).f2))) (fun _ hk => hk.2) (.int .i64 ((rd_T32 l0_4 x10_1).f3))) (fun _ hk => hk.2) (.slice A141_4 ((rd_T32 l0_4 x10_1).f4).length c141_4)) (fun _ h_ => h_.1))))) (Qv (Bb2 HB.out GE137.out GE142.out))); replace HO_3 := Qa (Kd.R_elder' (by (with_reducible repeat (first | apply Xl | apply Xm | apply Xp)); exact (Zq (Kd.R_far (p := ⟨gb142, 4, none⟩) (Kd.R_far (p := ⟨gb142, 3, none⟩) (Kd.R_far (p := ⟨gb142, 2, none⟩) (Kd.R_far (p := ⟨gb142, 1, none⟩) (Kd.R_far (p := ⟨gb142, 0, none⟩) (Kd.R_types HO_3.out BK142.out (by decide)) (fun _ hk => hk.2) (.int .i64 ((rd_T32 l0_4 x10_1).f0))) (fun _ hk => hk.2) (.int .i64 ((rd_T32 l0_4 x10_1).f1))) (fun _ hk => hk.2) (.int .i64 ((rd_T32 l0_4 x10_1).f2))) (fun _ hk => hk.2) (.int .i64 ((rd_T32 l0_4 x10_1).f3))) (fun _ hk => hk.2) (.slice A141_4 ((rd_T32 l0_4 x10_1).f4).length c141_4)) (fun _ h_ => h_.1))) (Kd.R_base ho0) hb); replace BK137 := Qa (blk_below (g := gb137) (o := .cells #[.int .i64 a0_0, .int .i64 a0_1, .int .i64 a0_2, .int .i64 a0_3, .slice (some ad141) l0_4.length c0_4] 32 (0, 0)) (by (iterate 5 ((with_reducible repeat (first | refine Qg ?_ _ | refine blk_drew ?_ | refine Qf ?_ _)); refine blk_far ?_ NB137_142.out _)); (with_reducible repeat (first | refine Qg ?_ _ | refine blk_drew ?_ | refine Qf ?_ _)); exact BK137.out) hb); replace BK142 := Qa (blk_below (g := gb142) (o := .cells #[.int .i64 ((rd_T32 l0_4 x10_1).f0), .int .i64 ((rd_T32 l0_4 x10_1).f1), .int .i64 ((rd_T32 l0_4 x10_1).f2), .int .i64 ((rd_T32 l0_4 x10_1).f3), .slice A141_4 ((rd_T32 l0_4 x10_1).f4).length c141_4] 32 (0, 0)) (by (with_reducible repeat (first | refine Qg ?_ _ | refine blk_drew ?_ | refine Qf ?_ _)); refine blk_put (cs := #[.int .i64 ((rd_T32 l0_4 x10_1).f0), .int .i64 ((rd_T32 l0_4 x10_1).f1), .int .i64 ((rd_T32 l0_4 x10_1).f2), .int .i64 ((rd_T32 l0_4 x10_1).f3), .slice none 0 0]) ?_ 4 _ rfl; (with_reducible repeat (first | refine Qg ?_ _ | refine blk_drew ?_ | refine Qf ?_ _)); refine blk_put (cs := #[.int .i64 ((rd_T32 l0_4 x10_1).f0), .int .i64 ((rd_T32 l0_4 x10_1).f1), .int .i64 ((rd_T32 l0_4 x10_1).f2), .int .i64 0, .slice none 0 0]) ?_ 3 _ rfl; (with_reducible repeat (first | refine Qg ?_ _ | refine blk_drew ?_ | refine Qf ?_ _)); refine blk_put (cs := #[.int .i64 ((rd_T32 l0_4 x10_1).f0), .int .i64 ((rd_T32 l0_4 x10_1).f1), .int .i64 0, .int .i64 0, .slice none 0 0]) ?_ 2 _ rfl; (with_reducible repeat (first | refine Qg ?_ _ | refine blk_drew ?_ | refine Qf ?_ _)); refine blk_put (cs := #[.int .i64 ((rd_T32 l0_4 x10_1).f0), .int .i64 0, .int .i64 0, .int .i64 0, .slice none 0 0]) ?_ 1 _ rfl; (with_reducible repeat (first | refine Qg ?_ _ | refine blk_drew ?_ | refine Qf ?_ _)); refine blk_put (cs := #[.int .i64 0, .int .i64 0, .int .i64 0, .int .i64 0, .slice none 0 0]) ?_ 0 _ rfl; (with_reducible repeat (first | refine Qg ?_ _ | refine blk_drew ?_ | refine Qf ?_ _)); exact BK142.out) hb); replace HB := Qa (below_step (Bb2 HB.out GE137.out GE142.out) hb); (try clear hb); (try clear hb2); (try clear hk); (try clear hi); (try clear ho0); obtain ⟨Ao16, co16, eo16⟩ := Kd.R_slice HO145.out; subst eo16) | ((with_reducible refine gate_builtin (b := .append) (xs := #[.tmp 14, .tmp 16]) rfl ?_); at_builtin; refine Kd.R_append_rows (Xu .i64) (w0 := w) w.heap.size rfl (.tmp 14) (.tmp 16) 47 3 (.int .i64 0) 8 rfl Try.underlying47 info3 rfl (by decide) (by omega) u3 x3_1 t143 _ _ _ (fun k_ => some k_ ≠ (.slice Ao16 t143.length co16 : Value).ownBlock) (fun _ => False) rfl rfl ?aO ?aR (fun _ _ h => h) (fun _ h => h.elim) ?aF ?aB ?aS ?aL ?_; (case aR => repeat (first | exact (Kd.R_reads' HO145.out).2.2 | (with_reducible refine Kd.C_alloc ?_ _) | (with_reducible refine Kd.C_drewN ?_ _) | (with_reducible refine Kd.C_drew ?_))); (case aB => exact (Bb2 HB.out GE137.out GE142.out)); (case aF => exact (fun k_ hk => Kd.fresh' (Kd.R_lt (Br HO145.out)) k_ hk)); (case aO => exact (by (with_reducible repeat (first | apply Xl | apply Xm | apply Xp)); exact Zq HO_3.out (fun _ hk => hk.2))); (case aS => exact (Qv (Bb2 HB.out GE137.out GE142.out))); (case aL => have := LMc10.out; omega); intro v147 w15 ho hb hg hat; rw [← Ny146.out] at ho; replace BK137 := Qa (blk_grown (g := gb137) (o := .cells #[.int .i64 a0_0, .int .i64 a0_1, .int .i64 a0_2, .int .i64 a0_3, .slice (some ad141) l0_4.length c0_4] 32 (0, 0)) (Ba BK137.out) hg (Kd.R_ne HO_3.out BK137.out (by decide))); replace BK142 := Qa (blk_grown (g := gb142) (o := .cells #[.int .i64 ((rd_T32 l0_4 x10_1).f0), .int .i64 ((rd_T32 l0_4 x10_1).f1), .int .i64 ((rd_T32 l0_4 x10_1).f2), .int .i64 ((rd_T32 l0_4 x10_1).f3), .slice A141_4 ((rd_T32 l0_4 x10_1).f4).length c141_4] 32 (0, 0)) (Ba BK142.out) hg (Kd.R_ne HO_3.out BK142.out (by decide))); replace HO145 := Qa (Kd.R_after (ok := (fun _ => True)) (Br HO145.out) hg hat); replace HB := Qa (hb); have HO148 := Qa (ho); clear HO_3; clear ho hb hg hat))
       go_roundg k1
       case measure => have := HK1.out; omega
       case rel => exact ⟨(y146), (Qq (x10_1 + 1)), (by first | rfl | (simp; done) | (simp [*]; done) | (simp; rw [Qx]; simp; done)), H', ⟨by have := HK1.out; omega⟩, ⟨by (with_reducible repeat (first | apply Xl | apply Xm | apply Xp)); exact Zq HO148.out (fun _ hk => trivial)⟩, ⟨Ba BK137.out⟩, ⟨Bb2 HB.out GE137.out GE142.out⟩⟩
      ·rw [if_neg c10] at H
       exact absurd H (by simp)
     ·rw [if_neg c8] at H
      exact absurd H (by simp)
    ·rw [if_neg c7] at H
     exact absurd H (by simp)
   ·rw [if_neg c6] at H
    have c6b0 : decide (x10_1 < (l0_4.length : Int)) = false := decide_eq_false c6
    clear c6
    replace H := Qi.mp H
    obtain ⟨t149, A170, H⟩ := H
    replace H : (if t149 = true then ((slices_DeleteFunc_int_int_FreeLogic_1.f x3_1 a0_0 a0_1 a0_2 a0_3 l0_4).bind fun t150 => (impl_FreeLogic.j1 k1 t150 a0_0 a0_1 a0_2 a0_3 l0_4)) else ((impl_usesU.f a0_0).bind fun t153 => (if t153 = true then (if x3_1.length < 17592186044416 then (impl_FreeLogic.j1 k1 (x3_1 ++ [a0_2]) a0_0 a0_1 a0_2 a0_3 l0_4) else (none)) else (impl_FreeLogic.j1 k1 x3_1 a0_0 a0_1 a0_2 a0_3 l0_4)))) = some r := H
    have A17 := Qa A170
    clear A170
    have HC18 := Qa H
    clear H
    have q19_0 : wr.cell? ⟨gb137, 0, none⟩ = some (.int .i64 a0_0) := (Qb BK137.out 0).trans rfl
    have q19_1 : wr.cell? ⟨gb137, 1, none⟩ = some (.int .i64 a0_1) := (Qb BK137.out 1).trans rfl
    have q19_2 : wr.cell? ⟨gb137, 2, none⟩ = some (.int .i64 a0_2) := (Qb BK137.out 2).trans rfl
    have q19_3 : wr.cell? ⟨gb137, 3, none⟩ = some (.int .i64 a0_3) := (Qb BK137.out 3).trans rfl
    have q19_4 : wr.cell? ⟨gb137, 4, none⟩ = some (.slice A0_4 l0_4.length c0_4) := (Qb BK137.out 4).trans rfl
    have u19_0 := Qc BK137.out 0
    have u19_1 := Qc BK137.out 1
    have u19_2 := Qc BK137.out 2
    have u19_3 := Qc BK137.out 3
    have u19_4 := Qc BK137.out 4
    go_upto_if 21 with (first | ((with_reducible refine Zf (f := 60) rfl ?_); refine Xq (some 21) rfl rfl Try.func60 (by kernel_rfl) rfl #[.int .i64 a0_0] rfl (by (try simp only [Qm, Qt, Zb]); first | done | rfl | (simp only [Qn, Qo]; rfl)) ?_; (with_reducible refine (impl_isBinder.calls a0_0 t149 _ A17.out).mono ?_); rintro e w' ⟨rfl, ⟨nd, rfl⟩⟩; refine ⟨_, rfl, ?_⟩))
    (try simp only [Act.put, List.setIfInBounds_toArray, List.set_cons_zero, List.set_cons_succ])
    go_cut [3] (fun v3 wc => ∃ (kq : Nat) (x3_17 : List Int), Aside0 (impl_FreeLogic.j1 kq x3_17 a0_0 a0_1 a0_2 a0_3 l0_4 = some r) ∧ Aside0 (kq ≤ k1) ∧ Aside0 (Kd.R (Xu .i64) 3 wc w.heap.size (fun _ => True) v3 x3_17) ∧ Aside0 (wc.heap[gb137]? = some (.cells #[.int .i64 a0_0, .int .i64 a0_1, .int .i64 a0_2, .int .i64 a0_3, (.slice A0_4 l0_4.length c0_4)] 32 (0, 0))) ∧ Aside0 (Below w.heap.size w wc))
    case first =>
     have H := HC18.out
     clear HC18
     by_cases c20 : t149 = true
     ·subst c20
      have H1 : ((slices_DeleteFunc_int_int_FreeLogic_1.f x3_1 a0_0 a0_1 a0_2 a0_3 l0_4).bind fun t150 => (impl_FreeLogic.j1 k1 t150 a0_0 a0_1 a0_2 a0_3 l0_4)) = some r := by rw [if_pos rfl] at H; exact H
      clear H
      have H := H1
      clear H1
      replace H := Qi.mp H
      obtain ⟨t150, A210, H⟩ := H
      replace H : (impl_FreeLogic.j1 k1 t150 a0_0 a0_1 a0_2 a0_3 l0_4) = some r := H
      have A21 := Qa A210
      clear A210
      have H' := Qa H
      clear H
      obtain ⟨Ao22, co22, eo22⟩ := Kd.R_slice HO_3.out
      subst eo22
      go_wp2_with (first | ((with_reducible refine Zf (f := 61) rfl ?_); refine Xq (some 24) rfl rfl Try.func61 (by kernel_rfl) rfl #[.slice Ao22 x3_1.length co22, .func (.func 62) #[] #[.pointer (some ⟨gb137, 0, none⟩)]] rfl (by (try simp only [Qm, Qt, Zb]); first | done | rfl | (simp only [Qn, Qo]; rfl)) ?_; (with_reducible refine (slices_DeleteFunc_int_int_FreeLogic_1.calls (fun k_ => some k_ = (.slice Ao22 x3_1.length co22 : Value).ownBlock) (.slice Ao22 x3_1.length co22) x3_1 gb137 a0_0 a0_1 a0_2 a0_3 A0_4 c0_4 l0_4 t150 w _ ?side1 ?side2 ?side3 ?side4 ?side5 ?side6 ?side7 ?side8 ?side9 A21.out ?sideB).mono ?_); (case sideB => exact ⟨_, (Ba BK137.out)⟩); (case side1 => repeat (first | (with_reducible first | exact HB.out | apply Za | apply Qp | apply Qu | refine Ql ?_ GE137.out) | exact HB.out)); (case side2 => exact Kd.R_tight rfl HO_3.out); (case side3 => exact Kd.C_kept_came k32_heap HR0_4.out (Bb1 HB.out GE137.out) (fun k_ hs_ => (fun e_ => Kd.R_base HO_3.out k_ e_.symm) hs_)); (case side4 => exact HC0_4.out); (case side5 => exact (Qb (g := gb137) (cs := #[.int .i64 a0_0, .int .i64 a0_1, .int .i64 a0_2, .int .i64 a0_3, .slice A0_4 l0_4.length c0_4]) (t := 32) (Ba BK137.out) 0).trans rfl); (case side6 => exact (Qb (g := gb137) (cs := #[.int .i64 a0_0, .int .i64 a0_1, .int .i64 a0_2, .int .i64 a0_3, .slice A0_4 l0_4.length c0_4]) (t := 32) (Ba BK137.out) 1).trans rfl); (case side7 => exact (Qb (g := gb137) (cs := #[.int .i64 a0_0, .int .i64 a0_1, .int .i64 a0_2, .int .i64 a0_3, .slice A0_4 l0_4.length c0_4]) (t := 32) (Ba BK137.out) 2).trans rfl); (case side8 => exact (Qb (g := gb137) (cs := #[.int .i64 a0_0, .int .i64 a0_1, .int .i64 a0_2, .int .i64 a0_3, .slice A0_4 l0_4.length c0_4]) (t := 32) (Ba BK137.out) 3).trans rfl); (case side9 => exact (Qb (g := gb137) (cs := #[.int .i64 a0_0, .int .i64 a0_1, .int .i64 a0_2, .int .i64 a0_3, .slice A0_4 l0_4.length c0_4]) (t := 32) (Ba BK137.out) 4).trans rfl); rintro e w23 ⟨v151, rfl, ho0, hb, hkp⟩; refine ⟨_, rfl, ?_⟩; replace BK137 := Qa (blk_kept (Ba BK137.out) hkp (fun hs_ => (fun e_ => (Kd.R_ne HO_3.out BK137.out (by decide)) e_) hs_)); have HO152 := Qa (Zq (ok' := fun k_ => True) ho0 (fun k_ hk_ => trivial)); replace HB := Qa (hb); clear HO_3; (try clear hb); (try clear hkp); (try clear ho0)))
      go_meet
      case rel => exact ⟨_, (t150), H', ⟨by have := HK1.out; first | omega | exact Zv _⟩, ⟨by (with_reducible repeat (first | apply Xl | apply Xm | apply Xp)); exact HO152.out⟩, ⟨Ba BK137.out⟩, ⟨Bb1 HB.out GE137.out⟩⟩
     ·replace c20 := Xe.mpr c20
      subst c20
      have H1 : ((impl_usesU.f a0_0).bind fun t153 => (if t153 = true then (if x3_1.length < 17592186044416 then (impl_FreeLogic.j1 k1 (x3_1 ++ [a0_2]) a0_0 a0_1 a0_2 a0_3 l0_4) else (none)) else (impl_FreeLogic.j1 k1 x3_1 a0_0 a0_1 a0_2 a0_3 l0_4))) = some r := by rw [if_neg (show ¬ (false = true) by decide)] at H; exact H
      clear H
      have H := H1
      clear H1
      replace H := Qi.mp H
      obtain ⟨t153, A240, H⟩ := H
      replace H : (if t153 = true then (if x3_1.length < 17592186044416 then (impl_FreeLogic.j1 k1 (x3_1 ++ [a0_2]) a0_0 a0_1 a0_2 a0_3 l0_4) else (none)) else (impl_FreeLogic.j1 k1 x3_1 a0_0 a0_1 a0_2 a0_3 l0_4)) = some r := H
      have A24 := Qa A240
      clear A240
      by_cases c25 : t153 = true
      ·subst c25
       have H1 : (if x3_1.length < 17592186044416 then (impl_FreeLogic.j1 k1 (x3_1 ++ [a0_2]) a0_0 a0_1 a0_2 a0_3 l0_4) else (none)) = some r := by rw [if_pos rfl] at H; exact H
       clear H
       have H := H1
       clear H1
       by_cases c26 : x3_1.length < 17592186044416
       ·rw [if_pos c26] at H
        have LMc26 := Qa c26
        clear c26
        obtain ⟨y154, hy154⟩ : ∃ y_ : List Int, y_ = (x3_1 ++ [a0_2]) := ⟨_, rfl⟩
        replace H : (impl_FreeLogic.j1 k1 y154 a0_0 a0_1 a0_2 a0_3 l0_4) = some r := by first | (rw [hy154]; with_reducible exact H) | (have H2_ := (Zz _ _).symm.trans H; rw [hy154]; with_reducible exact H2_) | (have H2_ := (Zz _ _).symm.trans H; with_reducible exact H2_) | with_reducible exact H | (rw [hy154]; exact H) | exact H
        have Ny154 := Qa hy154
        clear hy154
        have H' := Qa H
        clear H
        have q27_0 : wr.cell? ⟨gb137, 0, none⟩ = some (.int .i64 a0_0) := (Qb BK137.out 0).trans rfl
        have q27_1 : wr.cell? ⟨gb137, 1, none⟩ = some (.int .i64 a0_1) := (Qb BK137.out 1).trans rfl
        have q27_2 : wr.cell? ⟨gb137, 2, none⟩ = some (.int .i64 a0_2) := (Qb BK137.out 2).trans rfl
        have q27_3 : wr.cell? ⟨gb137, 3, none⟩ = some (.int .i64 a0_3) := (Qb BK137.out 3).trans rfl
        have q27_4 : wr.cell? ⟨gb137, 4, none⟩ = some (.slice A0_4 l0_4.length c0_4) := (Qb BK137.out 4).trans rfl
        have u27_0 := Qc BK137.out 0
        have u27_1 := Qc BK137.out 1
        have u27_2 := Qc BK137.out 2
        have u27_3 := Qc BK137.out 3
        have u27_4 := Qc BK137.out 4
        go_wp2_with (first | ((with_reducible refine Zf (f := 63) rfl ?_); refine Xq (some 27) rfl rfl Try.func63 (by kernel_rfl) rfl #[.int .i64 a0_0] rfl (by (try simp only [Qm, Qt, Zb]); first | done | rfl | (simp only [Qn, Qo]; rfl)) ?_; (with_reducible refine (impl_usesU.calls a0_0 true _ A24.out).mono ?_); rintro e w' ⟨rfl, ⟨nd, rfl⟩⟩; refine ⟨_, rfl, ?_⟩) | ((with_reducible refine gate_builtin (b := .append) (xs := #[.tmp 28, .tmp 31]) rfl ?_); at_builtin; refine Kd.R_append (Xu .i64) (w0 := w) w.heap.size rfl (.tmp 28) (.tmp 31) 47 3 (.int .i64 0) 8 rfl Try.underlying47 info3 rfl (by decide) (by omega) u3 x3_1 a0_2 [.int .i64 a0_2] (fun _ => True) (fun _ => False) rfl rfl ?aP (fun _ hk => hk.elim) ?aF ?aO ?aB ?aS ?aL ?_; (case aP => exact rfl); (case aB => exact (Bb1 HB.out GE137.out)); (case aF => exact (fun _ _ => trivial)); (case aO => exact (Br HO_3.out)); (case aS => exact (Qv (Bb1 HB.out GE137.out))); (case aL => have := LMc26.out; omega); intro v155 w28 ho hb hg hat; rw [← Ny154.out] at ho; replace BK137 := Qa (blk_grown (g := gb137) (o := .cells #[.int .i64 a0_0, .int .i64 a0_1, .int .i64 a0_2, .int .i64 a0_3, .slice A0_4 l0_4.length c0_4] 32 (0, 0)) (Ba BK137.out) hg (Kd.R_ne HO_3.out BK137.out (by decide))); replace HB := Qa (hb); have HO156 := Qa (ho); clear HO_3; clear ho hb hg hat))
        go_meet
        case rel => exact ⟨_, (y154), H', ⟨by have := HK1.out; first | omega | exact Zv _⟩, ⟨by (with_reducible repeat (first | apply Xl | apply Xm | apply Xp)); exact HO156.out⟩, ⟨Ba BK137.out⟩, ⟨Bb1 HB.out GE137.out⟩⟩
       ·rw [if_neg c26] at H
        exact absurd H (by simp)
      ·replace c25 := Xe.mpr c25
       subst c25
       have H1 : (impl_FreeLogic.j1 k1 x3_1 a0_0 a0_1 a0_2 a0_3 l0_4) = some r := by rw [if_neg (show ¬ (false = true) by decide)] at H; exact H
       clear H
       have H := H1
       clear H1
       have H' := Qa H
       clear H
       have q29_0 : wr.cell? ⟨gb137, 0, none⟩ = some (.int .i64 a0_0) := (Qb BK137.out 0).trans rfl
       have q29_1 : wr.cell? ⟨gb137, 1, none⟩ = some (.int .i64 a0_1) := (Qb BK137.out 1).trans rfl
       have q29_2 : wr.cell? ⟨gb137, 2, none⟩ = some (.int .i64 a0_2) := (Qb BK137.out 2).trans rfl
       have q29_3 : wr.cell? ⟨gb137, 3, none⟩ = some (.int .i64 a0_3) := (Qb BK137.out 3).trans rfl
       have q29_4 : wr.cell? ⟨gb137, 4, none⟩ = some (.slice A0_4 l0_4.length c0_4) := (Qb BK137.out 4).trans rfl
       have u29_0 := Qc BK137.out 0
       have u29_1 := Qc BK137.out 1
       have u29_2 := Qc BK137.out 2
       have u29_3 := Qc BK137.out 3
       have u29_4 := Qc BK137.out 4
       go_wp2_with (first | ((with_reducible refine Zf (f := 63) rfl ?_); refine Xq (some 27) rfl rfl Try.func63 (by kernel_rfl) rfl #[.int .i64 a0_0] rfl (by (try simp only [Qm, Qt, Zb]); first | done | rfl | (simp only [Qn, Qo]; rfl)) ?_; (with_reducible refine (impl_usesU.calls a0_0 false _ A24.out).mono ?_); rintro e w' ⟨rfl, ⟨nd, rfl⟩⟩; refine ⟨_, rfl, ?_⟩))
       go_meet
       case rel => exact ⟨_, (x3_1), H', ⟨by have := HK1.out; first | omega | exact Zv _⟩, ⟨by (with_reducible repeat (first | apply Xl | apply Xm | apply Xp)); exact HO_3.out⟩, ⟨Ba BK137.out⟩, ⟨Bb1 HB.out GE137.out⟩⟩
    case rest =>
     clear HC18
     try clear c1
     try clear p1
     try clear q1
     try clear hx1
     try clear c2
     try clear p2
     try clear c6
     try clear c6b0
     try clear p6
     try clear c7
     try clear c7b0
     try clear c8
     try clear c8b0
     try clear c9
     try clear c10
     try clear c12
     try clear c14
     try clear p14
     try clear q14
     try clear hx14
     try clear c20
     try clear c25
     try clear c26
     try clear q13_0
     try clear q13_1
     try clear q13_2
     try clear q13_3
     try clear q13_4
     try clear q19_0
     try clear q19_1
     try clear q19_2
     try clear q19_3
     try clear q19_4
     try clear q27_0
     try clear q27_1
     try clear q27_2
     try clear q27_3
     try clear q27_4
     try clear q29_0
     try clear q29_1
     try clear q29_2
     try clear q29_3
     try clear q29_4
     try clear q5_0
     try clear q5_1
     try clear q5_2
     try clear q5_3
     try clear q5_4
     try clear u13_0
     try clear u13_1
     try clear u13_2
     try clear u13_3
     try clear u13_4
     try clear u19_0
     try clear u19_1
     try clear u19_2
     try clear u19_3
     try clear u19_4
     try clear u27_0
     try clear u27_1
     try clear u27_2
     try clear u27_3
     try clear u27_4
     try clear u29_0
     try clear u29_1
     try clear u29_2
     try clear u29_3
     try clear u29_4
     try clear u5_0
     try clear u5_1
     try clear u5_2
     try clear u5_3
     try clear u5_4
     try clear hx141_0
     try clear hx141_1
     try clear hx141_2
     try clear hx141_3
     try clear hx141_4
     try clear p141
     try clear p2
     try clear q141
     obtain ⟨kq, x3_17, HA, HJ17, HO_3, BK137, HB⟩ := hcut
     cases kq with
     | zero => exact absurd HA.out (by simp [impl_FreeLogic.j1])
     | succ kj17 =>
      have H := HA.out
      clear HA
      simp only [impl_FreeLogic.j1] at H
      replace H := Qi.mp H
      obtain ⟨t157, A300, H⟩ := H
      replace H : (if t157 = true then (if x3_17.length < 17592186044416 then ((slices_DeleteFunc_int_int_FreeLogic_2.f (x3_17 ++ [a0_3])).bind fun t161 => ((slices_Sort_int_int.f t161).bind fun t164 => ((slices_Compact_int_int.f t164).bind fun t165 => (some t165)))) else (none)) else ((slices_DeleteFunc_int_int_FreeLogic_2.f x3_17).bind fun t168 => ((slices_Sort_int_int.f t168).bind fun t171 => ((slices_Compact_int_int.f t171).bind fun t172 => (some t172))))) = some r := H
      have A30 := Qa A300
      clear A300
      by_cases c31 : t157 = true
      ·subst c31
       have H1 : (if x3_17.length < 17592186044416 then ((slices_DeleteFunc_int_int_FreeLogic_2.f (x3_17 ++ [a0_3])).bind fun t161 => ((slices_Sort_int_int.f t161).bind fun t164 => ((slices_Compact_int_int.f t164).bind fun t165 => (some t165)))) else (none)) = some r := by rw [if_pos rfl] at H; exact H
       clear H
       have H := H1
       clear H1
       by_cases c32 : x3_17.length < 17592186044416
       ·rw [if_pos c32] at H
        have LMc32 := Qa c32
        clear c32
        obtain ⟨y158, hy158⟩ : ∃ y_ : List Int, y_ = (x3_17 ++ [a0_3]) := ⟨_, rfl⟩
        replace H : ((slices_DeleteFunc_int_int_FreeLogic_2.f y158).bind fun t161 => ((slices_Sort_int_int.f t161).bind fun t164 => ((slices_Compact_int_int.f t164).bind fun t165 => (some t165)))) = some r := by first | (rw [hy158]; with_reducible exact H) | (have H2_ := (Zz _ _).symm.trans H; rw [hy158]; with_reducible exact H2_) | (have H2_ := (Zz _ _).symm.trans H; with_reducible exact H2_) | with_reducible exact H | (rw [hy158]; exact H) | exact H
        have Ny158 := Qa hy158
        clear hy158
        replace H := Qi.mp H
        obtain ⟨t161, A330, H⟩ := H
        replace H : ((slices_Sort_int_int.f t161).bind fun t164 => ((slices_Compact_int_int.f t164).bind fun t165 => (some t165))) = some r := H
        have A33 := Qa A330
        clear A330
        replace H := Qi.mp H
        obtain ⟨t164, A340, H⟩ := H
        replace H : ((slices_Compact_int_int.f t164).bind fun t165 => (some t165)) = some r := H
        have A34 := Qa A340
        clear A340
        replace H := Qi.mp H
        obtain ⟨t165, A350, H⟩ := H
        replace H : (some t165) = some r := H
        have A35 := Qa A350
        clear A350
        obtain rfl := Qs H
        have q36_0 : wc.cell? ⟨gb137, 0, none⟩ = some (.int .i64 a0_0) := (Qb BK137.out 0).trans rfl
        have q36_1 : wc.cell? ⟨gb137, 1, none⟩ = some (.int .i64 a0_1) := (Qb BK137.out 1).trans rfl
        have q36_2 : wc.cell? ⟨gb137, 2, none⟩ = some (.int .i64 a0_2) := (Qb BK137.out 2).trans rfl
        have q36_3 : wc.cell? ⟨gb137, 3, none⟩ = some (.int .i64 a0_3) := (Qb BK137.out 3).trans rfl
        have q36_4 : wc.cell? ⟨gb137, 4, none⟩ = some (.slice A0_4 l0_4.length c0_4) := (Qb BK137.out 4).trans rfl
        have u36_0 := Qc BK137.out 0
        have u36_1 := Qc BK137.out 1
        have u36_2 := Qc BK137.out 2
        have u36_3 := Qc BK137.out 3
        have u36_4 := Qc BK137.out 4
        go_wp2_with (first | ((with_reducible refine Zf (f := 64) rfl ?_); refine Xq (some 35) rfl rfl Try.func64 (by kernel_rfl) rfl #[.int .i64 a0_0] rfl (by (try simp only [Qm, Qt, Zb]); first | done | rfl | (simp only [Qn, Qo]; rfl)) ?_; (with_reducible refine (impl_usesV.calls a0_0 true _ A30.out).mono ?_); rintro e w' ⟨rfl, ⟨nd, rfl⟩⟩; refine ⟨_, rfl, ?_⟩) | ((with_reducible refine gate_builtin (b := .append) (xs := #[.tmp 36, .tmp 39]) rfl ?_); at_builtin; refine Kd.R_append (Xu .i64) (w0 := w) w.heap.size rfl (.tmp 36) (.tmp 39) 47 3 (.int .i64 0) 8 rfl Try.underlying47 info3 rfl (by decide) (by omega) u3 x3_17 a0_3 [.int .i64 a0_3] (fun _ => True) (fun _ => False) rfl rfl ?aP (fun _ hk => hk.elim) ?aF ?aO ?aB ?aS ?aL ?_; (case aP => exact rfl); (case aB => exact (Bb1 HB.out GE137.out)); (case aF => exact (fun _ _ => trivial)); (case aO => exact (Br HO_3.out)); (case aS => exact (Qv (Bb1 HB.out GE137.out))); (case aL => have := LMc32.out; omega); intro v159 w37 ho hb hg hat; rw [← Ny158.out] at ho; replace BK137 := Qa (blk_grown (g := gb137) (o := .cells #[.int .i64 a0_0, .int .i64 a0_1, .int .i64 a0_2, .int .i64 a0_3, .slice A0_4 l0_4.length c0_4] 32 (0, 0)) (Ba BK137.out) hg (Kd.R_ne HO_3.out BK137.out (by decide))); replace HB := Qa (hb); have HO160 := Qa (ho); clear HO_3; clear ho hb hg hat; obtain ⟨Ao38, co38, eo38⟩ := Kd.R_slice HO160.out; subst eo38) | ((with_reducible refine Zf (f := 61) rfl ?_); refine Xq (some 42) rfl rfl Try.func61 (by kernel_rfl) rfl #[.slice Ao38 y158.length co38, .func (.func 65) #[] #[]] rfl (by (try simp only [Qm, Qt, Zb]); first | done | rfl | (simp only [Qn, Qo]; rfl)) ?_; (with_reducible refine (slices_DeleteFunc_int_int_FreeLogic_2.calls (fun k_ => some k_ = (.slice Ao38 y158.length co38 : Value).ownBlock) (.slice Ao38 y158.length co38) y158  t161 w _ ?side1 ?side2 A33.out).mono ?_); (case side1 => repeat (first | (with_reducible first | exact HB.out | apply Za | apply Qp | apply Qu | refine Ql ?_ GE137.out) | exact HB.out)); (case side2 => exact Kd.R_tight rfl HO160.out); rintro e w39 ⟨v162, rfl, ho0, hb, hkp⟩; refine ⟨_, rfl, ?_⟩; replace BK137 := Qa (blk_kept (Ba BK137.out) hkp (fun hs_ => (fun e_ => (Kd.R_ne HO160.out BK137.out (by decide)) e_) hs_)); have HO163 := Qa (Zq (ok' := fun k_ => True) ho0 (fun k_ hk_ => trivial)); replace HB := Qa (hb); clear HO160; (try clear hb); (try clear hkp); (try clear ho0); obtain ⟨Ao40, co40, eo40⟩ := Kd.R_slice HO163.out; subst eo40) | ((with_reducible refine Zf (f := 67) rfl ?_); refine Xq (some 44) rfl rfl Try.func67 (by kernel_rfl) rfl #[.slice Ao40 t161.length co40] rfl (by (try simp only [Qm, Qt, Zb]); first | done | rfl | (simp only [Qn, Qo]; rfl)) ?_; (with_reducible refine (slices_Sort_int_int.calls (fun k_ => some k_ = (.slice Ao40 t161.length co40 : Value).ownBlock) (.slice Ao40 t161.length co40) t161 t164 w _ ?side1 ?side2 A34.out).mono ?_); (case side1 => repeat (first | (with_reducible first | exact HB.out | apply Za | apply Qp | apply Qu | refine Ql ?_ GE137.out) | exact HB.out)); (case side2 => exact Kd.R_tight rfl HO163.out); rintro e w41 ⟨rfl, hy0, hb, hkp⟩; refine ⟨_, rfl, ?_⟩; replace BK137 := Qa (blk_kept (Ba BK137.out) hkp (fun hs_ => (fun e_ => (Kd.R_ne HO163.out BK137.out (by decide)) e_) hs_)); replace HO163 := Qa (Kd.R_reok rfl hy0 (fun k_ e_ => HO163.out.1 k_ e_)); replace HB := Qa (hb); (try clear hb); (try clear hkp); (try clear hy0)) | ((with_reducible refine Zf (f := 68) rfl ?_); refine Xq (some 46) rfl rfl Try.func68 (by kernel_rfl) rfl #[.slice Ao40 t161.length co40] rfl (by (try simp only [Qm, Qt, Zb]); first | done | rfl | (simp only [Qn, Qo]; rfl)) ?_; (with_reducible refine (slices_Compact_int_int.calls (fun k_ => some k_ = (.slice Ao40 t161.length co40 : Value).ownBlock) (.slice Ao40 t161.length co40) t164 t165 w _ ?side1 ?side2 A35.out).mono ?_); (case side1 => repeat (first | (with_reducible first | exact HB.out | apply Za | apply Qp | apply Qu | refine Ql ?_ GE137.out) | exact HB.out)); (case side2 => exact Kd.R_tight rfl HO163.out); rintro e w42 ⟨v166, rfl, ho0, hb, hkp⟩; refine ⟨_, rfl, ?_⟩; replace BK137 := Qa (blk_kept (Ba BK137.out) hkp (fun hs_ => (fun e_ => (Kd.R_ne HO163.out BK137.out (by decide)) e_) hs_)); have HO167 := Qa (Zq (ok' := fun k_ => True) ho0 (fun k_ hk_ => trivial)); replace HB := Qa (hb); clear HO163; (try clear hb); (try clear hkp); (try clear ho0)))
        go_ret
        exact ⟨_, by first | rfl | (simp [errW_none, errW_some] <;> rfl) | (simp [*, errW_none, errW_some] <;> rfl), by (with_reducible repeat (first | apply Xl | apply Xm | apply Xp)); exact HO167.out, by repeat (first | (with_reducible first | exact HB.out | apply Za | apply Qp | apply Qu | refine Ql ?_ GE137.out) | exact HB.out)⟩
       ·rw [if_neg c32] at H
        exact absurd H (by simp)
      ·replace c31 := Xe.mpr c31
       subst c31
       have H1 : ((slices_DeleteFunc_int_int_FreeLogic_2.f x3_17).bind fun t168 => ((slices_Sort_int_int.f t168).bind fun t171 => ((slices_Compact_int_int.f t171).bind fun t172 => (some t172)))) = some r := by rw [if_neg (show ¬ (false = true) by decide)] at H; exact H
       clear H
       have H := H1
       clear H1
       replace H := Qi.mp H
       obtain ⟨t168, A430, H⟩ := H
       replace H : ((slices_Sort_int_int.f t168).bind fun t171 => ((slices_Compact_int_int.f t171).bind fun t172 => (some t172))) = some r := H
       have A43 := Qa A430
       clear A430
       replace H := Qi.mp H
       obtain ⟨t171, A440, H⟩ := H
       replace H : ((slices_Compact_int_int.f t171).bind fun t172 => (some t172)) = some r := H
       have A44 := Qa A440
       clear A440
       replace H := Qi.mp H
       obtain ⟨t172, A450, H⟩ := H
       replace H : (some t172) = some r := H
       have A45 := Qa A450
       clear A450
       obtain rfl := Qs H
       have q46_0 : wc.cell? ⟨gb137, 0, none⟩ = some (.int .i64 a0_0) := (Qb BK137.out 0).trans rfl
       have q46_1 : wc.cell? ⟨gb137, 1, none⟩ = some (.int .i64 a0_1) := (Qb BK137.out 1).trans rfl
       have q46_2 : wc.cell? ⟨gb137, 2, none⟩ = some (.int .i64 a0_2) := (Qb BK137.out 2).trans rfl
       have q46_3 : wc.cell? ⟨gb137, 3, none⟩ = some (.int .i64 a0_3) := (Qb BK137.out 3).trans rfl
       have q46_4 : wc.cell? ⟨gb137, 4, none⟩ = some (.slice A0_4 l0_4.length c0_4) := (Qb BK137.out 4).trans rfl
       have u46_0 := Qc BK137.out 0
       have u46_1 := Qc BK137.out 1
       have u46_2 := Qc BK137.out 2
       have u46_3 := Qc BK137.out 3
       have u46_4 := Qc BK137.out 4
       go_wp2_with (first | ((with_reducible refine Zf (f := 64) rfl ?_); refine Xq (some 35) rfl rfl Try.func64 (by kernel_rfl) rfl #[.int .i64 a0_0] rfl (by (try simp only [Qm, Qt, Zb]); first | done | rfl | (simp only [Qn, Qo]; rfl)) ?_; (with_reducible refine (impl_usesV.calls a0_0 false _ A30.out).mono ?_); rintro e w' ⟨rfl, ⟨nd, rfl⟩⟩; refine ⟨_, rfl, ?_⟩; obtain ⟨Ao47, co47, eo47⟩ := Kd.R_slice HO_3.out; subst eo47) | ((with_reducible refine Zf (f := 61) rfl ?_); refine Xq (some 42) rfl rfl Try.func61 (by kernel_rfl) rfl #[.slice Ao47 x3_17.length co47, .func (.func 65) #[] #[]] rfl (by (try simp only [Qm, Qt, Zb]); first | done | rfl | (simp only [Qn, Qo]; rfl)) ?_; (with_reducible refine (slices_DeleteFunc_int_int_FreeLogic_2.calls (fun k_ => some k_ = (.slice Ao47 x3_17.length co47 : Value).ownBlock) (.slice Ao47 x3_17.length co47) x3_17  t168 w _ ?side1 ?side2 A43.out).mono ?_); (case side1 => repeat (first | (with_reducible first | exact HB.out | apply Za | apply Qp | apply Qu | refine Ql ?_ GE137.out) | exact HB.out)); (case side2 => exact Kd.R_tight rfl HO_3.out); rintro e w48 ⟨v169, rfl, ho0, hb, hkp⟩; refine ⟨_, rfl, ?_⟩; replace BK137 := Qa (blk_kept (Ba BK137.out) hkp (fun hs_ => (fun e_ => (Kd.R_ne HO_3.out BK137.out (by decide)) e_) hs_)); have HO170 := Qa (Zq (ok' := fun k_ => True) ho0 (fun k_ hk_ => trivial)); replace HB := Qa (hb); clear HO_3; (try clear hb); (try clear hkp); (try clear ho0); obtain ⟨Ao49, co49, eo49⟩ := Kd.R_slice HO170.out; subst eo49) | ((with_reducible refine Zf (f := 67) rfl ?_); refine Xq (some 44) rfl rfl Try.func67 (by kernel_rfl) rfl #[.slice Ao49 t168.length co49] rfl (by (try simp only [Qm, Qt, Zb]); first | done | rfl | (simp only [Qn, Qo]; rfl)) ?_; (with_reducible refine (slices_Sort_int_int.calls (fun k_ => some k_ = (.slice Ao49 t168.length co49 : Value).ownBlock) (.slice Ao49 t168.length co49) t168 t171 w _ ?side1 ?side2 A44.out).mono ?_); (case side1 => repeat (first | (with_reducible first | exact HB.out | apply Za | apply Qp | apply Qu | refine Ql ?_ GE137.out) | exact HB.out)); (case side2 => exact Kd.R_tight rfl HO170.out); rintro e w50 ⟨rfl, hy0, hb, hkp⟩; refine ⟨_, rfl, ?_⟩; replace BK137 := Qa (blk_kept (Ba BK137.out) hkp (fun hs_ => (fun e_ => (Kd.R_ne HO170.out BK137.out (by decide)) e_) hs_)); replace HO170 := Qa (Kd.R_reok rfl hy0 (fun k_ e_ => HO170.out.1 k_ e_)); replace HB := Qa (hb); (try clear hb); (try clear hkp); (try clear hy0)) | ((with_reducible refine Zf (f := 68) rfl ?_); refine Xq (some 46) rfl rfl Try.func68 (by kernel_rfl) rfl #[.slice Ao49 t168.length co49] rfl (by (try simp only [Qm, Qt, Zb]); first | done | rfl | (simp only [Qn, Qo]; rfl)) ?_; (with_reducible refine (slices_Compact_int_int.calls (fun k_ => some k_ = (.slice Ao49 t168.length co49 : Value).ownBlock) (.slice Ao49 t168.length co49) t171 t172 w _ ?side1 ?side2 A45.out).mono ?_); (case side1 => repeat (first | (with_reducible first | exact HB.out | apply Za | apply Qp | apply Qu | refine Ql ?_ GE137.out) | exact HB.out)); (case side2 => exact Kd.R_tight rfl HO170.out); rintro e w51 ⟨v173, rfl, ho0, hb, hkp⟩; refine ⟨_, rfl, ?_⟩; replace BK137 := Qa (blk_kept (Ba BK137.out) hkp (fun hs_ => (fun e_ => (Kd.R_ne HO170.out BK137.out (by decide)) e_) hs_)); have HO174 := Qa (Zq (ok' := fun k_ => True) ho0 (fun k_ hk_ => trivial)); replace HB := Qa (hb); clear HO170; (try clear hb); (try clear hkp); (try clear ho0)))
       go_ret
       exact ⟨_, by first | rfl | (simp [errW_none, errW_some] <;> rfl) | (simp [*, errW_none, errW_some] <;> rfl), by (with_reducible repeat (first | apply Xl | apply Xm | apply Xp)); exact HO174.out, by repeat (first | (with_reducible first | exact HB.out | apply Za | apply Qp | apply Qu | refine Ql ?_ GE137.out) | exact HB.out)⟩
end Go.Proofs.Ytoljagpjejpmpaa.PFnFormulas
