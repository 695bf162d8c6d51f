-- Laid by wip/tools/xprint.py (a program of this session over the kit's print). Not trusted: Lean checks it.
import Derived.Test.YtoljagpjejpmpaaXAuto
import Derived.Test.YtoljagpjejpmpaaPFnFormulasx0
namespace Go.Proofs.Ytoljagpjejpmpaa.PFnFormulas
open Go.RowKit Go.Proofs.YtoljagpjejpmpaaW.PrintWords Go.Proofs.YtoljagpjejpmpaaW.PrintLast Go.Proofs.YtoljagpjejpmpaaW.PrintMore
open Go.Proofs.YtoljagpjejpmpaaW.PrintWords.Aside0 renaming mk → Qa
open Go.Proofs.YtoljagpjejpmpaaW.PrintWords renaming blk_cell → Qb, blk_frozen → Qc
open Go.World renaming block_lt_of_cell? → Qd
open List renaming setIfInBounds_toArray → Qe, set_cons_zero → Qj, set_cons_succ → Qk
open Option.some renaming inj → Qs
open Bool renaming eq_iff_iff → Qx
open Go.Act renaming put → Zg
open Nat renaming le_refl → Zv
open Go.Proofs.YtoljagpjejpmpaaW.PrintLast renaming i64_w → Xk, i32_w → Xn
open Or renaming inl → Xt
attribute [local go_sem] max2_int min2_int max_two min_two max_three min_three max_four min_four
set_option linter.unusedVariables false
set_option linter.unusedSimpArgs false
mutual
def spec_EqualFormula.j0 : Nat → Bool → Int → Int → Int → Int → List (S32) → Int → Int → Int → Int → List (S32) → Option (Bool)
 | 0, _, _, _, _, _, _, _, _, _, _, _ => none
 | k + 1, x40, x420000, x420001, x420002, x420003, x420004, x421000, x421001, x421002, x421003, x421004 => if x40 = true then (some false) else (spec_EqualFormula.l0 k 0 x420000 x420001 x420002 x420003 x420004 x421000 x421001 x421002 x421003 x421004)
def spec_EqualFormula.l0 : Nat → Int → Int → Int → Int → Int → List (S32) → Int → Int → Int → Int → List (S32) → Option (Bool)
 | 0, _, _, _, _, _, _, _, _, _, _, _ => none
 | k + 1, x5, x420000, x420001, x420002, x420003, x420004, x421000, x421001, x421002, x421003, x421004 => if x5 < (x420004.length : Int) then (if 0 ≤ x5 then (if x5 < (x421004.length : Int) then ((spec_EqualFormula.f k ((rd_T32 x420004 x5).f0) ((rd_T32 x420004 x5).f1) ((rd_T32 x420004 x5).f2) ((rd_T32 x420004 x5).f3) ((rd_T32 x420004 x5).f4) ((rd_T32 x421004 x5).f0) ((rd_T32 x421004 x5).f1) ((rd_T32 x421004 x5).f2) ((rd_T32 x421004 x5).f3) ((rd_T32 x421004 x5).f4)).bind fun t423 => (if t423 = true then (spec_EqualFormula.l0 k (wrap64 (x5 + 1)) x420000 x420001 x420002 x420003 x420004 x421000 x421001 x421002 x421003 x421004) else (some false))) else (none)) else (none)) else (some true)
def spec_EqualFormula.f : Nat → Int → Int → Int → Int → List (S32) → Int → Int → Int → Int → List (S32) → Option (Bool)
 | 0, _, _, _, _, _, _, _, _, _, _ => none
 | k + 1, a0_0, a0_1, a0_2, a0_3, l0_4, a1_0, a1_1, a1_2, a1_3, l1_4 => if a0_0 = a1_0 then (if a0_1 = a1_1 then (if a0_2 = a1_2 then (if a0_3 = a1_3 then (spec_EqualFormula.j0 k ((l0_4.length : Int) != (l1_4.length : Int)) a0_0 a0_1 a0_2 a0_3 l0_4 a1_0 a1_1 a1_2 a1_3 l1_4) else (spec_EqualFormula.j0 k true a0_0 a0_1 a0_2 a0_3 l0_4 a1_0 a1_1 a1_2 a1_3 l1_4)) else (spec_EqualFormula.j0 k true a0_0 a0_1 a0_2 a0_3 l0_4 a1_0 a1_1 a1_2 a1_3 l1_4)) else (spec_EqualFormula.j0 k true a0_0 a0_1 a0_2 a0_3 l0_4 a1_0 a1_1 a1_2 a1_3 l1_4)) else (spec_EqualFormula.j0 k true a0_0 a0_1 a0_2 a0_3 l0_4 a1_0 a1_1 a1_2 a1_3 l1_4)
end
theorem spec_EqualFormula.mono_l : ∀ k, (∀ y0 y1 y2 y3 y4 y5 y6 y7 y8 y9, LeO (spec_EqualFormula.f k y0 y1 y2 y3 y4 y5 y6 y7 y8 y9) (spec_EqualFormula.f (k + 1) y0 y1 y2 y3 y4 y5 y6 y7 y8 y9)) ∧ (∀ y0 y1 y2 y3 y4 y5 y6 y7 y8 y9 y10, LeO (spec_EqualFormula.j0 k y0 y1 y2 y3 y4 y5 y6 y7 y8 y9 y10) (spec_EqualFormula.j0 (k + 1) y0 y1 y2 y3 y4 y5 y6 y7 y8 y9 y10)) ∧ (∀ y0 y1 y2 y3 y4 y5 y6 y7 y8 y9 y10, LeO (spec_EqualFormula.l0 k y0 y1 y2 y3 y4 y5 y6 y7 y8 y9 y10) (spec_EqualFormula.l0 (k + 1) y0 y1 y2 y3 y4 y5 y6 y7 y8 y9 y10))
 | 0 => ⟨fun _ _ _ _ _ _ _ _ _ _ r h => by simp [spec_EqualFormula.f] at h, fun _ _ _ _ _ _ _ _ _ _ _ r h => by simp [spec_EqualFormula.j0] at h, fun _ _ _ _ _ _ _ _ _ _ _ r h => by simp [spec_EqualFormula.l0] at h⟩
 | k + 1 => by
  obtain ⟨ih0, ih1, ih2⟩ := spec_EqualFormula.mono_l k
  refine ⟨?_, ?_, ?_⟩
  ·intro y0 y1 y2 y3 y4 y5 y6 y7 y8 y9
   unfold spec_EqualFormula.f
   repeat' first
   | (with_reducible exact ih0 _ _ _ _ _ _ _ _ _ _)
   | (with_reducible exact ih1 _ _ _ _ _ _ _ _ _ _ _)
   | (with_reducible exact ih2 _ _ _ _ _ _ _ _ _ _ _)
   | (with_reducible exact LeO.refl _)
   | (with_reducible exact LeO.none _)
   | (with_reducible refine LeO.ite ?_ ?_)
   | (with_reducible refine LeO.bind ?_ (fun _ => ?_))
   | exact ih0 _ _ _ _ _ _ _ _ _ _
   | exact ih1 _ _ _ _ _ _ _ _ _ _ _
   | exact ih2 _ _ _ _ _ _ _ _ _ _ _
   | exact LeO.none _
   | refine LeO.ite ?_ ?_
   | refine LeO.bind ?_ (fun _ => ?_)
  ·intro y0 y1 y2 y3 y4 y5 y6 y7 y8 y9 y10
   unfold spec_EqualFormula.j0
   repeat' first
   | (with_reducible exact ih0 _ _ _ _ _ _ _ _ _ _)
   | (with_reducible exact ih1 _ _ _ _ _ _ _ _ _ _ _)
   | (with_reducible exact ih2 _ _ _ _ _ _ _ _ _ _ _)
   | (with_reducible exact LeO.refl _)
   | (with_reducible exact LeO.none _)
   | (with_reducible refine LeO.ite ?_ ?_)
   | (with_reducible refine LeO.bind ?_ (fun _ => ?_))
   | exact ih0 _ _ _ _ _ _ _ _ _ _
   | exact ih1 _ _ _ _ _ _ _ _ _ _ _
   | exact ih2 _ _ _ _ _ _ _ _ _ _ _
   | exact LeO.none _
   | refine LeO.ite ?_ ?_
   | refine LeO.bind ?_ (fun _ => ?_)
  ·intro y0 y1 y2 y3 y4 y5 y6 y7 y8 y9 y10
   unfold spec_EqualFormula.l0
   repeat' first
   | (with_reducible exact ih0 _ _ _ _ _ _ _ _ _ _)
   | (with_reducible exact ih1 _ _ _ _ _ _ _ _ _ _ _)
   | (with_reducible exact ih2 _ _ _ _ _ _ _ _ _ _ _)
   | (with_reducible exact LeO.refl _)
   | (with_reducible exact LeO.none _)
   | (with_reducible refine LeO.ite ?_ ?_)
   | (with_reducible refine LeO.bind ?_ (fun _ => ?_))
   | exact ih0 _ _ _ _ _ _ _ _ _ _
   | exact ih1 _ _ _ _ _ _ _ _ _ _ _
   | exact ih2 _ _ _ _ _ _ _ _ _ _ _
   | exact LeO.none _
   | refine LeO.ite ?_ ?_
   | refine LeO.bind ?_ (fun _ => ?_)
theorem spec_EqualFormula.mono : ∀ a0 a1 a2 a3 a4 a5 a6 a7 a8 a9 k, LeO (spec_EqualFormula.f k a0 a1 a2 a3 a4 a5 a6 a7 a8 a9) (spec_EqualFormula.f (k + 1) a0 a1 a2 a3 a4 a5 a6 a7 a8 a9) := by
 intro a0 a1 a2 a3 a4 a5 a6 a7 a8 a9 k
 obtain ⟨ih0, ih1, ih2⟩ := spec_EqualFormula.mono_l k
 exact ih0 a0 a1 a2 a3 a4 a5 a6 a7 a8 a9
def spec_EqualFormula.T6 : Bool × List (List Nat × List Nat) := (true, [([], []), ([0], [0]), ([], []), ([1, 2], [1, 2]), ([3], [3]), ([], []), ([5], [5]), ([], []), ([6, 7], [6, 7]), ([8], [8]), ([4, 9], [4, 9]), ([10], [10])])
def spec_EqualFormula.B6 : List Nat := [0, 1, 0, 7, 15, 0, 32, 0, 224, 480, 1023, 2047]
theorem spec_EqualFormula.tab6 : rtab .any (opsOf Try.f38 6) = spec_EqualFormula.T6 := by kernel_rfl
theorem spec_EqualFormula.bits6 : waitsOk spec_EqualFormula.T6.2 spec_EqualFormula.B6 = true := by kernel_rfl
set_option maxHeartbeats 8000000 in
set_option maxRecDepth 100000 in
theorem spec_EqualFormula.calls (k : Nat) : ∀ (a0_0 : Int) (a0_1 : Int) (a0_2 : Int) (a0_3 : Int) (A0_4 : Option Addr) (c0_4 : Nat) (l0_4 : List (S32)) (a1_0 : Int) (a1_1 : Int) (a1_2 : Int) (a1_3 : Int) (A1_4 : Option Addr) (c1_4 : Nat) (l1_4 : List (S32)) (r : Bool) (w : World) (hr0_4 : Kd.C k32 w A0_4 l0_4.length l0_4) (hc0_4 : l0_4.length ≤ c0_4) (hr1_4 : Kd.C k32 w A1_4 l1_4.length l1_4) (hc1_4 : l1_4.length ≤ c1_4) (h : spec_EqualFormula.f k a0_0 a0_1 a0_2 a0_3 l0_4 a1_0 a1_1 a1_2 a1_3 l1_4 = some r),
  Calls Try.prog 38 #[.agg #[.int .i64 a0_0, .int .i64 a0_1, .int .i64 a0_2, .int .i64 a0_3, .slice A0_4 l0_4.length c0_4], .agg #[.int .i64 a1_0, .int .i64 a1_1, .int .i64 a1_2, .int .i64 a1_3, .slice A1_4 l1_4.length c1_4]] w fun e w' => e = .returned (.bool r) ∧ Below w.heap.size w w' := by
 induction k using Nat.strongRecOn with
 | _ k ih =>
 intro a0_0 a0_1 a0_2 a0_3 A0_4 c0_4 l0_4 a1_0 a1_1 a1_2 a1_3 A1_4 c1_4 l1_4 r w hr0_4 hc0_4 hr1_4 hc1_4 h
 cases k with
 | zero => exact absurd h (by simp [spec_EqualFormula.f])
 | succ k =>
 simp only [spec_EqualFormula.f] at h
 have hu32 := Try.underlying32
 have HR0_4 := Qa hr0_4
 have HC0_4 := Qa hc0_4
 clear hr0_4 hc0_4
 have HR1_4 := Qa hr1_4
 have HC1_4 := Qa hc1_4
 clear hr1_4 hc1_4
 have HB := Qa (Below.refl w.heap.size w)
 have H : (if a0_0 = a1_0 then (if a0_1 = a1_1 then (if a0_2 = a1_2 then (if a0_3 = a1_3 then (spec_EqualFormula.j0 k ((l0_4.length : Int) != (l1_4.length : Int)) a0_0 a0_1 a0_2 a0_3 l0_4 a1_0 a1_1 a1_2 a1_3 l1_4) else (spec_EqualFormula.j0 k true a0_0 a0_1 a0_2 a0_3 l0_4 a1_0 a1_1 a1_2 a1_3 l1_4)) else (spec_EqualFormula.j0 k true a0_0 a0_1 a0_2 a0_3 l0_4 a1_0 a1_1 a1_2 a1_3 l1_4)) else (spec_EqualFormula.j0 k true a0_0 a0_1 a0_2 a0_3 l0_4 a1_0 a1_1 a1_2 a1_3 l1_4)) else (spec_EqualFormula.j0 k true a0_0 a0_1 a0_2 a0_3 l0_4 a1_0 a1_1 a1_2 a1_3 l1_4)) = some r := h
 clear h
 have HC3 := Qa H
 clear H
 go_enter Try.func38, Try.ntmps38
 go_upto_region 1 with (first | ((with_reducible refine gate_dst (N := 2) rfl ?_); (try (refine gate_guard (by rfl) ?_; dsimp only)); refine box_event ?hg (N := 2) ?hd (cs := #[.int .i64 a0_0, .int .i64 a0_1, .int .i64 a0_2, .int .i64 a0_3, .slice A0_4 l0_4.length c0_4]) (t := 32) ?hr ?_; (case hd => rfl); (case hg => rfl); (case hr => first | (go_simp; done) | (go_simp; rfl)); intro gb419 hg w4 hbox hb; have BK419 := Qa (hbox); have GW419 := Qa ((by rw [hg]; exact (below_size (Bb0 HB.out)) : w.heap.size ≤ gb419)); have GE419 := Qa ((by rw [hg]; exact (below_size (Bb0 HB.out)) : w.heap.size ≤ gb419)); replace HB := Qa (below_step (Bb0 HB.out) hb); clear hb hbox hg) | ((with_reducible refine gate_dst (N := 3) rfl ?_); (try (refine gate_guard (by rfl) ?_; dsimp only)); refine box_event ?hg (N := 3) ?hd (cs := #[.int .i64 a1_0, .int .i64 a1_1, .int .i64 a1_2, .int .i64 a1_3, .slice A1_4 l1_4.length c1_4]) (t := 32) ?hr ?_; (case hd => rfl); (case hg => rfl); (case hr => first | (go_simp; done) | (go_simp; rfl)); intro gb420 hg w5 hbox hb; have BK420 := Qa (hbox); have GW420 := Qa ((by rw [hg]; exact (below_size (Bb1 HB.out GE419.out)) : w.heap.size ≤ gb420)); have GE420 := Qa ((by rw [hg]; exact (below_size (Bb1 HB.out GE419.out)) : w.heap.size ≤ gb420)); replace HB := Qa (below_step (Bb1 HB.out GE419.out) hb); have NB419_420 := Qa ((by rw [hg]; exact Nat.ne_of_lt (blk_lt (g := gb419) (o := .cells #[.int .i64 a0_0, .int .i64 a0_1, .int .i64 a0_2, .int .i64 a0_3, .slice A0_4 l0_4.length c0_4] 32 (0, 0)) (Ba BK419.out)) : gb419 ≠ gb420)); have NB420_419 := Qa ((by rw [hg]; exact Nat.ne_of_gt (blk_lt (g := gb419) (o := .cells #[.int .i64 a0_0, .int .i64 a0_1, .int .i64 a0_2, .int .i64 a0_3, .slice A0_4 l0_4.length c0_4] 32 (0, 0)) (Ba BK419.out)) : gb420 ≠ gb419)); replace BK419 := Qa (blk_below (g := gb419) (o := .cells #[.int .i64 a0_0, .int .i64 a0_1, .int .i64 a0_2, .int .i64 a0_3, .slice A0_4 l0_4.length c0_4] 32 (0, 0)) (Ba BK419.out) hb); clear hb hbox hg))
 (try simp only [Zg, Qe, Qj, Qk])
 go_cut [40] (fun v40 wc => ∃ (kq : Nat) (x40_2 : Bool), v40 = .bool x40_2 ∧ Aside0 (spec_EqualFormula.j0 kq x40_2 a0_0 a0_1 a0_2 a0_3 l0_4 a1_0 a1_1 a1_2 a1_3 l1_4 = some r) ∧ Aside0 (kq ≤ k) ∧ Aside0 (wc.heap[gb419]? = some (.cells #[.int .i64 a0_0, .int .i64 a0_1, .int .i64 a0_2, .int .i64 a0_3, (.slice A0_4 l0_4.length c0_4)] 32 (0, 0))) ∧ Aside0 (wc.heap[gb420]? = some (.cells #[.int .i64 a1_0, .int .i64 a1_1, .int .i64 a1_2, .int .i64 a1_3, (.slice A1_4 l1_4.length c1_4)] 32 (0, 0))) ∧ Aside0 (Below w.heap.size w wc))
 case first =>
  have H := HC3.out
  clear HC3
  by_cases c6 : a0_0 = a1_0
  ·rw [if_pos c6] at H
   have c6b0 : (a0_0 == a1_0) = true := beq_iff_eq.mpr c6
   have c6b1 : (a0_0 != a1_0) = false := bne_eq_false_iff_eq.mpr c6
   clear c6
   (first | rw [c6b0] | (simp only [Xk, Xn]; rw [c6b0]) | skip)
   by_cases c7 : a0_1 = a1_1
   ·rw [if_pos c7] at H
    have c7b0 : (a0_1 == a1_1) = true := beq_iff_eq.mpr c7
    have c7b1 : (a0_1 != a1_1) = false := bne_eq_false_iff_eq.mpr c7
    clear c7
    by_cases c8 : a0_2 = a1_2
    ·rw [if_pos c8] at H
     have c8b0 : (a0_2 == a1_2) = true := beq_iff_eq.mpr c8
     have c8b1 : (a0_2 != a1_2) = false := bne_eq_false_iff_eq.mpr c8
     clear c8
     by_cases c9 : a0_3 = a1_3
     ·rw [if_pos c9] at H
      have c9b0 : (a0_3 == a1_3) = true := beq_iff_eq.mpr c9
      have c9b1 : (a0_3 != a1_3) = false := bne_eq_false_iff_eq.mpr c9
      clear c9
      have H' := Qa H
      clear H
      have hnb10 := NB419_420.out
      have hnc10 := NB420_419.out
      have q11_0 : w5.cell? ⟨gb419, 0, none⟩ = some (.int .i64 a0_0) := (Qb BK419.out 0).trans rfl
      have q11_1 : w5.cell? ⟨gb419, 1, none⟩ = some (.int .i64 a0_1) := (Qb BK419.out 1).trans rfl
      have q11_2 : w5.cell? ⟨gb419, 2, none⟩ = some (.int .i64 a0_2) := (Qb BK419.out 2).trans rfl
      have q11_3 : w5.cell? ⟨gb419, 3, none⟩ = some (.int .i64 a0_3) := (Qb BK419.out 3).trans rfl
      have q11_4 : w5.cell? ⟨gb419, 4, none⟩ = some (.slice A0_4 l0_4.length c0_4) := (Qb BK419.out 4).trans rfl
      have u11_0 := Qc BK419.out 0
      have u11_1 := Qc BK419.out 1
      have u11_2 := Qc BK419.out 2
      have u11_3 := Qc BK419.out 3
      have u11_4 := Qc BK419.out 4
      have q12_0 : w5.cell? ⟨gb420, 0, none⟩ = some (.int .i64 a1_0) := (Qb BK420.out 0).trans rfl
      have q12_1 : w5.cell? ⟨gb420, 1, none⟩ = some (.int .i64 a1_1) := (Qb BK420.out 1).trans rfl
      have q12_2 : w5.cell? ⟨gb420, 2, none⟩ = some (.int .i64 a1_2) := (Qb BK420.out 2).trans rfl
      have q12_3 : w5.cell? ⟨gb420, 3, none⟩ = some (.int .i64 a1_3) := (Qb BK420.out 3).trans rfl
      have q12_4 : w5.cell? ⟨gb420, 4, none⟩ = some (.slice A1_4 l1_4.length c1_4) := (Qb BK420.out 4).trans rfl
      have u12_0 := Qc BK420.out 0
      have u12_1 := Qc BK420.out 1
      have u12_2 := Qc BK420.out 2
      have u12_3 := Qc BK420.out 3
      have u12_4 := Qc BK420.out 4
      go_wp2
      go_meet
      case rel => exact ⟨_, (((l0_4.length : Int) != (l1_4.length : Int))), (by first | rfl | (simp; done) | (simp [*]; done) | (simp; rw [Qx]; simp; done)), H', ⟨by first | omega | exact Zv _⟩, ⟨Ba BK419.out⟩, ⟨Ba BK420.out⟩, ⟨Bb2 HB.out GE419.out GE420.out⟩⟩
     ·rw [if_neg c9] at H
      have c9b0 : (a0_3 == a1_3) = false := beq_eq_false_iff_ne.mpr c9
      have c9b1 : (a0_3 != a1_3) = true := bne_iff_ne.mpr c9
      have H' := Qa H
      clear H
      have hnb13 := NB419_420.out
      have hnc13 := NB420_419.out
      have q14_0 : w5.cell? ⟨gb419, 0, none⟩ = some (.int .i64 a0_0) := (Qb BK419.out 0).trans rfl
      have q14_1 : w5.cell? ⟨gb419, 1, none⟩ = some (.int .i64 a0_1) := (Qb BK419.out 1).trans rfl
      have q14_2 : w5.cell? ⟨gb419, 2, none⟩ = some (.int .i64 a0_2) := (Qb BK419.out 2).trans rfl
      have q14_3 : w5.cell? ⟨gb419, 3, none⟩ = some (.int .i64 a0_3) := (Qb BK419.out 3).trans rfl
      have q14_4 : w5.cell? ⟨gb419, 4, none⟩ = some (.slice A0_4 l0_4.length c0_4) := (Qb BK419.out 4).trans rfl
      have u14_0 := Qc BK419.out 0
      have u14_1 := Qc BK419.out 1
      have u14_2 := Qc BK419.out 2
      have u14_3 := Qc BK419.out 3
      have u14_4 := Qc BK419.out 4
      have q15_0 : w5.cell? ⟨gb420, 0, none⟩ = some (.int .i64 a1_0) := (Qb BK420.out 0).trans rfl
      have q15_1 : w5.cell? ⟨gb420, 1, none⟩ = some (.int .i64 a1_1) := (Qb BK420.out 1).trans rfl
      have q15_2 : w5.cell? ⟨gb420, 2, none⟩ = some (.int .i64 a1_2) := (Qb BK420.out 2).trans rfl
      have q15_3 : w5.cell? ⟨gb420, 3, none⟩ = some (.int .i64 a1_3) := (Qb BK420.out 3).trans rfl
      have q15_4 : w5.cell? ⟨gb420, 4, none⟩ = some (.slice A1_4 l1_4.length c1_4) := (Qb BK420.out 4).trans rfl
      have u15_0 := Qc BK420.out 0
      have u15_1 := Qc BK420.out 1
      have u15_2 := Qc BK420.out 2
      have u15_3 := Qc BK420.out 3
      have u15_4 := Qc BK420.out 4
      go_wp2
      go_meet
      case rel => exact ⟨_, (true), (by first | rfl | (simp; done) | (simp [*]; done) | (simp; rw [Qx]; simp; done)), H', ⟨by first | omega | exact Zv _⟩, ⟨Ba BK419.out⟩, ⟨Ba BK420.out⟩, ⟨Bb2 HB.out GE419.out GE420.out⟩⟩
    ·rw [if_neg c8] at H
     have c8b0 : (a0_2 == a1_2) = false := beq_eq_false_iff_ne.mpr c8
     have c8b1 : (a0_2 != a1_2) = true := bne_iff_ne.mpr c8
     have H' := Qa H
     clear H
     have hnb16 := NB419_420.out
     have hnc16 := NB420_419.out
     have q17_0 : w5.cell? ⟨gb419, 0, none⟩ = some (.int .i64 a0_0) := (Qb BK419.out 0).trans rfl
     have q17_1 : w5.cell? ⟨gb419, 1, none⟩ = some (.int .i64 a0_1) := (Qb BK419.out 1).trans rfl
     have q17_2 : w5.cell? ⟨gb419, 2, none⟩ = some (.int .i64 a0_2) := (Qb BK419.out 2).trans rfl
     have q17_3 : w5.cell? ⟨gb419, 3, none⟩ = some (.int .i64 a0_3) := (Qb BK419.out 3).trans rfl
     have q17_4 : w5.cell? ⟨gb419, 4, none⟩ = some (.slice A0_4 l0_4.length c0_4) := (Qb BK419.out 4).trans rfl
     have u17_0 := Qc BK419.out 0
     have u17_1 := Qc BK419.out 1
     have u17_2 := Qc BK419.out 2
     have u17_3 := Qc BK419.out 3
     have u17_4 := Qc BK419.out 4
     have q18_0 : w5.cell? ⟨gb420, 0, none⟩ = some (.int .i64 a1_0) := (Qb BK420.out 0).trans rfl
     have q18_1 : w5.cell? ⟨gb420, 1, none⟩ = some (.int .i64 a1_1) := (Qb BK420.out 1).trans rfl
     have q18_2 : w5.cell? ⟨gb420, 2, none⟩ = some (.int .i64 a1_2) := (Qb BK420.out 2).trans rfl
     have q18_3 : w5.cell? ⟨gb420, 3, none⟩ = some (.int .i64 a1_3) := (Qb BK420.out 3).trans rfl
     have q18_4 : w5.cell? ⟨gb420, 4, none⟩ = some (.slice A1_4 l1_4.length c1_4) := (Qb BK420.out 4).trans rfl
     have u18_0 := Qc BK420.out 0
     have u18_1 := Qc BK420.out 1
     have u18_2 := Qc BK420.out 2
     have u18_3 := Qc BK420.out 3
     have u18_4 := Qc BK420.out 4
     go_wp2
     go_meet
     case rel => exact ⟨_, (true), (by first | rfl | (simp; done) | (simp [*]; done) | (simp; rw [Qx]; simp; done)), H', ⟨by first | omega | exact Zv _⟩, ⟨Ba BK419.out⟩, ⟨Ba BK420.out⟩, ⟨Bb2 HB.out GE419.out GE420.out⟩⟩
   ·rw [if_neg c7] at H
    have c7b0 : (a0_1 == a1_1) = false := beq_eq_false_iff_ne.mpr c7
    have c7b1 : (a0_1 != a1_1) = true := bne_iff_ne.mpr c7
    have H' := Qa H
    clear H
    have hnb19 := NB419_420.out
    have hnc19 := NB420_419.out
    have q20_0 : w5.cell? ⟨gb419, 0, none⟩ = some (.int .i64 a0_0) := (Qb BK419.out 0).trans rfl
    have q20_1 : w5.cell? ⟨gb419, 1, none⟩ = some (.int .i64 a0_1) := (Qb BK419.out 1).trans rfl
    have q20_2 : w5.cell? ⟨gb419, 2, none⟩ = some (.int .i64 a0_2) := (Qb BK419.out 2).trans rfl
    have q20_3 : w5.cell? ⟨gb419, 3, none⟩ = some (.int .i64 a0_3) := (Qb BK419.out 3).trans rfl
    have q20_4 : w5.cell? ⟨gb419, 4, none⟩ = some (.slice A0_4 l0_4.length c0_4) := (Qb BK419.out 4).trans rfl
    have u20_0 := Qc BK419.out 0
    have u20_1 := Qc BK419.out 1
    have u20_2 := Qc BK419.out 2
    have u20_3 := Qc BK419.out 3
    have u20_4 := Qc BK419.out 4
    have q21_0 : w5.cell? ⟨gb420, 0, none⟩ = some (.int .i64 a1_0) := (Qb BK420.out 0).trans rfl
    have q21_1 : w5.cell? ⟨gb420, 1, none⟩ = some (.int .i64 a1_1) := (Qb BK420.out 1).trans rfl
    have q21_2 : w5.cell? ⟨gb420, 2, none⟩ = some (.int .i64 a1_2) := (Qb BK420.out 2).trans rfl
    have q21_3 : w5.cell? ⟨gb420, 3, none⟩ = some (.int .i64 a1_3) := (Qb BK420.out 3).trans rfl
    have q21_4 : w5.cell? ⟨gb420, 4, none⟩ = some (.slice A1_4 l1_4.length c1_4) := (Qb BK420.out 4).trans rfl
    have u21_0 := Qc BK420.out 0
    have u21_1 := Qc BK420.out 1
    have u21_2 := Qc BK420.out 2
    have u21_3 := Qc BK420.out 3
    have u21_4 := Qc BK420.out 4
    go_wp2
    go_meet
    case rel => exact ⟨_, (true), (by first | rfl | (simp; done) | (simp [*]; done) | (simp; rw [Qx]; simp; done)), H', ⟨by first | omega | exact Zv _⟩, ⟨Ba BK419.out⟩, ⟨Ba BK420.out⟩, ⟨Bb2 HB.out GE419.out GE420.out⟩⟩
  ·rw [if_neg c6] at H
   have c6b0 : (a0_0 == a1_0) = false := beq_eq_false_iff_ne.mpr c6
   have c6b1 : (a0_0 != a1_0) = true := bne_iff_ne.mpr c6
   (first | rw [c6b0] | (simp only [Xk, Xn]; rw [c6b0]) | skip)
   have H' := Qa H
   clear H
   have hnb22 := NB419_420.out
   have hnc22 := NB420_419.out
   have q23_0 : w5.cell? ⟨gb419, 0, none⟩ = some (.int .i64 a0_0) := (Qb BK419.out 0).trans rfl
   have q23_1 : w5.cell? ⟨gb419, 1, none⟩ = some (.int .i64 a0_1) := (Qb BK419.out 1).trans rfl
   have q23_2 : w5.cell? ⟨gb419, 2, none⟩ = some (.int .i64 a0_2) := (Qb BK419.out 2).trans rfl
   have q23_3 : w5.cell? ⟨gb419, 3, none⟩ = some (.int .i64 a0_3) := (Qb BK419.out 3).trans rfl
   have q23_4 : w5.cell? ⟨gb419, 4, none⟩ = some (.slice A0_4 l0_4.length c0_4) := (Qb BK419.out 4).trans rfl
   have u23_0 := Qc BK419.out 0
   have u23_1 := Qc BK419.out 1
   have u23_2 := Qc BK419.out 2
   have u23_3 := Qc BK419.out 3
   have u23_4 := Qc BK419.out 4
   have q24_0 : w5.cell? ⟨gb420, 0, none⟩ = some (.int .i64 a1_0) := (Qb BK420.out 0).trans rfl
   have q24_1 : w5.cell? ⟨gb420, 1, none⟩ = some (.int .i64 a1_1) := (Qb BK420.out 1).trans rfl
   have q24_2 : w5.cell? ⟨gb420, 2, none⟩ = some (.int .i64 a1_2) := (Qb BK420.out 2).trans rfl
   have q24_3 : w5.cell? ⟨gb420, 3, none⟩ = some (.int .i64 a1_3) := (Qb BK420.out 3).trans rfl
   have q24_4 : w5.cell? ⟨gb420, 4, none⟩ = some (.slice A1_4 l1_4.length c1_4) := (Qb BK420.out 4).trans rfl
   have u24_0 := Qc BK420.out 0
   have u24_1 := Qc BK420.out 1
   have u24_2 := Qc BK420.out 2
   have u24_3 := Qc BK420.out 3
   have u24_4 := Qc BK420.out 4
   go_wp2
   go_meet
   case rel => exact ⟨_, (true), (by first | rfl | (simp; done) | (simp [*]; done) | (simp; rw [Qx]; simp; done)), H', ⟨by first | omega | exact Zv _⟩, ⟨Ba BK419.out⟩, ⟨Ba BK420.out⟩, ⟨Bb2 HB.out GE419.out GE420.out⟩⟩
 case rest =>
  clear HC3
  try clear c1
  try clear c2
  try clear p2
  try clear c3
  try clear c6
  try clear c6b0
  try clear c6b1
  try clear c7
  try clear c7b0
  try clear c7b1
  try clear c8
  try clear c8b0
  try clear c8b1
  try clear c9
  try clear c9b0
  try clear c9b1
  try clear c10
  try clear c13
  try clear c16
  try clear c19
  try clear c22
  try clear q11_0
  try clear q11_1
  try clear q11_2
  try clear q11_3
  try clear q11_4
  try clear q12_0
  try clear q12_1
  try clear q12_2
  try clear q12_3
  try clear q12_4
  try clear q14_0
  try clear q14_1
  try clear q14_2
  try clear q14_3
  try clear q14_4
  try clear q15_0
  try clear q15_1
  try clear q15_2
  try clear q15_3
  try clear q15_4
  try clear q17_0
  try clear q17_1
  try clear q17_2
  try clear q17_3
  try clear q17_4
  try clear q18_0
  try clear q18_1
  try clear q18_2
  try clear q18_3
  try clear q18_4
  try clear q20_0
  try clear q20_1
  try clear q20_2
  try clear q20_3
  try clear q20_4
  try clear q21_0
  try clear q21_1
  try clear q21_2
  try clear q21_3
  try clear q21_4
  try clear q23_0
  try clear q23_1
  try clear q23_2
  try clear q23_3
  try clear q23_4
  try clear q24_0
  try clear q24_1
  try clear q24_2
  try clear q24_3
  try clear q24_4
  try clear u11_0
  try clear u11_1
  try clear u11_2
  try clear u11_3
  try clear u11_4
  try clear u12_0
  try clear u12_1
  try clear u12_2
  try clear u12_3
  try clear u12_4
  try clear u14_0
  try clear u14_1
  try clear u14_2
  try clear u14_3
  try clear u14_4
  try clear u15_0
  try clear u15_1
  try clear u15_2
  try clear u15_3
  try clear u15_4
  try clear u17_0
  try clear u17_1
  try clear u17_2
  try clear u17_3
  try clear u17_4
  try clear u18_0
  try clear u18_1
  try clear u18_2
  try clear u18_3
  try clear u18_4
  try clear u20_0
  try clear u20_1
  try clear u20_2
  try clear u20_3
  try clear u20_4
  try clear u21_0
  try clear u21_1
  try clear u21_2
  try clear u21_3
  try clear u21_4
  try clear u23_0
  try clear u23_1
  try clear u23_2
  try clear u23_3
  try clear u23_4
  try clear u24_0
  try clear u24_1
  try clear u24_2
  try clear u24_3
  try clear u24_4
  obtain ⟨kq, x40_2, rfl, HA, HJ2, BK419, BK420, HB⟩ := hcut
  cases kq with
  | zero => exact absurd HA.out (by simp [spec_EqualFormula.j0])
  | succ kj2 =>
   have H := HA.out
   clear HA
   simp only [spec_EqualFormula.j0] at H
   by_cases c25 : x40_2 = true
   ·subst c25
    have H1 : (some false) = some r := by rw [if_pos rfl] at H; exact H
    clear H
    have H := H1
    clear H1
    obtain rfl := Qs H
    go_wp2
    go_ret
    exact ⟨by first | rfl | (simp [errW_none, errW_some] <;> rfl) | (simp [*, errW_none, errW_some] <;> rfl), by repeat (first | (with_reducible first | exact HB.out | apply below_alloc | apply pw_below_drewN | apply below_drew1 | refine below_set ?_ GE419.out | refine below_set ?_ GE420.out) | exact HB.out)⟩
   ·replace c25 := Bool.eq_false_iff.mpr c25
    subst c25
    have H1 : (spec_EqualFormula.l0 kj2 0 a0_0 a0_1 a0_2 a0_3 l0_4 a1_0 a1_1 a1_2 a1_3 l1_4) = some r := by rw [if_neg (show ¬ (false = true) by decide)] at H; exact H
    clear H
    have H := H1
    clear H1
    have H' := Qa H
    clear H
    go_wp2
    go_loopg [5] kj2 (fun kq v5 w' => ∃ (x5_2 : Int), v5 = .int .i64 x5_2 ∧ Aside0 (spec_EqualFormula.l0 kq x5_2 a0_0 a0_1 a0_2 a0_3 l0_4 a1_0 a1_1 a1_2 a1_3 l1_4 = some r) ∧ Aside0 (kq ≤ kj2) ∧ Aside0 (w'.heap[gb419]? = some (.cells #[.int .i64 a0_0, .int .i64 a0_1, .int .i64 a0_2, .int .i64 a0_3, (.slice A0_4 l0_4.length c0_4)] 32 (0, 0))) ∧ Aside0 (w'.heap[gb420]? = some (.cells #[.int .i64 a1_0, .int .i64 a1_1, .int .i64 a1_2, .int .i64 a1_3, (.slice A1_4 l1_4.length c1_4)] 32 (0, 0))) ∧ Aside0 (Below w.heap.size w w'))
    case atStart => exact ⟨(0), (by first | rfl | (simp; done) | (simp [*]; done) | (simp; rw [Qx]; simp; done)), H', ⟨Nat.le_refl _⟩, ⟨Ba BK419.out⟩, ⟨Ba BK420.out⟩, ⟨Bb2 HB.out GE419.out GE420.out⟩⟩
    case round =>
     clear H'
     try clear c1
     try clear c2
     try clear p2
     try clear c3
     try clear c6
     try clear c6b0
     try clear c6b1
     try clear c7
     try clear c7b0
     try clear c7b1
     try clear c8
     try clear c8b0
     try clear c8b1
     try clear c9
     try clear c9b0
     try clear c9b1
     try clear c10
     try clear c13
     try clear c16
     try clear c19
     try clear c22
     try clear c25
     try clear q11_0
     try clear q11_1
     try clear q11_2
     try clear q11_3
     try clear q11_4
     try clear q12_0
     try clear q12_1
     try clear q12_2
     try clear q12_3
     try clear q12_4
     try clear q14_0
     try clear q14_1
     try clear q14_2
     try clear q14_3
     try clear q14_4
     try clear q15_0
     try clear q15_1
     try clear q15_2
     try clear q15_3
     try clear q15_4
     try clear q17_0
     try clear q17_1
     try clear q17_2
     try clear q17_3
     try clear q17_4
     try clear q18_0
     try clear q18_1
     try clear q18_2
     try clear q18_3
     try clear q18_4
     try clear q20_0
     try clear q20_1
     try clear q20_2
     try clear q20_3
     try clear q20_4
     try clear q21_0
     try clear q21_1
     try clear q21_2
     try clear q21_3
     try clear q21_4
     try clear q23_0
     try clear q23_1
     try clear q23_2
     try clear q23_3
     try clear q23_4
     try clear q24_0
     try clear q24_1
     try clear q24_2
     try clear q24_3
     try clear q24_4
     try clear u11_0
     try clear u11_1
     try clear u11_2
     try clear u11_3
     try clear u11_4
     try clear u12_0
     try clear u12_1
     try clear u12_2
     try clear u12_3
     try clear u12_4
     try clear u14_0
     try clear u14_1
     try clear u14_2
     try clear u14_3
     try clear u14_4
     try clear u15_0
     try clear u15_1
     try clear u15_2
     try clear u15_3
     try clear u15_4
     try clear u17_0
     try clear u17_1
     try clear u17_2
     try clear u17_3
     try clear u17_4
     try clear u18_0
     try clear u18_1
     try clear u18_2
     try clear u18_3
     try clear u18_4
     try clear u20_0
     try clear u20_1
     try clear u20_2
     try clear u20_3
     try clear u20_4
     try clear u21_0
     try clear u21_1
     try clear u21_2
     try clear u21_3
     try clear u21_4
     try clear u23_0
     try clear u23_1
     try clear u23_2
     try clear u23_3
     try clear u23_4
     try clear u24_0
     try clear u24_1
     try clear u24_2
     try clear u24_3
     try clear u24_4
     try clear p2
     obtain ⟨x5_2, rfl, HA, HK2, BK419, BK420, HB⟩ := hrel
     cases gk with
     | zero => exact absurd HA.out (by simp [spec_EqualFormula.l0])
     | succ k2 =>
      have H := HA.out
      clear HA
      simp only [spec_EqualFormula.l0] at H
      by_cases c26 : x5_2 < (l0_4.length : Int)
      ·rw [if_pos c26] at H
       have c26b0 : decide (x5_2 < (l0_4.length : Int)) = true := decide_eq_true c26
       clear c26
       by_cases c27 : 0 ≤ x5_2
       ·rw [if_pos c27] at H
        have c27b0 : decide (0 ≤ x5_2) = true := decide_eq_true c27
        clear c27
        by_cases c28 : x5_2 < (l1_4.length : Int)
        ·rw [if_pos c28] at H
         have c28b0 : decide (x5_2 < (l1_4.length : Int)) = true := decide_eq_true c28
         clear c28
         replace H := Option.bind_eq_some_iff.mp H
         obtain ⟨t423, A290, H⟩ := H
         replace H : (if t423 = true then (spec_EqualFormula.l0 k2 (wrap64 (x5_2 + 1)) a0_0 a0_1 a0_2 a0_3 l0_4 a1_0 a1_1 a1_2 a1_3 l1_4) else (some false)) = some r := H
         have A29 := Qa A290
         clear A290
         by_cases c30 : t423 = true
         ·subst c30
          have H1 : (spec_EqualFormula.l0 k2 (wrap64 (x5_2 + 1)) a0_0 a0_1 a0_2 a0_3 l0_4 a1_0 a1_1 a1_2 a1_3 l1_4) = some r := by rw [if_pos rfl] at H; exact H
          clear H
          have H := H1
          clear H1
          have H' := Qa H
          clear H
          have hnb31 := NB419_420.out
          have hnc31 := NB420_419.out
          have q32_0 : wr.cell? ⟨gb419, 0, none⟩ = some (.int .i64 a0_0) := (Qb BK419.out 0).trans rfl
          have q32_1 : wr.cell? ⟨gb419, 1, none⟩ = some (.int .i64 a0_1) := (Qb BK419.out 1).trans rfl
          have q32_2 : wr.cell? ⟨gb419, 2, none⟩ = some (.int .i64 a0_2) := (Qb BK419.out 2).trans rfl
          have q32_3 : wr.cell? ⟨gb419, 3, none⟩ = some (.int .i64 a0_3) := (Qb BK419.out 3).trans rfl
          have q32_4 : wr.cell? ⟨gb419, 4, none⟩ = some (.slice A0_4 l0_4.length c0_4) := (Qb BK419.out 4).trans rfl
          have u32_0 := Qc BK419.out 0
          have u32_1 := Qc BK419.out 1
          have u32_2 := Qc BK419.out 2
          have u32_3 := Qc BK419.out 3
          have u32_4 := Qc BK419.out 4
          try go_wp2
          replace BK419 := Qa (blk_drew BK419.out)
          replace BK420 := Qa (blk_drew BK420.out)
          replace HB := Qa (below_drew1 HB.out)
          have p421 : 0 ≤ (x5_2 : Int) := of_decide_eq_true (by first | (with_reducible assumption) | assumption)
          have q421 : x5_2 < (l0_4.length : Int) := of_decide_eq_true (by first | (with_reducible assumption) | assumption)
          obtain ⟨ad421, A421_4, c421_4, e421, hx421_0, hx421_1, hx421_2, hx421_3, hx421_4, hl421_4, hi421_4⟩ := at_T32 HR0_4.out x5_2 p421 q421
          have hw421_4 := hx421_4
          have hw421_3 := hx421_3
          have hw421_2 := hx421_2
          have hw421_1 := hx421_1
          have hw421_0 := hx421_0
          cases e421
          replace hx421_0 := (HB.out.cell (Qd w _ hx421_0)).trans hx421_0
          replace hx421_1 := (HB.out.cell (Qd w _ hx421_1)).trans hx421_1
          replace hx421_2 := (HB.out.cell (Qd w _ hx421_2)).trans hx421_2
          replace hx421_3 := (HB.out.cell (Qd w _ hx421_3)).trans hx421_3
          replace hx421_4 := (HB.out.cell (Qd w _ hx421_4)).trans hx421_4
          have HR421_4 := Qa hi421_4
          have HC421_4 := Qa hl421_4
          clear hi421_4 hl421_4
          replace p421 := eq_true p421
          replace q421 := eq_true q421
          have p422 : 0 ≤ (x5_2 : Int) := of_decide_eq_true (by first | (with_reducible assumption) | assumption)
          have q422 : x5_2 < (l1_4.length : Int) := of_decide_eq_true (by first | (with_reducible assumption) | assumption)
          obtain ⟨ad422, A422_4, c422_4, e422, hx422_0, hx422_1, hx422_2, hx422_3, hx422_4, hl422_4, hi422_4⟩ := at_T32 HR1_4.out x5_2 p422 q422
          have hw422_4 := hx422_4
          have hw422_3 := hx422_3
          have hw422_2 := hx422_2
          have hw422_1 := hx422_1
          have hw422_0 := hx422_0
          cases e422
          replace hx422_0 := (HB.out.cell (Qd w _ hx422_0)).trans hx422_0
          replace hx422_1 := (HB.out.cell (Qd w _ hx422_1)).trans hx422_1
          replace hx422_2 := (HB.out.cell (Qd w _ hx422_2)).trans hx422_2
          replace hx422_3 := (HB.out.cell (Qd w _ hx422_3)).trans hx422_3
          replace hx422_4 := (HB.out.cell (Qd w _ hx422_4)).trans hx422_4
          have HR422_4 := Qa hi422_4
          have HC422_4 := Qa hl422_4
          clear hi422_4 hl422_4
          replace p422 := eq_true p422
          replace q422 := eq_true q422
          refine start_ (n := 12) (S := fun w' => w'.cell? ⟨gb419, 0, none⟩ = some (.int .i64 a0_0) ∧ w'.cell? ⟨gb419, 1, none⟩ = some (.int .i64 a0_1) ∧ w'.cell? ⟨gb419, 2, none⟩ = some (.int .i64 a0_2) ∧ w'.cell? ⟨gb419, 3, none⟩ = some (.int .i64 a0_3) ∧ w'.cell? ⟨gb419, 4, none⟩ = some (.slice (some ad421) l0_4.length c0_4) ∧ w'.cell? ⟨gb420, 0, none⟩ = some (.int .i64 a1_0) ∧ w'.cell? ⟨gb420, 1, none⟩ = some (.int .i64 a1_1) ∧ w'.cell? ⟨gb420, 2, none⟩ = some (.int .i64 a1_2) ∧ w'.cell? ⟨gb420, 3, none⟩ = some (.int .i64 a1_3) ∧ w'.cell? ⟨gb420, 4, none⟩ = some (.slice (some ad422) l1_4.length c1_4) ∧ w'.cell? (ad421.add ((x5_2).toNat * 5)) = some (.int .i64 ((rd_T32 l0_4 x5_2).f0)) ∧ w'.cell? ⟨(ad421.add ((x5_2).toNat * 5)).block, (ad421.add ((x5_2).toNat * 5)).off + 1, none⟩ = some (.int .i64 ((rd_T32 l0_4 x5_2).f1)) ∧ w'.cell? ⟨(ad421.add ((x5_2).toNat * 5)).block, (ad421.add ((x5_2).toNat * 5)).off + 2, none⟩ = some (.int .i64 ((rd_T32 l0_4 x5_2).f2)) ∧ w'.cell? ⟨(ad421.add ((x5_2).toNat * 5)).block, (ad421.add ((x5_2).toNat * 5)).off + 3, none⟩ = some (.int .i64 ((rd_T32 l0_4 x5_2).f3)) ∧ w'.cell? ⟨(ad421.add ((x5_2).toNat * 5)).block, (ad421.add ((x5_2).toNat * 5)).off + 4, none⟩ = some (.slice A421_4 ((rd_T32 l0_4 x5_2).f4).length c421_4) ∧ w'.cell? (ad422.add ((x5_2).toNat * 5)) = some (.int .i64 ((rd_T32 l1_4 x5_2).f0)) ∧ w'.cell? ⟨(ad422.add ((x5_2).toNat * 5)).block, (ad422.add ((x5_2).toNat * 5)).off + 1, none⟩ = some (.int .i64 ((rd_T32 l1_4 x5_2).f1)) ∧ w'.cell? ⟨(ad422.add ((x5_2).toNat * 5)).block, (ad422.add ((x5_2).toNat * 5)).off + 2, none⟩ = some (.int .i64 ((rd_T32 l1_4 x5_2).f2)) ∧ w'.cell? ⟨(ad422.add ((x5_2).toNat * 5)).block, (ad422.add ((x5_2).toNat * 5)).off + 3, none⟩ = some (.int .i64 ((rd_T32 l1_4 x5_2).f3)) ∧ w'.cell? ⟨(ad422.add ((x5_2).toNat * 5)).block, (ad422.add ((x5_2).toNat * 5)).off + 4, none⟩ = some (.slice A422_4 ((rd_T32 l1_4 x5_2).f4).length c422_4)) (ds := []) #[false, false, false, false, false, false, false, false, false, false, false, false] (by kernel_rfl) rfl rfl ⟨(Qb BK419.out 0).trans rfl, (Qb BK419.out 1).trans rfl, (Qb BK419.out 2).trans rfl, (Qb BK419.out 3).trans rfl, (Qb BK419.out 4).trans rfl, (Qb BK420.out 0).trans rfl, (Qb BK420.out 1).trans rfl, (Qb BK420.out 2).trans rfl, (Qb BK420.out 3).trans rfl, (Qb BK420.out 4).trans rfl, ((HB.out.cell (Qd w _ hw421_0)).trans hw421_0), ((HB.out.cell (Qd w _ hw421_1)).trans hw421_1), ((HB.out.cell (Qd w _ hw421_2)).trans hw421_2), ((HB.out.cell (Qd w _ hw421_3)).trans hw421_3), ((HB.out.cell (Qd w _ hw421_4)).trans hw421_4), ((HB.out.cell (Qd w _ hw422_0)).trans hw422_0), ((HB.out.cell (Qd w _ hw422_1)).trans hw422_1), ((HB.out.cell (Qd w _ hw422_2)).trans hw422_2), ((HB.out.cell (Qd w _ hw422_3)).trans hw422_3), ((HB.out.cell (Qd w _ hw422_4)).trans hw422_4)⟩ (fun hHeld => ?_); refine with_tabW spec_EqualFormula.tab6 spec_EqualFormula.bits6 (fun HT_ HW_ => ?_)
          generalize wr.drew = w33 at BK419 BK420 HB HR421_4 HR422_4 hx421_0 hx421_1 hx421_2 hx421_3 hx421_4 hx422_0 hx422_1 hx422_2 hx422_3 hx422_4 hHeld ⊢
          refine pure_ (i := 0) (N := some 48) (v := ?_) (a' := ?_) #[true, false, false, false, false, false, false, false, false, false, false, false] rfl rfl (any_of HT_.out (by kernel_rfl)) (fun _ _ _ h => h) (Xt ⟨by rfl, ?_⟩) ?_ ?_
          rotate_left
          ·intro w'
           go_simp
           with_reducible rfl
          rotate_left
          ·simp only [Zg, Qe, Qj, Qk, Xk, Xn]
           rfl
          refine pure_ (i := 2) (N := some 50) (v := ?_) (a' := ?_) #[true, false, true, false, false, false, false, false, false, false, false, false] rfl rfl (any_of HT_.out (by kernel_rfl)) (fun _ _ _ h => h) (Xt ⟨by rfl, ?_⟩) ?_ ?_
          rotate_left
          ·intro w'
           go_simp
           with_reducible rfl
          rotate_left
          ·simp only [Zg, Qe, Qj, Qk, Xk, Xn]
           rfl
          refine pure_ (i := 5) (N := some 53) (v := ?_) (a' := ?_) #[true, false, true, false, false, true, false, false, false, false, false, false] rfl rfl (any_of HT_.out (by kernel_rfl)) (fun _ _ _ h => h) (Xt ⟨by rfl, ?_⟩) ?_ ?_
          rotate_left
          ·intro w'
           go_simp
           with_reducible rfl
          rotate_left
          ·simp only [Zg, Qe, Qj, Qk, Xk, Xn]
           rfl
          refine pure_ (i := 7) (N := some 55) (v := ?_) (a' := ?_) #[true, false, true, false, false, true, false, true, false, false, false, false] rfl rfl (any_of HT_.out (by kernel_rfl)) (fun _ _ _ h => h) (Xt ⟨by rfl, ?_⟩) ?_ ?_
          rotate_left
          ·intro w'
           go_simp
           with_reducible rfl
          rotate_left
          ·simp only [Zg, Qe, Qj, Qk, Xk, Xn]
           rfl
          refine take_ (i := 1) (N := some 49) (v := ?_) (a' := ?_) #[true, true, true, false, false, true, false, true, false, false, false, false] rfl rfl (take_ofW HT_.out HW_.out (by kernel_rfl)) (fun _ _ _ h => h) (Xt ⟨by rfl, ?_⟩) hHeld ?_ ?_
          rotate_left
          ·rintro w' ⟨s0, s1, s2, s3, s4, s5, s6, s7, s8, s9, s10, s11, s12, s13, s14, s15, s16, s17, s18, s19⟩
           go_simp
           with_reducible rfl
          rotate_left
          ·simp only [Zg, Qe, Qj, Qk, Xk, Xn]
           rfl
          refine pure_ (i := 3) (N := some 51) (v := ?_) (a' := ?_) #[true, true, true, true, false, true, false, true, false, false, false, false] rfl rfl (any_of HT_.out (by kernel_rfl)) (fun _ _ _ h => h) (Xt ⟨by rfl, ?_⟩) ?_ ?_
          rotate_left
          ·intro w'
           go_simp
           with_reducible rfl
          rotate_left
          ·simp only [Zg, Qe, Qj, Qk, Xk, Xn]
           rfl
          refine take_ (i := 4) (N := some 52) (v := ?_) (a' := ?_) #[true, true, true, true, true, true, false, true, false, false, false, false] rfl rfl (take_ofW HT_.out HW_.out (by kernel_rfl)) (fun _ _ _ h => h) (Xt ⟨by rfl, ?_⟩) hHeld ?_ ?_
          rotate_left
          ·rintro w' ⟨s0, s1, s2, s3, s4, s5, s6, s7, s8, s9, s10, s11, s12, s13, s14, s15, s16, s17, s18, s19⟩
           go_simp
           with_reducible rfl
          rotate_left
          ·simp only [Zg, Qe, Qj, Qk, Xk, Xn]
           rfl
          refine take_ (i := 6) (N := some 54) (v := ?_) (a' := ?_) #[true, true, true, true, true, true, true, true, false, false, false, false] rfl rfl (take_ofW HT_.out HW_.out (by kernel_rfl)) (fun _ _ _ h => h) (Xt ⟨by rfl, ?_⟩) hHeld ?_ ?_
          rotate_left
          ·rintro w' ⟨s0, s1, s2, s3, s4, s5, s6, s7, s8, s9, s10, s11, s12, s13, s14, s15, s16, s17, s18, s19⟩
           go_simp
           with_reducible rfl
          rotate_left
          ·simp only [Zg, Qe, Qj, Qk, Xk, Xn]
           rfl
          refine pure_ (i := 8) (N := some 56) (v := ?_) (a' := ?_) #[true, true, true, true, true, true, true, true, true, false, false, false] rfl rfl (any_of HT_.out (by kernel_rfl)) (fun _ _ _ h => h) (Xt ⟨by rfl, ?_⟩) ?_ ?_
          rotate_left
          ·intro w'
           go_simp
           with_reducible rfl
          rotate_left
          ·simp only [Zg, Qe, Qj, Qk, Xk, Xn]
           rfl
          refine take_ (i := 9) (N := some 57) (v := ?_) (a' := ?_) #[true, true, true, true, true, true, true, true, true, true, false, false] rfl rfl (take_ofW HT_.out HW_.out (by kernel_rfl)) (fun _ _ _ h => h) (Xt ⟨by rfl, ?_⟩) hHeld ?_ ?_
          rotate_left
          ·rintro w' ⟨s0, s1, s2, s3, s4, s5, s6, s7, s8, s9, s10, s11, s12, s13, s14, s15, s16, s17, s18, s19⟩
           go_simp
           with_reducible rfl
          rotate_left
          ·simp only [Zg, Qe, Qj, Qk, Xk, Xn]
           rfl
          refine one_ (i := 10) (N := some 58) #[true, true, true, true, true, true, true, true, true, true, true, false] rfl rfl (one_of HT_.out (by kernel_rfl)) (by decide) (fun K hK => ?_)
          refine goes_ Try.func38 (by kernel_rfl) rfl #[.agg #[.int .i64 ((rd_T32 l0_4 x5_2).f0), .int .i64 ((rd_T32 l0_4 x5_2).f1), .int .i64 ((rd_T32 l0_4 x5_2).f2), .int .i64 ((rd_T32 l0_4 x5_2).f3), .slice A421_4 ((rd_T32 l0_4 x5_2).f4).length c421_4], .agg #[.int .i64 ((rd_T32 l1_4 x5_2).f0), .int .i64 ((rd_T32 l1_4 x5_2).f1), .int .i64 ((rd_T32 l1_4 x5_2).f2), .int .i64 ((rd_T32 l1_4 x5_2).f3), .slice A422_4 ((rd_T32 l1_4 x5_2).f4).length c422_4]] (by rfl) rfl rfl (by (try simp only [List.map_toArray, List.map_cons, List.map_nil]); first | done | rfl | (simp only [List.length_drop, List.length_take]; rfl)) ?_
          with_reducible refine (ih k2 (by have := HJ2.out; have := HK2.out; omega) ((rd_T32 l0_4 x5_2).f0) ((rd_T32 l0_4 x5_2).f1) ((rd_T32 l0_4 x5_2).f2) ((rd_T32 l0_4 x5_2).f3) _ _ ((rd_T32 l0_4 x5_2).f4) ((rd_T32 l1_4 x5_2).f0) ((rd_T32 l1_4 x5_2).f1) ((rd_T32 l1_4 x5_2).f2) ((rd_T32 l1_4 x5_2).f3) _ _ ((rd_T32 l1_4 x5_2).f4) true _ ?side1 ?side2 ?side3 ?side4 A29.out).mono ?_
          (case side1 => repeat (first | exact (Kd.C_below HR421_4.out HB.out) | (with_reducible refine Kd.C_alloc ?_ _) | (with_reducible refine Kd.C_drewN ?_ _) | (with_reducible refine Kd.C_drew ?_)))
          (case side2 => exact HC421_4.out)
          (case side3 => repeat (first | exact (Kd.C_below HR422_4.out HB.out) | (with_reducible refine Kd.C_alloc ?_ _) | (with_reducible refine Kd.C_drewN ?_ _) | (with_reducible refine Kd.C_drew ?_)))
          (case side4 => exact HC422_4.out)
          rintro e w34 ⟨rfl, hb⟩
          refine ⟨_, rfl, ?_⟩
          replace BK419 := Qa (blk_below (g := gb419) (o := .cells #[.int .i64 a0_0, .int .i64 a0_1, .int .i64 a0_2, .int .i64 a0_3, .slice (some ad421) l0_4.length c0_4] 32 (0, 0)) (Ba BK419.out) hb)
          replace BK420 := Qa (blk_below (g := gb420) (o := .cells #[.int .i64 a1_0, .int .i64 a1_1, .int .i64 a1_2, .int .i64 a1_3, .slice (some ad422) l1_4.length c1_4] 32 (0, 0)) (Ba BK420.out) hb)
          replace HB := Qa (below_step (Bb2 HB.out GE419.out GE420.out) hb)
          (try clear hb)
          (try clear hb2)
          (try clear hk)
          (try clear hi)
          refine hK.out _ _ ⟨(Qb BK419.out 0).trans rfl, (Qb BK419.out 1).trans rfl, (Qb BK419.out 2).trans rfl, (Qb BK419.out 3).trans rfl, (Qb BK419.out 4).trans rfl, (Qb BK420.out 0).trans rfl, (Qb BK420.out 1).trans rfl, (Qb BK420.out 2).trans rfl, (Qb BK420.out 3).trans rfl, (Qb BK420.out 4).trans rfl, ((HB.out.cell (Qd w _ hw421_0)).trans hw421_0), ((HB.out.cell (Qd w _ hw421_1)).trans hw421_1), ((HB.out.cell (Qd w _ hw421_2)).trans hw421_2), ((HB.out.cell (Qd w _ hw421_3)).trans hw421_3), ((HB.out.cell (Qd w _ hw421_4)).trans hw421_4), ((HB.out.cell (Qd w _ hw422_0)).trans hw422_0), ((HB.out.cell (Qd w _ hw422_1)).trans hw422_1), ((HB.out.cell (Qd w _ hw422_2)).trans hw422_2), ((HB.out.cell (Qd w _ hw422_3)).trans hw422_3), ((HB.out.cell (Qd w _ hw422_4)).trans hw422_4)⟩ (fun hHeld => ?_)
          clear hK K
          refine norm_ (a' := ?_) ?_ ?_
          rotate_left
          ·show Zg _ (some 58) _ = _
           simp only [Zg, Qe, Qj, Qk, Xk, Xn]
           rfl
          refine pure_ (i := 11) (N := some 59) (v := ?_) (a' := ?_) #[true, true, true, true, true, true, true, true, true, true, true, true] rfl rfl (any_of HT_.out (by kernel_rfl)) (fun _ _ _ h => h) (Xt ⟨by rfl, ?_⟩) ?_ ?_
          rotate_left
          ·intro w'
           go_simp
           with_reducible rfl
          rotate_left
          ·simp only [Zg, Qe, Qj, Qk, Xk, Xn]
           rfl
          refine done_ (done_of HT_.out (by kernel_rfl)) ?_
          try go_wp2
          go_roundg k2
          case measure => have := HJ2.out; have := HK2.out; omega
          case rel => exact ⟨(wrap64 (x5_2 + 1)), (by first | rfl | (simp; done) | (simp [*]; done) | (simp; rw [Qx]; simp; done)), H', ⟨by have := HJ2.out; have := HK2.out; omega⟩, ⟨Ba BK419.out⟩, ⟨Ba BK420.out⟩, ⟨Bb2 HB.out GE419.out GE420.out⟩⟩
         ·replace c30 := Bool.eq_false_iff.mpr c30
          subst c30
          have H1 : (some false) = some r := by rw [if_neg (show ¬ (false = true) by decide)] at H; exact H
          clear H
          have H := H1
          clear H1
          obtain rfl := Qs H
          have hnb35 := NB419_420.out
          have hnc35 := NB420_419.out
          have q36_0 : wr.cell? ⟨gb419, 0, none⟩ = some (.int .i64 a0_0) := (Qb BK419.out 0).trans rfl
          have q36_1 : wr.cell? ⟨gb419, 1, none⟩ = some (.int .i64 a0_1) := (Qb BK419.out 1).trans rfl
          have q36_2 : wr.cell? ⟨gb419, 2, none⟩ = some (.int .i64 a0_2) := (Qb BK419.out 2).trans rfl
          have q36_3 : wr.cell? ⟨gb419, 3, none⟩ = some (.int .i64 a0_3) := (Qb BK419.out 3).trans rfl
          have q36_4 : wr.cell? ⟨gb419, 4, none⟩ = some (.slice A0_4 l0_4.length c0_4) := (Qb BK419.out 4).trans rfl
          have u36_0 := Qc BK419.out 0
          have u36_1 := Qc BK419.out 1
          have u36_2 := Qc BK419.out 2
          have u36_3 := Qc BK419.out 3
          have u36_4 := Qc BK419.out 4
          try go_wp2
          replace BK419 := Qa (blk_drew BK419.out)
          replace BK420 := Qa (blk_drew BK420.out)
          replace HB := Qa (below_drew1 HB.out)
          have p421 : 0 ≤ (x5_2 : Int) := of_decide_eq_true (by first | (with_reducible assumption) | assumption)
          have q421 : x5_2 < (l0_4.length : Int) := of_decide_eq_true (by first | (with_reducible assumption) | assumption)
          obtain ⟨ad421, A421_4, c421_4, e421, hx421_0, hx421_1, hx421_2, hx421_3, hx421_4, hl421_4, hi421_4⟩ := at_T32 HR0_4.out x5_2 p421 q421
          have hw421_4 := hx421_4
          have hw421_3 := hx421_3
          have hw421_2 := hx421_2
          have hw421_1 := hx421_1
          have hw421_0 := hx421_0
          cases e421
          replace hx421_0 := (HB.out.cell (Qd w _ hx421_0)).trans hx421_0
          replace hx421_1 := (HB.out.cell (Qd w _ hx421_1)).trans hx421_1
          replace hx421_2 := (HB.out.cell (Qd w _ hx421_2)).trans hx421_2
          replace hx421_3 := (HB.out.cell (Qd w _ hx421_3)).trans hx421_3
          replace hx421_4 := (HB.out.cell (Qd w _ hx421_4)).trans hx421_4
          have HR421_4 := Qa hi421_4
          have HC421_4 := Qa hl421_4
          clear hi421_4 hl421_4
          replace p421 := eq_true p421
          replace q421 := eq_true q421
          have p422 : 0 ≤ (x5_2 : Int) := of_decide_eq_true (by first | (with_reducible assumption) | assumption)
          have q422 : x5_2 < (l1_4.length : Int) := of_decide_eq_true (by first | (with_reducible assumption) | assumption)
          obtain ⟨ad422, A422_4, c422_4, e422, hx422_0, hx422_1, hx422_2, hx422_3, hx422_4, hl422_4, hi422_4⟩ := at_T32 HR1_4.out x5_2 p422 q422
          have hw422_4 := hx422_4
          have hw422_3 := hx422_3
          have hw422_2 := hx422_2
          have hw422_1 := hx422_1
          have hw422_0 := hx422_0
          cases e422
          replace hx422_0 := (HB.out.cell (Qd w _ hx422_0)).trans hx422_0
          replace hx422_1 := (HB.out.cell (Qd w _ hx422_1)).trans hx422_1
          replace hx422_2 := (HB.out.cell (Qd w _ hx422_2)).trans hx422_2
          replace hx422_3 := (HB.out.cell (Qd w _ hx422_3)).trans hx422_3
          replace hx422_4 := (HB.out.cell (Qd w _ hx422_4)).trans hx422_4
          have HR422_4 := Qa hi422_4
          have HC422_4 := Qa hl422_4
          clear hi422_4 hl422_4
          replace p422 := eq_true p422
          replace q422 := eq_true q422
          refine start_ (n := 12) (S := fun w' => w'.cell? ⟨gb419, 0, none⟩ = some (.int .i64 a0_0) ∧ w'.cell? ⟨gb419, 1, none⟩ = some (.int .i64 a0_1) ∧ w'.cell? ⟨gb419, 2, none⟩ = some (.int .i64 a0_2) ∧ w'.cell? ⟨gb419, 3, none⟩ = some (.int .i64 a0_3) ∧ w'.cell? ⟨gb419, 4, none⟩ = some (.slice (some ad421) l0_4.length c0_4) ∧ w'.cell? ⟨gb420, 0, none⟩ = some (.int .i64 a1_0) ∧ w'.cell? ⟨gb420, 1, none⟩ = some (.int .i64 a1_1) ∧ w'.cell? ⟨gb420, 2, none⟩ = some (.int .i64 a1_2) ∧ w'.cell? ⟨gb420, 3, none⟩ = some (.int .i64 a1_3) ∧ w'.cell? ⟨gb420, 4, none⟩ = some (.slice (some ad422) l1_4.length c1_4) ∧ w'.cell? (ad421.add ((x5_2).toNat * 5)) = some (.int .i64 ((rd_T32 l0_4 x5_2).f0)) ∧ w'.cell? ⟨(ad421.add ((x5_2).toNat * 5)).block, (ad421.add ((x5_2).toNat * 5)).off + 1, none⟩ = some (.int .i64 ((rd_T32 l0_4 x5_2).f1)) ∧ w'.cell? ⟨(ad421.add ((x5_2).toNat * 5)).block, (ad421.add ((x5_2).toNat * 5)).off + 2, none⟩ = some (.int .i64 ((rd_T32 l0_4 x5_2).f2)) ∧ w'.cell? ⟨(ad421.add ((x5_2).toNat * 5)).block, (ad421.add ((x5_2).toNat * 5)).off + 3, none⟩ = some (.int .i64 ((rd_T32 l0_4 x5_2).f3)) ∧ w'.cell? ⟨(ad421.add ((x5_2).toNat * 5)).block, (ad421.add ((x5_2).toNat * 5)).off + 4, none⟩ = some (.slice A421_4 ((rd_T32 l0_4 x5_2).f4).length c421_4) ∧ w'.cell? (ad422.add ((x5_2).toNat * 5)) = some (.int .i64 ((rd_T32 l1_4 x5_2).f0)) ∧ w'.cell? ⟨(ad422.add ((x5_2).toNat * 5)).block, (ad422.add ((x5_2).toNat * 5)).off + 1, none⟩ = some (.int .i64 ((rd_T32 l1_4 x5_2).f1)) ∧ w'.cell? ⟨(ad422.add ((x5_2).toNat * 5)).block, (ad422.add ((x5_2).toNat * 5)).off + 2, none⟩ = some (.int .i64 ((rd_T32 l1_4 x5_2).f2)) ∧ w'.cell? ⟨(ad422.add ((x5_2).toNat * 5)).block, (ad422.add ((x5_2).toNat * 5)).off + 3, none⟩ = some (.int .i64 ((rd_T32 l1_4 x5_2).f3)) ∧ w'.cell? ⟨(ad422.add ((x5_2).toNat * 5)).block, (ad422.add ((x5_2).toNat * 5)).off + 4, none⟩ = some (.slice A422_4 ((rd_T32 l1_4 x5_2).f4).length c422_4)) (ds := []) #[false, false, false, false, false, false, false, false, false, false, false, false] (by kernel_rfl) rfl rfl ⟨(Qb BK419.out 0).trans rfl, (Qb BK419.out 1).trans rfl, (Qb BK419.out 2).trans rfl, (Qb BK419.out 3).trans rfl, (Qb BK419.out 4).trans rfl, (Qb BK420.out 0).trans rfl, (Qb BK420.out 1).trans rfl, (Qb BK420.out 2).trans rfl, (Qb BK420.out 3).trans rfl, (Qb BK420.out 4).trans rfl, ((HB.out.cell (Qd w _ hw421_0)).trans hw421_0), ((HB.out.cell (Qd w _ hw421_1)).trans hw421_1), ((HB.out.cell (Qd w _ hw421_2)).trans hw421_2), ((HB.out.cell (Qd w _ hw421_3)).trans hw421_3), ((HB.out.cell (Qd w _ hw421_4)).trans hw421_4), ((HB.out.cell (Qd w _ hw422_0)).trans hw422_0), ((HB.out.cell (Qd w _ hw422_1)).trans hw422_1), ((HB.out.cell (Qd w _ hw422_2)).trans hw422_2), ((HB.out.cell (Qd w _ hw422_3)).trans hw422_3), ((HB.out.cell (Qd w _ hw422_4)).trans hw422_4)⟩ (fun hHeld => ?_); refine with_tabW spec_EqualFormula.tab6 spec_EqualFormula.bits6 (fun HT_ HW_ => ?_)
          generalize wr.drew = w37 at BK419 BK420 HB HR421_4 HR422_4 hx421_0 hx421_1 hx421_2 hx421_3 hx421_4 hx422_0 hx422_1 hx422_2 hx422_3 hx422_4 hHeld ⊢
          refine pure_ (i := 0) (N := some 48) (v := ?_) (a' := ?_) #[true, false, false, false, false, false, false, false, false, false, false, false] rfl rfl (any_of HT_.out (by kernel_rfl)) (fun _ _ _ h => h) (Xt ⟨by rfl, ?_⟩) ?_ ?_
          rotate_left
          ·intro w'
           go_simp
           with_reducible rfl
          rotate_left
          ·simp only [Zg, Qe, Qj, Qk, Xk, Xn]
           rfl
          refine pure_ (i := 2) (N := some 50) (v := ?_) (a' := ?_) #[true, false, true, false, false, false, false, false, false, false, false, false] rfl rfl (any_of HT_.out (by kernel_rfl)) (fun _ _ _ h => h) (Xt ⟨by rfl, ?_⟩) ?_ ?_
          rotate_left
          ·intro w'
           go_simp
           with_reducible rfl
          rotate_left
          ·simp only [Zg, Qe, Qj, Qk, Xk, Xn]
           rfl
          refine pure_ (i := 5) (N := some 53) (v := ?_) (a' := ?_) #[true, false, true, false, false, true, false, false, false, false, false, false] rfl rfl (any_of HT_.out (by kernel_rfl)) (fun _ _ _ h => h) (Xt ⟨by rfl, ?_⟩) ?_ ?_
          rotate_left
          ·intro w'
           go_simp
           with_reducible rfl
          rotate_left
          ·simp only [Zg, Qe, Qj, Qk, Xk, Xn]
           rfl
          refine pure_ (i := 7) (N := some 55) (v := ?_) (a' := ?_) #[true, false, true, false, false, true, false, true, false, false, false, false] rfl rfl (any_of HT_.out (by kernel_rfl)) (fun _ _ _ h => h) (Xt ⟨by rfl, ?_⟩) ?_ ?_
          rotate_left
          ·intro w'
           go_simp
           with_reducible rfl
          rotate_left
          ·simp only [Zg, Qe, Qj, Qk, Xk, Xn]
           rfl
          refine take_ (i := 1) (N := some 49) (v := ?_) (a' := ?_) #[true, true, true, false, false, true, false, true, false, false, false, false] rfl rfl (take_ofW HT_.out HW_.out (by kernel_rfl)) (fun _ _ _ h => h) (Xt ⟨by rfl, ?_⟩) hHeld ?_ ?_
          rotate_left
          ·rintro w' ⟨s0, s1, s2, s3, s4, s5, s6, s7, s8, s9, s10, s11, s12, s13, s14, s15, s16, s17, s18, s19⟩
           go_simp
           with_reducible rfl
          rotate_left
          ·simp only [Zg, Qe, Qj, Qk, Xk, Xn]
           rfl
          refine pure_ (i := 3) (N := some 51) (v := ?_) (a' := ?_) #[true, true, true, true, false, true, false, true, false, false, false, false] rfl rfl (any_of HT_.out (by kernel_rfl)) (fun _ _ _ h => h) (Xt ⟨by rfl, ?_⟩) ?_ ?_
          rotate_left
          ·intro w'
           go_simp
           with_reducible rfl
          rotate_left
          ·simp only [Zg, Qe, Qj, Qk, Xk, Xn]
           rfl
          refine take_ (i := 4) (N := some 52) (v := ?_) (a' := ?_) #[true, true, true, true, true, true, false, true, false, false, false, false] rfl rfl (take_ofW HT_.out HW_.out (by kernel_rfl)) (fun _ _ _ h => h) (Xt ⟨by rfl, ?_⟩) hHeld ?_ ?_
          rotate_left
          ·rintro w' ⟨s0, s1, s2, s3, s4, s5, s6, s7, s8, s9, s10, s11, s12, s13, s14, s15, s16, s17, s18, s19⟩
           go_simp
           with_reducible rfl
          rotate_left
          ·simp only [Zg, Qe, Qj, Qk, Xk, Xn]
           rfl
          refine take_ (i := 6) (N := some 54) (v := ?_) (a' := ?_) #[true, true, true, true, true, true, true, true, false, false, false, false] rfl rfl (take_ofW HT_.out HW_.out (by kernel_rfl)) (fun _ _ _ h => h) (Xt ⟨by rfl, ?_⟩) hHeld ?_ ?_
          rotate_left
          ·rintro w' ⟨s0, s1, s2, s3, s4, s5, s6, s7, s8, s9, s10, s11, s12, s13, s14, s15, s16, s17, s18, s19⟩
           go_simp
           with_reducible rfl
          rotate_left
          ·simp only [Zg, Qe, Qj, Qk, Xk, Xn]
           rfl
          refine pure_ (i := 8) (N := some 56) (v := ?_) (a' := ?_) #[true, true, true, true, true, true, true, true, true, false, false, false] rfl rfl (any_of HT_.out (by kernel_rfl)) (fun _ _ _ h => h) (Xt ⟨by rfl, ?_⟩) ?_ ?_
          rotate_left
          ·intro w'
           go_simp
           with_reducible rfl
          rotate_left
          ·simp only [Zg, Qe, Qj, Qk, Xk, Xn]
           rfl
          refine take_ (i := 9) (N := some 57) (v := ?_) (a' := ?_) #[true, true, true, true, true, true, true, true, true, true, false, false] rfl rfl (take_ofW HT_.out HW_.out (by kernel_rfl)) (fun _ _ _ h => h) (Xt ⟨by rfl, ?_⟩) hHeld ?_ ?_
          rotate_left
          ·rintro w' ⟨s0, s1, s2, s3, s4, s5, s6, s7, s8, s9, s10, s11, s12, s13, s14, s15, s16, s17, s18, s19⟩
           go_simp
           with_reducible rfl
          rotate_left
          ·simp only [Zg, Qe, Qj, Qk, Xk, Xn]
           rfl
          refine one_ (i := 10) (N := some 58) #[true, true, true, true, true, true, true, true, true, true, true, false] rfl rfl (one_of HT_.out (by kernel_rfl)) (by decide) (fun K hK => ?_)
          refine goes_ Try.func38 (by kernel_rfl) rfl #[.agg #[.int .i64 ((rd_T32 l0_4 x5_2).f0), .int .i64 ((rd_T32 l0_4 x5_2).f1), .int .i64 ((rd_T32 l0_4 x5_2).f2), .int .i64 ((rd_T32 l0_4 x5_2).f3), .slice A421_4 ((rd_T32 l0_4 x5_2).f4).length c421_4], .agg #[.int .i64 ((rd_T32 l1_4 x5_2).f0), .int .i64 ((rd_T32 l1_4 x5_2).f1), .int .i64 ((rd_T32 l1_4 x5_2).f2), .int .i64 ((rd_T32 l1_4 x5_2).f3), .slice A422_4 ((rd_T32 l1_4 x5_2).f4).length c422_4]] (by rfl) rfl rfl (by (try simp only [List.map_toArray, List.map_cons, List.map_nil]); first | done | rfl | (simp only [List.length_drop, List.length_take]; rfl)) ?_
          with_reducible refine (ih k2 (by have := HJ2.out; have := HK2.out; omega) ((rd_T32 l0_4 x5_2).f0) ((rd_T32 l0_4 x5_2).f1) ((rd_T32 l0_4 x5_2).f2) ((rd_T32 l0_4 x5_2).f3) _ _ ((rd_T32 l0_4 x5_2).f4) ((rd_T32 l1_4 x5_2).f0) ((rd_T32 l1_4 x5_2).f1) ((rd_T32 l1_4 x5_2).f2) ((rd_T32 l1_4 x5_2).f3) _ _ ((rd_T32 l1_4 x5_2).f4) false _ ?side1 ?side2 ?side3 ?side4 A29.out).mono ?_
          (case side1 => repeat (first | exact (Kd.C_below HR421_4.out HB.out) | (with_reducible refine Kd.C_alloc ?_ _) | (with_reducible refine Kd.C_drewN ?_ _) | (with_reducible refine Kd.C_drew ?_)))
          (case side2 => exact HC421_4.out)
          (case side3 => repeat (first | exact (Kd.C_below HR422_4.out HB.out) | (with_reducible refine Kd.C_alloc ?_ _) | (with_reducible refine Kd.C_drewN ?_ _) | (with_reducible refine Kd.C_drew ?_)))
          (case side4 => exact HC422_4.out)
          rintro e w38 ⟨rfl, hb⟩
          refine ⟨_, rfl, ?_⟩
          replace BK419 := Qa (blk_below (g := gb419) (o := .cells #[.int .i64 a0_0, .int .i64 a0_1, .int .i64 a0_2, .int .i64 a0_3, .slice (some ad421) l0_4.length c0_4] 32 (0, 0)) (Ba BK419.out) hb)
          replace BK420 := Qa (blk_below (g := gb420) (o := .cells #[.int .i64 a1_0, .int .i64 a1_1, .int .i64 a1_2, .int .i64 a1_3, .slice (some ad422) l1_4.length c1_4] 32 (0, 0)) (Ba BK420.out) hb)
          replace HB := Qa (below_step (Bb2 HB.out GE419.out GE420.out) hb)
          (try clear hb)
          (try clear hb2)
          (try clear hk)
          (try clear hi)
          refine hK.out _ _ ⟨(Qb BK419.out 0).trans rfl, (Qb BK419.out 1).trans rfl, (Qb BK419.out 2).trans rfl, (Qb BK419.out 3).trans rfl, (Qb BK419.out 4).trans rfl, (Qb BK420.out 0).trans rfl, (Qb BK420.out 1).trans rfl, (Qb BK420.out 2).trans rfl, (Qb BK420.out 3).trans rfl, (Qb BK420.out 4).trans rfl, ((HB.out.cell (Qd w _ hw421_0)).trans hw421_0), ((HB.out.cell (Qd w _ hw421_1)).trans hw421_1), ((HB.out.cell (Qd w _ hw421_2)).trans hw421_2), ((HB.out.cell (Qd w _ hw421_3)).trans hw421_3), ((HB.out.cell (Qd w _ hw421_4)).trans hw421_4), ((HB.out.cell (Qd w _ hw422_0)).trans hw422_0), ((HB.out.cell (Qd w _ hw422_1)).trans hw422_1), ((HB.out.cell (Qd w _ hw422_2)).trans hw422_2), ((HB.out.cell (Qd w _ hw422_3)).trans hw422_3), ((HB.out.cell (Qd w _ hw422_4)).trans hw422_4)⟩ (fun hHeld => ?_)
          clear hK K
          refine norm_ (a' := ?_) ?_ ?_
          rotate_left
          ·show Zg _ (some 58) _ = _
           simp only [Zg, Qe, Qj, Qk, Xk, Xn]
           rfl
          refine pure_ (i := 11) (N := some 59) (v := ?_) (a' := ?_) #[true, true, true, true, true, true, true, true, true, true, true, true] rfl rfl (any_of HT_.out (by kernel_rfl)) (fun _ _ _ h => h) (Xt ⟨by rfl, ?_⟩) ?_ ?_
          rotate_left
          ·intro w'
           go_simp
           with_reducible rfl
          rotate_left
          ·simp only [Zg, Qe, Qj, Qk, Xk, Xn]
           rfl
          refine done_ (done_of HT_.out (by kernel_rfl)) ?_
          try go_wp2
          go_ret
          exact ⟨by first | rfl | (simp [errW_none, errW_some] <;> rfl) | (simp [*, errW_none, errW_some] <;> rfl), by repeat (first | (with_reducible first | exact HB.out | apply below_alloc | apply pw_below_drewN | apply below_drew1 | refine below_set ?_ GE419.out | refine below_set ?_ GE420.out) | exact HB.out)⟩
        ·rw [if_neg c28] at H
         exact absurd H (by simp)
       ·rw [if_neg c27] at H
        exact absurd H (by simp)
      ·rw [if_neg c26] at H
       have c26b0 : decide (x5_2 < (l0_4.length : Int)) = false := decide_eq_false c26
       clear c26
       obtain rfl := Qs H
       have hnb39 := NB419_420.out
       have hnc39 := NB420_419.out
       have q40_0 : wr.cell? ⟨gb419, 0, none⟩ = some (.int .i64 a0_0) := (Qb BK419.out 0).trans rfl
       have q40_1 : wr.cell? ⟨gb419, 1, none⟩ = some (.int .i64 a0_1) := (Qb BK419.out 1).trans rfl
       have q40_2 : wr.cell? ⟨gb419, 2, none⟩ = some (.int .i64 a0_2) := (Qb BK419.out 2).trans rfl
       have q40_3 : wr.cell? ⟨gb419, 3, none⟩ = some (.int .i64 a0_3) := (Qb BK419.out 3).trans rfl
       have q40_4 : wr.cell? ⟨gb419, 4, none⟩ = some (.slice A0_4 l0_4.length c0_4) := (Qb BK419.out 4).trans rfl
       have u40_0 := Qc BK419.out 0
       have u40_1 := Qc BK419.out 1
       have u40_2 := Qc BK419.out 2
       have u40_3 := Qc BK419.out 3
       have u40_4 := Qc BK419.out 4
       go_wp2
       go_ret
       exact ⟨by first | rfl | (simp [errW_none, errW_some] <;> rfl) | (simp [*, errW_none, errW_some] <;> rfl), by repeat (first | (with_reducible first | exact HB.out | apply below_alloc | apply pw_below_drewN | apply below_drew1 | refine below_set ?_ GE419.out | refine below_set ?_ GE420.out) | exact HB.out)⟩
end Go.Proofs.Ytoljagpjejpmpaa.PFnFormulas
