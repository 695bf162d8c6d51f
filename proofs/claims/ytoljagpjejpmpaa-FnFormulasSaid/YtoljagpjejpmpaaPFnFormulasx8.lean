-- Laid by wip/tools/xprint.py (a program of this session over the kit's print). Not trusted: Lean checks it.
import Derived.Test.YtoljagpjejpmpaaXAuto
import Derived.Test.YtoljagpjejpmpaaPFnFormulasx0
import Derived.Test.YtoljagpjejpmpaaPFnFormulasx3
import Derived.Test.YtoljagpjejpmpaaPFnFormulasx4
import Derived.Test.YtoljagpjejpmpaaPFnFormulasx6
import Derived.Test.YtoljagpjejpmpaaPFnFormulasx7
namespace Go.Proofs.Ytoljagpjejpmpaa.PFnFormulas
open Go.RowKit Go.Proofs.YtoljagpjejpmpaaW.PrintWords Go.Proofs.YtoljagpjejpmpaaW.PrintLast Go.Proofs.YtoljagpjejpmpaaW.PrintMore
open Go.Proofs.YtoljagpjejpmpaaW.PrintWords.Aside0 renaming mk → Qa
open Go.Proofs.YtoljagpjejpmpaaW.PrintWords renaming blk_cell → Qb, blk_frozen → Qc, blk_alloc → Qf, blk_drewN → Qg, blk_drew → Qh, below_set → Ql, pw_below_drewN → Qp, blk_put → Qr, below_drew1 → Qu, below_size → Qv, cell_far → Qw, blk_below → Qy, below_alloc → Za, gate_callee → Zf
open List renaming setIfInBounds_toArray → Qe, set_cons_zero → Qj, set_cons_succ → Qk, map_toArray → Qm, length_drop → Qn, length_take → Qo, map_cons → Qt, map_nil → Zb
open Option renaming bind_eq_some_iff → Qi
open Option.some renaming inj → Qs, injEq → Xj
open Bool renaming eq_iff_iff → Qx, eq_false_iff → Xe
open Go.Act renaming put → Zg
open Go.Proofs.YtoljagpjejpmpaaW.PrintWords.Kd renaming R_far → Zj, R_mono → Zq
open Nat renaming ne_of_lt → Zp, ne_of_gt → Zy
open Go.Proofs.YtoljagpjejpmpaaW.PrintWords.KeepBut renaming blk → Zr
open Go.Proofs.Try renaming underlying32 → Zt
open Go.Proofs.YtoljagpjejpmpaaW.PrintWords.Drawn0 renaming refl → Xf, step → Xg
attribute [local go_sem] max2_int min2_int max_two min_two max_three min_three max_four min_four
set_option linter.unusedVariables false
set_option linter.unusedSimpArgs false
def spec_DrawEqualFormula.f (k : Nat) (l0 : List Int) : Option (Int × Int × Int × Int × (List (S32)) × Int × Int × Int × Int × (List (S32))) := (spec_l1New.f k l0).bind fun bt341 => ((spec_l10Bent.f k bt341.1 bt341.2.1 bt341.2.2).bind fun bt345 => ((spec_l1Once.f bt341.1 bt345.2.2.2.2.2.1 bt345.2.2.2.2.2.2 2).bind fun bt355 => (if bt355.1 = true then ((spec_l10Copy.f k bt345.1 bt345.2.1 bt345.2.2.1 bt345.2.2.2.1 bt345.2.2.2.2.1).bind fun bt358 => (some (bt345.1, bt345.2.1, bt345.2.2.1, bt345.2.2.2.1, bt345.2.2.2.2.1, bt358.1, bt358.2.1, bt358.2.2.1, bt358.2.2.2.1, bt358.2.2.2.2))) else ((spec_l10Bent.f k bt341.1 bt355.2.1 bt355.2.2).bind fun bt365 => (some (bt345.1, bt345.2.1, bt345.2.2.1, bt345.2.2.2.1, bt345.2.2.2.2.1, bt365.1, bt365.2.1, bt365.2.2.1, bt365.2.2.2.1, bt365.2.2.2.2.1))))))
theorem spec_DrawEqualFormula.mono : ∀ a0 k, LeO (spec_DrawEqualFormula.f k a0) (spec_DrawEqualFormula.f (k + 1) a0) := by
 intro a0 k
 unfold spec_DrawEqualFormula.f
 repeat' first
   | (with_reducible exact spec_l10Bent.mono _ _ _ _)
   | (with_reducible exact spec_l10Copy.mono _ _ _ _ _ _)
   | (with_reducible exact spec_l1New.mono _ _)
   | (with_reducible exact LeO.refl _)
   | (with_reducible exact LeO.none _)
   | (with_reducible refine LeO.ite ?_ ?_)
   | (with_reducible refine LeO.bind ?_ (fun _ => ?_))
   | exact spec_l10Bent.mono _ _ _ _
   | exact spec_l10Copy.mono _ _ _ _ _ _
   | exact spec_l1New.mono _ _
   | exact LeO.none _
   | refine LeO.ite ?_ ?_
   | refine LeO.bind ?_ (fun _ => ?_)
set_option maxHeartbeats 8000000 in
set_option maxRecDepth 100000 in
theorem spec_DrawEqualFormula.calls (k : Nat) (A0 : Option Addr) (c0 : Nat) (l0 : List Int) (r1 : Int) (r2 : Int) (r3 : Int) (r4 : Int) (r5 : List (S32)) (r6 : Int) (r7 : Int) (r8 : Int) (r9 : Int) (r10 : List (S32)) (w : World) (hr0 : Kd.C (Kd.int .u8) w A0 l0.length l0) (hc0 : l0.length ≤ c0) (h : spec_DrawEqualFormula.f k l0 = some (r1, r2, r3, r4, r5, r6, r7, r8, r9, r10)) :
  Calls Try.prog 33 #[.slice A0 l0.length c0] w fun e w' => ∃ v4_ v9_ : Value, e = .returned (.tuple #[.agg #[.int .i64 r1, .int .i64 r2, .int .i64 r3, .int .i64 r4, v4_], .agg #[.int .i64 r6, .int .i64 r7, .int .i64 r8, .int .i64 r9, v9_]]) ∧ Kd.R k32 32 w' w.heap.size (fun k_ => some k_ ≠ (v9_ : Value).ownBlock) v4_ r5 ∧ Kd.R k32 32 w' w.heap.size (fun k_ => some k_ ≠ (v4_ : Value).ownBlock) v9_ r10 ∧ Below w.heap.size w w' := by
 have hu32 := Zt
 have HR0 := Qa hr0
 have HC0 := Qa hc0
 clear hr0 hc0
 have HB := Qa (Below.refl w.heap.size w)
 have H : ((spec_l1New.f k l0).bind fun bt341 => ((spec_l10Bent.f k bt341.1 bt341.2.1 bt341.2.2).bind fun bt345 => ((spec_l1Once.f bt341.1 bt345.2.2.2.2.2.1 bt345.2.2.2.2.2.2 2).bind fun bt355 => (if bt355.1 = true then ((spec_l10Copy.f k bt345.1 bt345.2.1 bt345.2.2.1 bt345.2.2.2.1 bt345.2.2.2.2.1).bind fun bt358 => (some (bt345.1, bt345.2.1, bt345.2.2.1, bt345.2.2.2.1, bt345.2.2.2.2.1, bt358.1, bt358.2.1, bt358.2.2.1, bt358.2.2.2.1, bt358.2.2.2.2))) else ((spec_l10Bent.f k bt341.1 bt355.2.1 bt355.2.2).bind fun bt365 => (some (bt345.1, bt345.2.1, bt345.2.2.1, bt345.2.2.2.1, bt345.2.2.2.2.1, bt365.1, bt365.2.1, bt365.2.2.1, bt365.2.2.2.1, bt365.2.2.2.2.1))))))) = some (r1, r2, r3, r4, r5, r6, r7, r8, r9, r10) := h
 clear h
 replace H := Qi.mp H
 obtain ⟨⟨t341, t342, t343⟩, A20, H⟩ := H
 replace H : ((spec_l10Bent.f k t341 t342 t343).bind fun bt345 => ((spec_l1Once.f t341 bt345.2.2.2.2.2.1 bt345.2.2.2.2.2.2 2).bind fun bt355 => (if bt355.1 = true then ((spec_l10Copy.f k bt345.1 bt345.2.1 bt345.2.2.1 bt345.2.2.2.1 bt345.2.2.2.2.1).bind fun bt358 => (some (bt345.1, bt345.2.1, bt345.2.2.1, bt345.2.2.2.1, bt345.2.2.2.2.1, bt358.1, bt358.2.1, bt358.2.2.1, bt358.2.2.2.1, bt358.2.2.2.2))) else ((spec_l10Bent.f k t341 bt355.2.1 bt355.2.2).bind fun bt365 => (some (bt345.1, bt345.2.1, bt345.2.2.1, bt345.2.2.2.1, bt345.2.2.2.2.1, bt365.1, bt365.2.1, bt365.2.2.1, bt365.2.2.2.1, bt365.2.2.2.2.1)))))) = some (r1, r2, r3, r4, r5, r6, r7, r8, r9, r10) := H
 have A2 := Qa A20
 clear A20
 replace H := Qi.mp H
 obtain ⟨⟨t345, t346, t347, t348, t349, t352, t353⟩, A30, H⟩ := H
 replace H : ((spec_l1Once.f t341 t352 t353 2).bind fun bt355 => (if bt355.1 = true then ((spec_l10Copy.f k t345 t346 t347 t348 t349).bind fun bt358 => (some (t345, t346, t347, t348, t349, bt358.1, bt358.2.1, bt358.2.2.1, bt358.2.2.2.1, bt358.2.2.2.2))) else ((spec_l10Bent.f k t341 bt355.2.1 bt355.2.2).bind fun bt365 => (some (t345, t346, t347, t348, t349, bt365.1, bt365.2.1, bt365.2.2.1, bt365.2.2.2.1, bt365.2.2.2.2.1))))) = some (r1, r2, r3, r4, r5, r6, r7, r8, r9, r10) := H
 have A3 := Qa A30
 clear A30
 replace H := Qi.mp H
 obtain ⟨⟨t355, t356, t357⟩, A40, H⟩ := H
 replace H : (if t355 = true then ((spec_l10Copy.f k t345 t346 t347 t348 t349).bind fun bt358 => (some (t345, t346, t347, t348, t349, bt358.1, bt358.2.1, bt358.2.2.1, bt358.2.2.2.1, bt358.2.2.2.2))) else ((spec_l10Bent.f k t341 t356 t357).bind fun bt365 => (some (t345, t346, t347, t348, t349, bt365.1, bt365.2.1, bt365.2.2.1, bt365.2.2.2.1, bt365.2.2.2.2.1)))) = some (r1, r2, r3, r4, r5, r6, r7, r8, r9, r10) := H
 have A4 := Qa A40
 clear A40
 by_cases c5 : t355 = true
 ·subst c5
  have H1 : ((spec_l10Copy.f k t345 t346 t347 t348 t349).bind fun bt358 => (some (t345, t346, t347, t348, t349, bt358.1, bt358.2.1, bt358.2.2.1, bt358.2.2.2.1, bt358.2.2.2.2))) = some (r1, r2, r3, r4, r5, r6, r7, r8, r9, r10) := by rw [if_pos rfl] at H; exact H
  clear H
  have H := H1
  clear H1
  replace H := Qi.mp H
  obtain ⟨⟨t358, t359, t360, t361, t362⟩, A60, H⟩ := H
  replace H : (some (t345, t346, t347, t348, t349, t358, t359, t360, t361, t362)) = some (r1, r2, r3, r4, r5, r6, r7, r8, r9, r10) := H
  have A6 := Qa A60
  clear A60
  simp only [Xj, Prod.mk.injEq] at H
  obtain ⟨rfl, rfl, rfl, rfl, rfl, rfl, rfl, rfl, rfl, rfl⟩ := H
  go_enter Try.func33, Try.ntmps33
  try go_wp2_with (first | ((with_reducible refine gate_dst (N := 2) rfl ?_); refine box_event ?hg (N := 2) ?hd (cs := #[.int .i64 0, .int .i64 0, .int .i64 0, .int .i64 0, .slice none 0 0]) (t := 32) ?hr ?_; (case hd => rfl); (case hg => rfl); (case hr => first | (go_simp; done) | (go_simp; rfl)); intro gb339 hg w7 hbox hb; have BK339 := Qa (hbox); have GW339 := Qa ((by rw [hg]; exact (Qv (Bb0 HB.out)) : w.heap.size ≤ gb339)); have GE339 := Qa ((by rw [hg]; exact (Qv (Bb0 HB.out)) : w.heap.size ≤ gb339)); replace HB := Qa (below_step (Bb0 HB.out) hb); clear hb hbox hg) | ((with_reducible refine gate_dst (N := 3) rfl ?_); refine box_event ?hg (N := 3) ?hd (cs := #[.int .i64 0, .int .i64 0, .int .i64 0, .int .i64 0, .slice none 0 0]) (t := 32) ?hr ?_; (case hd => rfl); (case hg => rfl); (case hr => first | (go_simp; done) | (go_simp; rfl)); intro gb340 hg w8 hbox hb; have BK340 := Qa (hbox); have GW340 := Qa ((by rw [hg]; exact (Qv (Bb1 HB.out GE339.out)) : w.heap.size ≤ gb340)); have GE340 := Qa ((by rw [hg]; exact (Qv (Bb1 HB.out GE339.out)) : w.heap.size ≤ gb340)); replace HB := Qa (below_step (Bb1 HB.out GE339.out) hb); have NB339_340 := Qa ((by rw [hg]; exact Zp (blk_lt (g := gb339) (o := .cells #[.int .i64 0, .int .i64 0, .int .i64 0, .int .i64 0, .slice none 0 0] 32 (0, 0)) (Ba BK339.out)) : gb339 ≠ gb340)); have NB340_339 := Qa ((by rw [hg]; exact Zy (blk_lt (g := gb339) (o := .cells #[.int .i64 0, .int .i64 0, .int .i64 0, .int .i64 0, .slice none 0 0] 32 (0, 0)) (Ba BK339.out)) : gb340 ≠ gb339)); replace BK339 := Qa (Qy (g := gb339) (o := .cells #[.int .i64 0, .int .i64 0, .int .i64 0, .int .i64 0, .slice none 0 0] 32 (0, 0)) (Ba BK339.out) hb); clear hb hbox hg) | ((with_reducible refine Zf (f := 51) rfl ?_); refine goesL_ (some 7) rfl rfl Try.func51 (by kernel_rfl) rfl #[.slice A0 l0.length c0] rfl (by (try simp only [Qm, Qt, Zb]); first | done | rfl | (simp only [Qn, Qo]; rfl)) ?_; (with_reducible refine (spec_l1New.calls k _ _ l0 t341 t342 t343 w _ ?side1 ?side2 ?side3 A2.out).mono ?_); (case side1 => repeat (first | (with_reducible first | exact HB.out | apply Za | apply Qp | apply Qu | refine Ql ?_ GE339.out | refine Ql ?_ GE340.out) | exact HB.out)); (case side2 => exact HR0.out); (case side3 => exact HC0.out); rintro e w9 ⟨g344, rfl, hi, hb, hb2⟩; refine ⟨_, rfl, ?_⟩; replace HB := Qa (hb); have HI344 := Qa (hi); have NB344_339 := Qa (IsS99.ne_blk hi (Qy (g := gb339) (o := .cells #[.int .i64 0, .int .i64 0, .int .i64 0, .int .i64 0, .slice none 0 0] 32 (0, 0)) (Ba BK339.out) hb2) (by decide)); have NB339_344 := Qa (Ne.symm (IsS99.ne_blk hi (Qy (g := gb339) (o := .cells #[.int .i64 0, .int .i64 0, .int .i64 0, .int .i64 0, .slice none 0 0] 32 (0, 0)) (Ba BK339.out) hb2) (by decide))); replace BK339 := Qa (Qy (g := gb339) (o := .cells #[.int .i64 0, .int .i64 0, .int .i64 0, .int .i64 0, .slice none 0 0] 32 (0, 0)) (Ba BK339.out) hb2); have NB344_340 := Qa (IsS99.ne_blk hi (Qy (g := gb340) (o := .cells #[.int .i64 0, .int .i64 0, .int .i64 0, .int .i64 0, .slice none 0 0] 32 (0, 0)) (Ba BK340.out) hb2) (by decide)); have NB340_344 := Qa (Ne.symm (IsS99.ne_blk hi (Qy (g := gb340) (o := .cells #[.int .i64 0, .int .i64 0, .int .i64 0, .int .i64 0, .slice none 0 0] 32 (0, 0)) (Ba BK340.out) hb2) (by decide))); replace BK340 := Qa (Qy (g := gb340) (o := .cells #[.int .i64 0, .int .i64 0, .int .i64 0, .int .i64 0, .slice none 0 0] 32 (0, 0)) (Ba BK340.out) hb2); (try clear hb); (try clear hb2); (try clear hk); (try clear hi)) | ((with_reducible refine Zf (f := 50) rfl ?_); refine goesL_ (some 9) rfl rfl Try.func50 (by kernel_rfl) rfl #[.pointer (some ⟨g344, 0, none⟩)] rfl (by (try simp only [Qm, Qt, Zb]); first | done | rfl | (simp only [Qn, Qo]; rfl)) ?_; (with_reducible refine (spec_l10Bent.calls k g344 t341 t342 t343 t345 t346 t347 t348 t349 t352 t353 w _ ?side1 ?side2 A3.out).mono ?_); (case side1 => repeat (first | (with_reducible first | exact HI344.out | apply IsS99.alloc | apply IsS99.drewN | apply IsS99.drew | apply IsS99.set_1 | apply IsS99.set_2 | refine IsS99.far ?_ NB344_339.out _ | refine IsS99.far ?_ NB344_340.out _) | exact HI344.out)); (case side2 => repeat (first | (with_reducible first | exact HB.out | apply Za | apply Qp | apply Qu | refine Ql ?_ (IsS99.ge HI344.out) | refine Ql ?_ GE339.out | refine Ql ?_ GE340.out) | exact HB.out)); rintro e w10 ⟨v350, rfl, ho0, hi, hb, hk⟩; refine ⟨_, rfl, ?_⟩; have HO351 := Qa (Kd.R_lower (Kd.R_newB (Kd.R_newB ho0 (g := gb339) (o := .cells #[.int .i64 0, .int .i64 0, .int .i64 0, .int .i64 0, .slice none 0 0] 32 (0, 0)) (Ba BK339.out)) (g := gb340) (o := .cells #[.int .i64 0, .int .i64 0, .int .i64 0, .int .i64 0, .slice none 0 0] 32 (0, 0)) (Ba BK340.out)) (Qv (Bb3 HB.out (IsS99.ge HI344.out) GE339.out GE340.out))); replace BK339 := Qa (Zr hk (g' := gb339) (o := .cells #[.int .i64 0, .int .i64 0, .int .i64 0, .int .i64 0, .slice none 0 0] 32 (0, 0)) (Ba BK339.out) NB339_344.out (by simp)); replace BK340 := Qa (Zr hk (g' := gb340) (o := .cells #[.int .i64 0, .int .i64 0, .int .i64 0, .int .i64 0, .slice none 0 0] 32 (0, 0)) (Ba BK340.out) NB340_344.out (by simp)); replace HB := Qa (hb); replace HI344 := Qa (hi); (try clear hb); (try clear hb2); (try clear hk); (try clear hi); (try clear ho0)) | ((with_reducible refine gate_dst (N := 5) rfl ?_); refine box_event ?hg (N := 5) ?hd (cs := #[.int .i64 0, .int .i64 0, .int .i64 0, .int .i64 0, .slice none 0 0]) (t := 32) ?hr ?_; (case hd => rfl); (case hg => rfl); (case hr => first | (go_simp; done) | (go_simp; rfl)); intro gb354 hg w11 hbox hb; replace HO351 := Qa (Kd.R_below (Kd.R_elderB (Br HO351.out) gb354 (Nat.le_of_eq hg.symm)) hb); have BK354 := Qa (hbox); have GW354 := Qa ((by rw [hg]; exact (Qv (Bb3 HB.out (IsS99.ge HI344.out) GE339.out GE340.out)) : w.heap.size ≤ gb354)); have GE354 := Qa ((by rw [hg]; exact (Qv (Bb3 HB.out (IsS99.ge HI344.out) GE339.out GE340.out)) : w.heap.size ≤ gb354)); replace HB := Qa (below_step (Bb3 HB.out (IsS99.ge HI344.out) GE339.out GE340.out) hb); have NB339_354 := Qa ((by rw [hg]; exact Zp (blk_lt (g := gb339) (o := .cells #[.int .i64 0, .int .i64 0, .int .i64 0, .int .i64 0, .slice none 0 0] 32 (0, 0)) (Ba BK339.out)) : gb339 ≠ gb354)); have NB354_339 := Qa ((by rw [hg]; exact Zy (blk_lt (g := gb339) (o := .cells #[.int .i64 0, .int .i64 0, .int .i64 0, .int .i64 0, .slice none 0 0] 32 (0, 0)) (Ba BK339.out)) : gb354 ≠ gb339)); replace BK339 := Qa (Qy (g := gb339) (o := .cells #[.int .i64 0, .int .i64 0, .int .i64 0, .int .i64 0, .slice none 0 0] 32 (0, 0)) (Ba BK339.out) hb); have NB340_354 := Qa ((by rw [hg]; exact Zp (blk_lt (g := gb340) (o := .cells #[.int .i64 0, .int .i64 0, .int .i64 0, .int .i64 0, .slice none 0 0] 32 (0, 0)) (Ba BK340.out)) : gb340 ≠ gb354)); have NB354_340 := Qa ((by rw [hg]; exact Zy (blk_lt (g := gb340) (o := .cells #[.int .i64 0, .int .i64 0, .int .i64 0, .int .i64 0, .slice none 0 0] 32 (0, 0)) (Ba BK340.out)) : gb354 ≠ gb340)); replace BK340 := Qa (Qy (g := gb340) (o := .cells #[.int .i64 0, .int .i64 0, .int .i64 0, .int .i64 0, .slice none 0 0] 32 (0, 0)) (Ba BK340.out) hb); have NB344_354 := Qa ((by rw [hg]; exact Zp (IsS99.lt (show IsS99 w _ g344 t341 t352 t353 from by repeat (first | (with_reducible first | exact HI344.out | apply IsS99.alloc | apply IsS99.drewN | apply IsS99.drew | apply IsS99.set_1 | apply IsS99.set_2 | refine IsS99.far ?_ NB344_339.out _ | refine IsS99.far ?_ NB344_340.out _) | exact HI344.out))) : g344 ≠ gb354)); have NB354_344 := Qa ((by rw [hg]; exact Zy (IsS99.lt (show IsS99 w _ g344 t341 t352 t353 from by repeat (first | (with_reducible first | exact HI344.out | apply IsS99.alloc | apply IsS99.drewN | apply IsS99.drew | apply IsS99.set_1 | apply IsS99.set_2 | refine IsS99.far ?_ NB344_339.out _ | refine IsS99.far ?_ NB344_340.out _) | exact HI344.out))) : gb354 ≠ g344)); replace HI344 := Qa (IsS99.below (by repeat (first | (with_reducible first | exact HI344.out | apply IsS99.alloc | apply IsS99.drewN | apply IsS99.drew | apply IsS99.set_1 | apply IsS99.set_2 | refine IsS99.far ?_ NB344_339.out _ | refine IsS99.far ?_ NB344_340.out _) | exact HI344.out)) hb); clear hb hbox hg; have hnb12 := NB354_339.out; have hnc12 := NB339_354.out; have hnb13 := NB354_340.out; have hnc13 := NB340_354.out; have hnb14 := NB354_344.out; have hnc14 := NB344_354.out; have q15_0 : w11.cell? ⟨gb354, 0, none⟩ = some (.int .i64 0) := (Qb BK354.out 0).trans rfl; have q15_1 : w11.cell? ⟨gb354, 1, none⟩ = some (.int .i64 0) := (Qb BK354.out 1).trans rfl; have q15_2 : w11.cell? ⟨gb354, 2, none⟩ = some (.int .i64 0) := (Qb BK354.out 2).trans rfl; have q15_3 : w11.cell? ⟨gb354, 3, none⟩ = some (.int .i64 0) := (Qb BK354.out 3).trans rfl; have q15_4 : w11.cell? ⟨gb354, 4, none⟩ = some (.slice none 0 0) := (Qb BK354.out 4).trans rfl; have u15_0 := Qc BK354.out 0; have u15_1 := Qc BK354.out 1; have u15_2 := Qc BK354.out 2; have u15_3 := Qc BK354.out 3; have u15_4 := Qc BK354.out 4; obtain ⟨Ao16, co16, eo16⟩ := Kd.R_slice HO351.out; subst eo16) | ((with_reducible refine Zf (f := 69) rfl ?_); refine goesL_ (some 11) rfl rfl Try.func69 (by kernel_rfl) rfl #[.pointer (some ⟨g344, 0, none⟩), .int .i64 2] rfl (by (try simp only [Qm, Qt, Zb]); first | done | rfl | (simp only [Qn, Qo]; rfl)) ?_; (with_reducible refine (spec_l1Once.calls g344 t341 t352 t353 2 true t356 t357 w _ ?side1 ?side2 A4.out).mono ?_); (case side1 => repeat (first | (with_reducible first | exact HI344.out | apply IsS99.alloc | apply IsS99.drewN | apply IsS99.drew | apply IsS99.set_1 | apply IsS99.set_2 | refine IsS99.far ?_ NB344_339.out _ | refine IsS99.far ?_ NB344_340.out _ | refine IsS99.far ?_ NB344_354.out _) | exact HI344.out)); (case side2 => repeat (first | (with_reducible first | exact HB.out | apply Za | apply Qp | apply Qu | refine Ql ?_ (IsS99.ge HI344.out) | refine Ql ?_ GE339.out | refine Ql ?_ GE340.out | refine Ql ?_ GE354.out) | exact HB.out)); rintro e w17 ⟨rfl, hi, hb, hk⟩; refine ⟨_, rfl, ?_⟩; replace BK339 := Qa (Zr hk (g' := gb339) (o := .cells #[.int .i64 0, .int .i64 0, .int .i64 0, .int .i64 0, .slice none 0 0] 32 (0, 0)) (by (iterate 5 ((with_reducible repeat (first | refine Qg ?_ _ | refine Qh ?_ | refine Qf ?_ _)); refine blk_far ?_ NB339_354.out _)); (with_reducible repeat (first | refine Qg ?_ _ | refine Qh ?_ | refine Qf ?_ _)); exact BK339.out) NB339_344.out (by simp)); replace BK340 := Qa (Zr hk (g' := gb340) (o := .cells #[.int .i64 0, .int .i64 0, .int .i64 0, .int .i64 0, .slice none 0 0] 32 (0, 0)) (by (iterate 5 ((with_reducible repeat (first | refine Qg ?_ _ | refine Qh ?_ | refine Qf ?_ _)); refine blk_far ?_ NB340_354.out _)); (with_reducible repeat (first | refine Qg ?_ _ | refine Qh ?_ | refine Qf ?_ _)); exact BK340.out) NB340_344.out (by simp)); replace HO351 := Qa (Zq (Kd.R_keep (IsS99.apart (show IsS99 w _ g344 t341 t352 t353 from by repeat (first | (with_reducible first | exact HI344.out | apply IsS99.alloc | apply IsS99.drewN | apply IsS99.drew | apply IsS99.set_1 | apply IsS99.set_2 | refine IsS99.far ?_ NB344_339.out _ | refine IsS99.far ?_ NB344_340.out _ | refine IsS99.far ?_ NB344_354.out _) | exact HI344.out)) (by (with_reducible repeat (first | apply Kd.R_alloc | apply Kd.R_drewN | apply Kd.R_drew)); exact (Zq (Zj (p := ⟨gb354, 4, none⟩) (Zj (p := ⟨gb354, 3, none⟩) (Zj (p := ⟨gb354, 2, none⟩) (Zj (p := ⟨gb354, 1, none⟩) (Zj (p := ⟨gb354, 0, none⟩) (Zq HO351.out (fun k_ hk => (⟨hk, hk.2⟩ : _ ∧ k_ ≠ gb354))) (fun _ hk => hk.2) (.int .i64 t345)) (fun _ hk => hk.2) (.int .i64 t346)) (fun _ hk => hk.2) (.int .i64 t347)) (fun _ hk => hk.2) (.int .i64 t348)) (fun _ hk => hk.2) (.slice Ao16 t349.length co16)) (fun _ h_ => h_.1))) (by decide)) hk (fun _ h => h.2)) (fun _ h => h.1)); replace BK354 := Qa (Zr hk (g' := gb354) (o := .cells #[.int .i64 t345, .int .i64 t346, .int .i64 t347, .int .i64 t348, .slice Ao16 t349.length co16] 32 (0, 0)) (by (with_reducible repeat (first | refine Qg ?_ _ | refine Qh ?_ | refine Qf ?_ _)); refine Qr (cs := #[.int .i64 t345, .int .i64 t346, .int .i64 t347, .int .i64 t348, .slice none 0 0]) ?_ 4 _ rfl; (with_reducible repeat (first | refine Qg ?_ _ | refine Qh ?_ | refine Qf ?_ _)); refine Qr (cs := #[.int .i64 t345, .int .i64 t346, .int .i64 t347, .int .i64 0, .slice none 0 0]) ?_ 3 _ rfl; (with_reducible repeat (first | refine Qg ?_ _ | refine Qh ?_ | refine Qf ?_ _)); refine Qr (cs := #[.int .i64 t345, .int .i64 t346, .int .i64 0, .int .i64 0, .slice none 0 0]) ?_ 2 _ rfl; (with_reducible repeat (first | refine Qg ?_ _ | refine Qh ?_ | refine Qf ?_ _)); refine Qr (cs := #[.int .i64 t345, .int .i64 0, .int .i64 0, .int .i64 0, .slice none 0 0]) ?_ 1 _ rfl; (with_reducible repeat (first | refine Qg ?_ _ | refine Qh ?_ | refine Qf ?_ _)); refine Qr (cs := #[.int .i64 0, .int .i64 0, .int .i64 0, .int .i64 0, .slice none 0 0]) ?_ 0 _ rfl; (with_reducible repeat (first | refine Qg ?_ _ | refine Qh ?_ | refine Qf ?_ _)); exact BK354.out) NB354_344.out (by simp)); replace HB := Qa (hb); replace HI344 := Qa (hi); (try clear hb); (try clear hb2); (try clear hk); (try clear hi)))
  replace HO351 := Qa (Kd.R_drew HO351.out)
  replace BK339 := Qa (Qh BK339.out)
  replace BK340 := Qa (Qh BK340.out)
  replace BK354 := Qa (Qh BK354.out)
  replace HI344 := Qa (IsS99.drew HI344.out)
  replace HB := Qa (Qu HB.out)
  refine start_ (n := 5) (S := fun w' => w'.cell? ⟨gb354, 0, none⟩ = some (.int .i64 t345) ∧ w'.cell? ⟨gb354, 1, none⟩ = some (.int .i64 t346) ∧ w'.cell? ⟨gb354, 2, none⟩ = some (.int .i64 t347) ∧ w'.cell? ⟨gb354, 3, none⟩ = some (.int .i64 t348) ∧ w'.cell? ⟨gb354, 4, none⟩ = some (.slice Ao16 t349.length co16)) (ds := []) #[false, false, false, false, false] (by kernel_rfl) rfl rfl ⟨(Qb BK354.out 0).trans rfl, (Qb BK354.out 1).trans rfl, (Qb BK354.out 2).trans rfl, (Qb BK354.out 3).trans rfl, (Qb BK354.out 4).trans rfl⟩ (fun hHeld => ?_)
  generalize w17.drew = w18 at HO351 BK339 BK340 BK354 HI344 HB hHeld ⊢
  refine take_ (i := 0) (N := some 12) (v := ?_) (a' := ?_) #[true, false, false, false, false] rfl rfl (by kernel_rfl) (fun _ _ _ h => h) (Or.inl ⟨by rfl, ?_⟩) hHeld ?_ ?_
  rotate_left
  ·rintro w' ⟨s0, s1, s2, s3, s4⟩
   go_simp
   with_reducible rfl
  rotate_left
  ·simp only [Zg, Qe, Qj, Qk, i64_w, i32_w]
   rfl
  refine take_ (i := 1) (N := some 13) (v := ?_) (a' := ?_) #[true, true, false, false, false] rfl rfl (by kernel_rfl) (fun _ _ _ h => h) (Or.inl ⟨by rfl, ?_⟩) hHeld ?_ ?_
  rotate_left
  ·rintro w' ⟨s0, s1, s2, s3, s4⟩
   go_simp
   with_reducible rfl
  rotate_left
  ·simp only [Zg, Qe, Qj, Qk, i64_w, i32_w]
   rfl
  refine one_ (i := 2) (N := some 14) #[true, true, true, false, false] rfl rfl (by kernel_rfl) (by decide) (fun K hK => ?_)
  refine goes_ Try.func72 (by kernel_rfl) rfl #[.agg #[.int .i64 t345, .int .i64 t346, .int .i64 t347, .int .i64 t348, .slice Ao16 t349.length co16]] (by rfl) rfl rfl (by (try simp only [Qm, Qt, Zb]); first | done | rfl | (simp only [Qn, Qo]; rfl)) ?_
  with_reducible refine (spec_l10Copy.calls k t345 t346 t347 t348 _ _ t349 t358 t359 t360 t361 t362 _ ?side1 ?side2 A6.out).mono ?_
  (case side1 => repeat (first | exact (Kd.R_reads' HO351.out).2.2 | (with_reducible refine Kd.C_alloc ?_ _) | (with_reducible refine Kd.C_drewN ?_ _) | (with_reducible refine Kd.C_drew ?_)))
  (case side2 => exact (Kd.R_reads' HO351.out).2.1)
  rintro e w19 ⟨v363, rfl, ho0, hb⟩
  refine ⟨_, rfl, ?_⟩
  have HO364 := Qa (Kd.R_lower (Kd.R_newB (Kd.R_newB (Kd.R_newB (Kd.R_new' ho0 (Kd.R_lt (Br HO351.out))) (g := gb339) (o := .cells #[.int .i64 0, .int .i64 0, .int .i64 0, .int .i64 0, .slice none 0 0] 32 (0, 0)) (Ba BK339.out)) (g := gb340) (o := .cells #[.int .i64 0, .int .i64 0, .int .i64 0, .int .i64 0, .slice none 0 0] 32 (0, 0)) (Ba BK340.out)) (g := gb354) (o := .cells #[.int .i64 t345, .int .i64 t346, .int .i64 t347, .int .i64 t348, .slice Ao16 t349.length co16] 32 (0, 0)) (Ba BK354.out)) (Qv (Bb4 HB.out (IsS99.ge HI344.out) GE339.out GE340.out GE354.out)))
  replace HO351 := Qa (Kd.R_elder' (Br HO351.out) (Kd.R_base ho0) hb)
  replace BK339 := Qa (Qy (g := gb339) (o := .cells #[.int .i64 0, .int .i64 0, .int .i64 0, .int .i64 0, .slice none 0 0] 32 (0, 0)) (Ba BK339.out) hb)
  replace BK340 := Qa (Qy (g := gb340) (o := .cells #[.int .i64 0, .int .i64 0, .int .i64 0, .int .i64 0, .slice none 0 0] 32 (0, 0)) (Ba BK340.out) hb)
  replace BK354 := Qa (Qy (g := gb354) (o := .cells #[.int .i64 t345, .int .i64 t346, .int .i64 t347, .int .i64 t348, .slice Ao16 t349.length co16] 32 (0, 0)) (Ba BK354.out) hb)
  replace HB := Qa (below_step (Bb4 HB.out (IsS99.ge HI344.out) GE339.out GE340.out GE354.out) hb)
  replace HI344 := Qa (IsS99.below (by repeat (first | (with_reducible first | exact HI344.out | apply IsS99.alloc | apply IsS99.drewN | apply IsS99.drew | apply IsS99.set_1 | apply IsS99.set_2 | refine IsS99.far ?_ NB344_339.out _ | refine IsS99.far ?_ NB344_340.out _ | refine IsS99.far ?_ NB344_354.out _) | exact HI344.out)) hb)
  (try clear hb)
  (try clear hb2)
  (try clear hk)
  (try clear hi)
  (try clear ho0)
  obtain ⟨Ao29, co29, eo29⟩ := Kd.R_slice HO364.out
  (first | subst eo29 | (injection eo29 with f1_ f2_ f3_; have f4_ := f1_.symm; have f5_ := f3_.symm; clear f1_ f2_ f3_; subst f4_; subst f5_))
  refine hK.out _ _ ⟨(Qb BK354.out 0).trans rfl, (Qb BK354.out 1).trans rfl, (Qb BK354.out 2).trans rfl, (Qb BK354.out 3).trans rfl, (Qb BK354.out 4).trans rfl⟩ (fun hHeld => ?_)
  clear hK K
  refine norm_ (a' := ?_) ?_ ?_
  rotate_left
  ·show Zg _ (some 14) _ = _
   simp only [Zg, Qe, Qj, Qk, i64_w, i32_w]
   rfl
  refine one_ (i := 3) (N := none) #[true, true, true, true, false] rfl rfl (by kernel_rfl) (by decide) (fun K hK => ?_)
  have hs20 : w19.cell? ⟨gb339, 0, none⟩ = some (.int .i64 0) := (Qb BK339.out 0).trans rfl
  have hfs20 := Qc BK339.out 0
  have hns20_1 := NB340_339.out
  have hns20_2 := NB354_339.out
  have hms20_1 := NB339_340.out
  have hms20_2 := NB339_354.out
  have hs21 : w19.cell? ⟨gb339, 1, none⟩ = some (.int .i64 0) := (Qb BK339.out 1).trans rfl
  have hfs21 := Qc BK339.out 1
  have hns21_1 := NB340_339.out
  have hns21_2 := NB354_339.out
  have hms21_1 := NB339_340.out
  have hms21_2 := NB339_354.out
  have hs22 : w19.cell? ⟨gb339, 2, none⟩ = some (.int .i64 0) := (Qb BK339.out 2).trans rfl
  have hfs22 := Qc BK339.out 2
  have hns22_1 := NB340_339.out
  have hns22_2 := NB354_339.out
  have hms22_1 := NB339_340.out
  have hms22_2 := NB339_354.out
  have hs23 : w19.cell? ⟨gb339, 3, none⟩ = some (.int .i64 0) := (Qb BK339.out 3).trans rfl
  have hfs23 := Qc BK339.out 3
  have hns23_1 := NB340_339.out
  have hns23_2 := NB354_339.out
  have hms23_1 := NB339_340.out
  have hms23_2 := NB339_354.out
  have hs24 : w19.cell? ⟨gb339, 4, none⟩ = some (.slice none 0 0) := (Qb BK339.out 4).trans rfl
  have hfs24 := Qc BK339.out 4
  have hns24_1 := NB340_339.out
  have hns24_2 := NB354_339.out
  have hms24_1 := NB339_340.out
  have hms24_2 := NB339_354.out
  refine skip_ (w1 := ?_) (by rfl) rfl ?_ ?_
  rotate_left
  ·go_simp
   rfl
  refine hK.out _ _ ⟨((Qw (p := ⟨gb339, _, none⟩) NB354_339.out _).trans (((Qw (p := ⟨gb339, _, none⟩) NB354_339.out _).trans (((Qw (p := ⟨gb339, _, none⟩) NB354_339.out _).trans (((Qw (p := ⟨gb339, _, none⟩) NB354_339.out _).trans (((Qw (p := ⟨gb339, _, none⟩) NB354_339.out _).trans (hHeld.1)))))))))), ((Qw (p := ⟨gb339, _, none⟩) NB354_339.out _).trans (((Qw (p := ⟨gb339, _, none⟩) NB354_339.out _).trans (((Qw (p := ⟨gb339, _, none⟩) NB354_339.out _).trans (((Qw (p := ⟨gb339, _, none⟩) NB354_339.out _).trans (((Qw (p := ⟨gb339, _, none⟩) NB354_339.out _).trans (hHeld.2.1)))))))))), ((Qw (p := ⟨gb339, _, none⟩) NB354_339.out _).trans (((Qw (p := ⟨gb339, _, none⟩) NB354_339.out _).trans (((Qw (p := ⟨gb339, _, none⟩) NB354_339.out _).trans (((Qw (p := ⟨gb339, _, none⟩) NB354_339.out _).trans (((Qw (p := ⟨gb339, _, none⟩) NB354_339.out _).trans (hHeld.2.2.1)))))))))), ((Qw (p := ⟨gb339, _, none⟩) NB354_339.out _).trans (((Qw (p := ⟨gb339, _, none⟩) NB354_339.out _).trans (((Qw (p := ⟨gb339, _, none⟩) NB354_339.out _).trans (((Qw (p := ⟨gb339, _, none⟩) NB354_339.out _).trans (((Qw (p := ⟨gb339, _, none⟩) NB354_339.out _).trans (hHeld.2.2.2.1)))))))))), ((Qw (p := ⟨gb339, _, none⟩) NB354_339.out _).trans (((Qw (p := ⟨gb339, _, none⟩) NB354_339.out _).trans (((Qw (p := ⟨gb339, _, none⟩) NB354_339.out _).trans (((Qw (p := ⟨gb339, _, none⟩) NB354_339.out _).trans (((Qw (p := ⟨gb339, _, none⟩) NB354_339.out _).trans (hHeld.2.2.2.2))))))))))⟩ (fun hHeld => ?_)
  clear hK K
  refine one_ (i := 4) (N := none) #[true, true, true, true, true] rfl rfl (by kernel_rfl) (by decide) (fun K hK => ?_)
  have hs25 : w19.cell? ⟨gb340, 0, none⟩ = some (.int .i64 0) := (Qb BK340.out 0).trans rfl
  have hfs25 := Qc BK340.out 0
  have hns25_0 := NB339_340.out
  have hns25_2 := NB354_340.out
  have hms25_0 := NB340_339.out
  have hms25_2 := NB340_354.out
  have hs26 : w19.cell? ⟨gb340, 1, none⟩ = some (.int .i64 0) := (Qb BK340.out 1).trans rfl
  have hfs26 := Qc BK340.out 1
  have hns26_0 := NB339_340.out
  have hns26_2 := NB354_340.out
  have hms26_0 := NB340_339.out
  have hms26_2 := NB340_354.out
  have hs27 : w19.cell? ⟨gb340, 2, none⟩ = some (.int .i64 0) := (Qb BK340.out 2).trans rfl
  have hfs27 := Qc BK340.out 2
  have hns27_0 := NB339_340.out
  have hns27_2 := NB354_340.out
  have hms27_0 := NB340_339.out
  have hms27_2 := NB340_354.out
  have hs28 : w19.cell? ⟨gb340, 3, none⟩ = some (.int .i64 0) := (Qb BK340.out 3).trans rfl
  have hfs28 := Qc BK340.out 3
  have hns28_0 := NB339_340.out
  have hns28_2 := NB354_340.out
  have hms28_0 := NB340_339.out
  have hms28_2 := NB340_354.out
  have hs30 : w19.cell? ⟨gb340, 4, none⟩ = some (.slice none 0 0) := (Qb BK340.out 4).trans rfl
  have hfs30 := Qc BK340.out 4
  have hns30_0 := NB339_340.out
  have hns30_2 := NB354_340.out
  have hms30_0 := NB340_339.out
  have hms30_2 := NB340_354.out
  refine skip_ (w1 := ?_) (by rfl) rfl ?_ ?_
  rotate_left
  ·go_simp
   rfl
  refine hK.out _ _ ⟨((Qw (p := ⟨gb340, _, none⟩) NB354_340.out _).trans (((Qw (p := ⟨gb340, _, none⟩) NB354_340.out _).trans (((Qw (p := ⟨gb340, _, none⟩) NB354_340.out _).trans (((Qw (p := ⟨gb340, _, none⟩) NB354_340.out _).trans (((Qw (p := ⟨gb340, _, none⟩) NB354_340.out _).trans (hHeld.1)))))))))), ((Qw (p := ⟨gb340, _, none⟩) NB354_340.out _).trans (((Qw (p := ⟨gb340, _, none⟩) NB354_340.out _).trans (((Qw (p := ⟨gb340, _, none⟩) NB354_340.out _).trans (((Qw (p := ⟨gb340, _, none⟩) NB354_340.out _).trans (((Qw (p := ⟨gb340, _, none⟩) NB354_340.out _).trans (hHeld.2.1)))))))))), ((Qw (p := ⟨gb340, _, none⟩) NB354_340.out _).trans (((Qw (p := ⟨gb340, _, none⟩) NB354_340.out _).trans (((Qw (p := ⟨gb340, _, none⟩) NB354_340.out _).trans (((Qw (p := ⟨gb340, _, none⟩) NB354_340.out _).trans (((Qw (p := ⟨gb340, _, none⟩) NB354_340.out _).trans (hHeld.2.2.1)))))))))), ((Qw (p := ⟨gb340, _, none⟩) NB354_340.out _).trans (((Qw (p := ⟨gb340, _, none⟩) NB354_340.out _).trans (((Qw (p := ⟨gb340, _, none⟩) NB354_340.out _).trans (((Qw (p := ⟨gb340, _, none⟩) NB354_340.out _).trans (((Qw (p := ⟨gb340, _, none⟩) NB354_340.out _).trans (hHeld.2.2.2.1)))))))))), ((Qw (p := ⟨gb340, _, none⟩) NB354_340.out _).trans (((Qw (p := ⟨gb340, _, none⟩) NB354_340.out _).trans (((Qw (p := ⟨gb340, _, none⟩) NB354_340.out _).trans (((Qw (p := ⟨gb340, _, none⟩) NB354_340.out _).trans (((Qw (p := ⟨gb340, _, none⟩) NB354_340.out _).trans (hHeld.2.2.2.2))))))))))⟩ (fun hHeld => ?_)
  clear hK K
  refine done_ (by kernel_rfl) ?_
  try go_wp2
  refine bodyPost_ret (results_cc rfl _ _ gb339 gb340 32 32 #[.int .i64 t345, .int .i64 t346, .int .i64 t347, .int .i64 t348, .slice Ao16 t349.length co16] #[.int .i64 t358, .int .i64 t359, .int .i64 t360, .int .i64 t361, .slice Ao29 t362.length co29] (0, 0) (0, 0) _ _ rfl (by (iterate 5 ((with_reducible repeat (first | refine Qg ?_ _ | refine Qh ?_ | refine Qf ?_ _)); refine blk_far ?_ NB339_340.out _)); (with_reducible repeat (first | refine Qg ?_ _ | refine Qh ?_ | refine Qf ?_ _)); refine Qr (cs := #[.int .i64 t345, .int .i64 t346, .int .i64 t347, .int .i64 t348, .slice none 0 0]) ?_ 4 _ rfl; (with_reducible repeat (first | refine Qg ?_ _ | refine Qh ?_ | refine Qf ?_ _)); refine Qr (cs := #[.int .i64 t345, .int .i64 t346, .int .i64 t347, .int .i64 0, .slice none 0 0]) ?_ 3 _ rfl; (with_reducible repeat (first | refine Qg ?_ _ | refine Qh ?_ | refine Qf ?_ _)); refine Qr (cs := #[.int .i64 t345, .int .i64 t346, .int .i64 0, .int .i64 0, .slice none 0 0]) ?_ 2 _ rfl; (with_reducible repeat (first | refine Qg ?_ _ | refine Qh ?_ | refine Qf ?_ _)); refine Qr (cs := #[.int .i64 t345, .int .i64 0, .int .i64 0, .int .i64 0, .slice none 0 0]) ?_ 1 _ rfl; (with_reducible repeat (first | refine Qg ?_ _ | refine Qh ?_ | refine Qf ?_ _)); refine Qr (cs := #[.int .i64 0, .int .i64 0, .int .i64 0, .int .i64 0, .slice none 0 0]) ?_ 0 _ rfl; (with_reducible repeat (first | refine Qg ?_ _ | refine Qh ?_ | refine Qf ?_ _)); exact BK339.out) Zt rfl (by kernel_rfl) rfl (by (with_reducible repeat (first | refine Qg ?_ _ | refine Qh ?_ | refine Qf ?_ _)); refine Qr (cs := #[.int .i64 t358, .int .i64 t359, .int .i64 t360, .int .i64 t361, .slice none 0 0]) ?_ 4 _ rfl; (with_reducible repeat (first | refine Qg ?_ _ | refine Qh ?_ | refine Qf ?_ _)); refine Qr (cs := #[.int .i64 t358, .int .i64 t359, .int .i64 t360, .int .i64 0, .slice none 0 0]) ?_ 3 _ rfl; (with_reducible repeat (first | refine Qg ?_ _ | refine Qh ?_ | refine Qf ?_ _)); refine Qr (cs := #[.int .i64 t358, .int .i64 t359, .int .i64 0, .int .i64 0, .slice none 0 0]) ?_ 2 _ rfl; (with_reducible repeat (first | refine Qg ?_ _ | refine Qh ?_ | refine Qf ?_ _)); refine Qr (cs := #[.int .i64 t358, .int .i64 0, .int .i64 0, .int .i64 0, .slice none 0 0]) ?_ 1 _ rfl; (with_reducible repeat (first | refine Qg ?_ _ | refine Qh ?_ | refine Qf ?_ _)); refine Qr (cs := #[.int .i64 0, .int .i64 0, .int .i64 0, .int .i64 0, .slice none 0 0]) ?_ 0 _ rfl; (iterate 5 ((with_reducible repeat (first | refine Qg ?_ _ | refine Qh ?_ | refine Qf ?_ _)); refine blk_far ?_ NB340_339.out _)); (with_reducible repeat (first | refine Qg ?_ _ | refine Qh ?_ | refine Qf ?_ _)); exact BK340.out) Zt rfl (by kernel_rfl)) rfl ?_
  exact ⟨_, _, by first | rfl | (simp [errW_none, errW_some] <;> rfl) | (simp [*, errW_none, errW_some] <;> rfl), by (with_reducible repeat (first | apply Kd.R_alloc | apply Kd.R_drewN | apply Kd.R_drew)); exact Zq (Zj (p := ⟨gb340, 4, none⟩) (Zj (p := ⟨gb340, 3, none⟩) (Zj (p := ⟨gb340, 2, none⟩) (Zj (p := ⟨gb340, 1, none⟩) (Zj (p := ⟨gb340, 0, none⟩) (Zj (p := ⟨gb339, 4, none⟩) (Zj (p := ⟨gb339, 3, none⟩) (Zj (p := ⟨gb339, 2, none⟩) (Zj (p := ⟨gb339, 1, none⟩) (Zj (p := ⟨gb339, 0, none⟩) (Zq (Zq HO351.out (fun k_ hk => (⟨hk, hk.1.1.1.2⟩ : _ ∧ k_ ≠ gb339))) (fun k_ hk => (⟨hk, hk.1.1.1.2⟩ : _ ∧ k_ ≠ gb340))) (fun _ hk => hk.1.2) (.int .i64 t345)) (fun _ hk => hk.1.2) (.int .i64 t346)) (fun _ hk => hk.1.2) (.int .i64 t347)) (fun _ hk => hk.1.2) (.int .i64 t348)) (fun _ hk => hk.1.2) (.slice Ao16 t349.length co16)) (fun _ hk => hk.2) (.int .i64 t358)) (fun _ hk => hk.2) (.int .i64 t359)) (fun _ hk => hk.2) (.int .i64 t360)) (fun _ hk => hk.2) (.int .i64 t361)) (fun _ hk => hk.2) (.slice Ao29 t362.length co29)) (fun _ hk => hk.1.1.2), by (with_reducible repeat (first | apply Kd.R_alloc | apply Kd.R_drewN | apply Kd.R_drew)); exact Zq (Zj (p := ⟨gb340, 4, none⟩) (Zj (p := ⟨gb340, 3, none⟩) (Zj (p := ⟨gb340, 2, none⟩) (Zj (p := ⟨gb340, 1, none⟩) (Zj (p := ⟨gb340, 0, none⟩) (Zj (p := ⟨gb339, 4, none⟩) (Zj (p := ⟨gb339, 3, none⟩) (Zj (p := ⟨gb339, 2, none⟩) (Zj (p := ⟨gb339, 1, none⟩) (Zj (p := ⟨gb339, 0, none⟩) (Zq (Zq HO364.out (fun k_ hk => (⟨hk, hk.1.1.2⟩ : _ ∧ k_ ≠ gb339))) (fun k_ hk => (⟨hk, hk.1.1.2⟩ : _ ∧ k_ ≠ gb340))) (fun _ hk => hk.1.2) (.int .i64 t345)) (fun _ hk => hk.1.2) (.int .i64 t346)) (fun _ hk => hk.1.2) (.int .i64 t347)) (fun _ hk => hk.1.2) (.int .i64 t348)) (fun _ hk => hk.1.2) (.slice Ao16 t349.length co16)) (fun _ hk => hk.2) (.int .i64 t358)) (fun _ hk => hk.2) (.int .i64 t359)) (fun _ hk => hk.2) (.int .i64 t360)) (fun _ hk => hk.2) (.int .i64 t361)) (fun _ hk => hk.2) (.slice Ao29 t362.length co29)) (fun _ hk => hk.1.1.1.1.1.2), by repeat (first | (with_reducible first | exact HB.out | apply Za | apply Qp | apply Qu | refine Ql ?_ (IsS99.ge HI344.out) | refine Ql ?_ GE339.out | refine Ql ?_ GE340.out | refine Ql ?_ GE354.out) | exact HB.out)⟩
 ·replace c5 := Xe.mpr c5
  subst c5
  have H1 : ((spec_l10Bent.f k t341 t356 t357).bind fun bt365 => (some (t345, t346, t347, t348, t349, bt365.1, bt365.2.1, bt365.2.2.1, bt365.2.2.2.1, bt365.2.2.2.2.1))) = some (r1, r2, r3, r4, r5, r6, r7, r8, r9, r10) := by rw [if_neg (show ¬ (false = true) by decide)] at H; exact H
  clear H
  have H := H1
  clear H1
  replace H := Qi.mp H
  obtain ⟨⟨t365, t366, t367, t368, t369, t372, t373⟩, A310, H⟩ := H
  replace H : (some (t345, t346, t347, t348, t349, t365, t366, t367, t368, t369)) = some (r1, r2, r3, r4, r5, r6, r7, r8, r9, r10) := H
  have A31 := Qa A310
  clear A310
  simp only [Xj, Prod.mk.injEq] at H
  obtain ⟨rfl, rfl, rfl, rfl, rfl, rfl, rfl, rfl, rfl, rfl⟩ := H
  go_enter Try.func33, Try.ntmps33
  try go_wp2_with (first | ((with_reducible refine gate_dst (N := 2) rfl ?_); refine box_event ?hg (N := 2) ?hd (cs := #[.int .i64 0, .int .i64 0, .int .i64 0, .int .i64 0, .slice none 0 0]) (t := 32) ?hr ?_; (case hd => rfl); (case hg => rfl); (case hr => first | (go_simp; done) | (go_simp; rfl)); intro gb339 hg w32 hbox hb; have BK339 := Qa (hbox); have GW339 := Qa ((by rw [hg]; exact (Qv (Bb0 HB.out)) : w.heap.size ≤ gb339)); have GE339 := Qa ((by rw [hg]; exact (Qv (Bb0 HB.out)) : w.heap.size ≤ gb339)); replace HB := Qa (below_step (Bb0 HB.out) hb); clear hb hbox hg) | ((with_reducible refine gate_dst (N := 3) rfl ?_); refine box_event ?hg (N := 3) ?hd (cs := #[.int .i64 0, .int .i64 0, .int .i64 0, .int .i64 0, .slice none 0 0]) (t := 32) ?hr ?_; (case hd => rfl); (case hg => rfl); (case hr => first | (go_simp; done) | (go_simp; rfl)); intro gb340 hg w33 hbox hb; have BK340 := Qa (hbox); have GW340 := Qa ((by rw [hg]; exact (Qv (Bb1 HB.out GE339.out)) : w.heap.size ≤ gb340)); have GE340 := Qa ((by rw [hg]; exact (Qv (Bb1 HB.out GE339.out)) : w.heap.size ≤ gb340)); replace HB := Qa (below_step (Bb1 HB.out GE339.out) hb); have NB339_340 := Qa ((by rw [hg]; exact Zp (blk_lt (g := gb339) (o := .cells #[.int .i64 0, .int .i64 0, .int .i64 0, .int .i64 0, .slice none 0 0] 32 (0, 0)) (Ba BK339.out)) : gb339 ≠ gb340)); have NB340_339 := Qa ((by rw [hg]; exact Zy (blk_lt (g := gb339) (o := .cells #[.int .i64 0, .int .i64 0, .int .i64 0, .int .i64 0, .slice none 0 0] 32 (0, 0)) (Ba BK339.out)) : gb340 ≠ gb339)); replace BK339 := Qa (Qy (g := gb339) (o := .cells #[.int .i64 0, .int .i64 0, .int .i64 0, .int .i64 0, .slice none 0 0] 32 (0, 0)) (Ba BK339.out) hb); clear hb hbox hg) | ((with_reducible refine Zf (f := 51) rfl ?_); refine goesL_ (some 7) rfl rfl Try.func51 (by kernel_rfl) rfl #[.slice A0 l0.length c0] rfl (by (try simp only [Qm, Qt, Zb]); first | done | rfl | (simp only [Qn, Qo]; rfl)) ?_; (with_reducible refine (spec_l1New.calls k _ _ l0 t341 t342 t343 w _ ?side1 ?side2 ?side3 A2.out).mono ?_); (case side1 => repeat (first | (with_reducible first | exact HB.out | apply Za | apply Qp | apply Qu | refine Ql ?_ GE339.out | refine Ql ?_ GE340.out) | exact HB.out)); (case side2 => exact HR0.out); (case side3 => exact HC0.out); rintro e w34 ⟨g344, rfl, hi, hb, hb2⟩; refine ⟨_, rfl, ?_⟩; replace HB := Qa (hb); have HI344 := Qa (hi); have NB344_339 := Qa (IsS99.ne_blk hi (Qy (g := gb339) (o := .cells #[.int .i64 0, .int .i64 0, .int .i64 0, .int .i64 0, .slice none 0 0] 32 (0, 0)) (Ba BK339.out) hb2) (by decide)); have NB339_344 := Qa (Ne.symm (IsS99.ne_blk hi (Qy (g := gb339) (o := .cells #[.int .i64 0, .int .i64 0, .int .i64 0, .int .i64 0, .slice none 0 0] 32 (0, 0)) (Ba BK339.out) hb2) (by decide))); replace BK339 := Qa (Qy (g := gb339) (o := .cells #[.int .i64 0, .int .i64 0, .int .i64 0, .int .i64 0, .slice none 0 0] 32 (0, 0)) (Ba BK339.out) hb2); have NB344_340 := Qa (IsS99.ne_blk hi (Qy (g := gb340) (o := .cells #[.int .i64 0, .int .i64 0, .int .i64 0, .int .i64 0, .slice none 0 0] 32 (0, 0)) (Ba BK340.out) hb2) (by decide)); have NB340_344 := Qa (Ne.symm (IsS99.ne_blk hi (Qy (g := gb340) (o := .cells #[.int .i64 0, .int .i64 0, .int .i64 0, .int .i64 0, .slice none 0 0] 32 (0, 0)) (Ba BK340.out) hb2) (by decide))); replace BK340 := Qa (Qy (g := gb340) (o := .cells #[.int .i64 0, .int .i64 0, .int .i64 0, .int .i64 0, .slice none 0 0] 32 (0, 0)) (Ba BK340.out) hb2); (try clear hb); (try clear hb2); (try clear hk); (try clear hi)) | ((with_reducible refine Zf (f := 50) rfl ?_); refine goesL_ (some 9) rfl rfl Try.func50 (by kernel_rfl) rfl #[.pointer (some ⟨g344, 0, none⟩)] rfl (by (try simp only [Qm, Qt, Zb]); first | done | rfl | (simp only [Qn, Qo]; rfl)) ?_; (with_reducible refine (spec_l10Bent.calls k g344 t341 t342 t343 t345 t346 t347 t348 t349 t352 t353 w _ ?side1 ?side2 A3.out).mono ?_); (case side1 => repeat (first | (with_reducible first | exact HI344.out | apply IsS99.alloc | apply IsS99.drewN | apply IsS99.drew | apply IsS99.set_1 | apply IsS99.set_2 | refine IsS99.far ?_ NB344_339.out _ | refine IsS99.far ?_ NB344_340.out _) | exact HI344.out)); (case side2 => repeat (first | (with_reducible first | exact HB.out | apply Za | apply Qp | apply Qu | refine Ql ?_ (IsS99.ge HI344.out) | refine Ql ?_ GE339.out | refine Ql ?_ GE340.out) | exact HB.out)); rintro e w35 ⟨v350, rfl, ho0, hi, hb, hk⟩; refine ⟨_, rfl, ?_⟩; have HO351 := Qa (Kd.R_lower (Kd.R_newB (Kd.R_newB ho0 (g := gb339) (o := .cells #[.int .i64 0, .int .i64 0, .int .i64 0, .int .i64 0, .slice none 0 0] 32 (0, 0)) (Ba BK339.out)) (g := gb340) (o := .cells #[.int .i64 0, .int .i64 0, .int .i64 0, .int .i64 0, .slice none 0 0] 32 (0, 0)) (Ba BK340.out)) (Qv (Bb3 HB.out (IsS99.ge HI344.out) GE339.out GE340.out))); replace BK339 := Qa (Zr hk (g' := gb339) (o := .cells #[.int .i64 0, .int .i64 0, .int .i64 0, .int .i64 0, .slice none 0 0] 32 (0, 0)) (Ba BK339.out) NB339_344.out (by simp)); replace BK340 := Qa (Zr hk (g' := gb340) (o := .cells #[.int .i64 0, .int .i64 0, .int .i64 0, .int .i64 0, .slice none 0 0] 32 (0, 0)) (Ba BK340.out) NB340_344.out (by simp)); replace HB := Qa (hb); replace HI344 := Qa (hi); (try clear hb); (try clear hb2); (try clear hk); (try clear hi); (try clear ho0)) | ((with_reducible refine gate_dst (N := 5) rfl ?_); refine box_event ?hg (N := 5) ?hd (cs := #[.int .i64 0, .int .i64 0, .int .i64 0, .int .i64 0, .slice none 0 0]) (t := 32) ?hr ?_; (case hd => rfl); (case hg => rfl); (case hr => first | (go_simp; done) | (go_simp; rfl)); intro gb354 hg w36 hbox hb; replace HO351 := Qa (Kd.R_below (Kd.R_elderB (Br HO351.out) gb354 (Nat.le_of_eq hg.symm)) hb); have BK354 := Qa (hbox); have GW354 := Qa ((by rw [hg]; exact (Qv (Bb3 HB.out (IsS99.ge HI344.out) GE339.out GE340.out)) : w.heap.size ≤ gb354)); have GE354 := Qa ((by rw [hg]; exact (Qv (Bb3 HB.out (IsS99.ge HI344.out) GE339.out GE340.out)) : w.heap.size ≤ gb354)); replace HB := Qa (below_step (Bb3 HB.out (IsS99.ge HI344.out) GE339.out GE340.out) hb); have NB339_354 := Qa ((by rw [hg]; exact Zp (blk_lt (g := gb339) (o := .cells #[.int .i64 0, .int .i64 0, .int .i64 0, .int .i64 0, .slice none 0 0] 32 (0, 0)) (Ba BK339.out)) : gb339 ≠ gb354)); have NB354_339 := Qa ((by rw [hg]; exact Zy (blk_lt (g := gb339) (o := .cells #[.int .i64 0, .int .i64 0, .int .i64 0, .int .i64 0, .slice none 0 0] 32 (0, 0)) (Ba BK339.out)) : gb354 ≠ gb339)); replace BK339 := Qa (Qy (g := gb339) (o := .cells #[.int .i64 0, .int .i64 0, .int .i64 0, .int .i64 0, .slice none 0 0] 32 (0, 0)) (Ba BK339.out) hb); have NB340_354 := Qa ((by rw [hg]; exact Zp (blk_lt (g := gb340) (o := .cells #[.int .i64 0, .int .i64 0, .int .i64 0, .int .i64 0, .slice none 0 0] 32 (0, 0)) (Ba BK340.out)) : gb340 ≠ gb354)); have NB354_340 := Qa ((by rw [hg]; exact Zy (blk_lt (g := gb340) (o := .cells #[.int .i64 0, .int .i64 0, .int .i64 0, .int .i64 0, .slice none 0 0] 32 (0, 0)) (Ba BK340.out)) : gb354 ≠ gb340)); replace BK340 := Qa (Qy (g := gb340) (o := .cells #[.int .i64 0, .int .i64 0, .int .i64 0, .int .i64 0, .slice none 0 0] 32 (0, 0)) (Ba BK340.out) hb); have NB344_354 := Qa ((by rw [hg]; exact Zp (IsS99.lt (show IsS99 w _ g344 t341 t352 t353 from by repeat (first | (with_reducible first | exact HI344.out | apply IsS99.alloc | apply IsS99.drewN | apply IsS99.drew | apply IsS99.set_1 | apply IsS99.set_2 | refine IsS99.far ?_ NB344_339.out _ | refine IsS99.far ?_ NB344_340.out _) | exact HI344.out))) : g344 ≠ gb354)); have NB354_344 := Qa ((by rw [hg]; exact Zy (IsS99.lt (show IsS99 w _ g344 t341 t352 t353 from by repeat (first | (with_reducible first | exact HI344.out | apply IsS99.alloc | apply IsS99.drewN | apply IsS99.drew | apply IsS99.set_1 | apply IsS99.set_2 | refine IsS99.far ?_ NB344_339.out _ | refine IsS99.far ?_ NB344_340.out _) | exact HI344.out))) : gb354 ≠ g344)); replace HI344 := Qa (IsS99.below (by repeat (first | (with_reducible first | exact HI344.out | apply IsS99.alloc | apply IsS99.drewN | apply IsS99.drew | apply IsS99.set_1 | apply IsS99.set_2 | refine IsS99.far ?_ NB344_339.out _ | refine IsS99.far ?_ NB344_340.out _) | exact HI344.out)) hb); clear hb hbox hg; have hnb37 := NB354_339.out; have hnc37 := NB339_354.out; have hnb38 := NB354_340.out; have hnc38 := NB340_354.out; have hnb39 := NB354_344.out; have hnc39 := NB344_354.out; have q40_0 : w36.cell? ⟨gb354, 0, none⟩ = some (.int .i64 0) := (Qb BK354.out 0).trans rfl; have q40_1 : w36.cell? ⟨gb354, 1, none⟩ = some (.int .i64 0) := (Qb BK354.out 1).trans rfl; have q40_2 : w36.cell? ⟨gb354, 2, none⟩ = some (.int .i64 0) := (Qb BK354.out 2).trans rfl; have q40_3 : w36.cell? ⟨gb354, 3, none⟩ = some (.int .i64 0) := (Qb BK354.out 3).trans rfl; have q40_4 : w36.cell? ⟨gb354, 4, none⟩ = some (.slice none 0 0) := (Qb BK354.out 4).trans rfl; have u40_0 := Qc BK354.out 0; have u40_1 := Qc BK354.out 1; have u40_2 := Qc BK354.out 2; have u40_3 := Qc BK354.out 3; have u40_4 := Qc BK354.out 4; obtain ⟨Ao41, co41, eo41⟩ := Kd.R_slice HO351.out; subst eo41) | ((with_reducible refine Zf (f := 69) rfl ?_); refine goesL_ (some 11) rfl rfl Try.func69 (by kernel_rfl) rfl #[.pointer (some ⟨g344, 0, none⟩), .int .i64 2] rfl (by (try simp only [Qm, Qt, Zb]); first | done | rfl | (simp only [Qn, Qo]; rfl)) ?_; (with_reducible refine (spec_l1Once.calls g344 t341 t352 t353 2 false t356 t357 w _ ?side1 ?side2 A4.out).mono ?_); (case side1 => repeat (first | (with_reducible first | exact HI344.out | apply IsS99.alloc | apply IsS99.drewN | apply IsS99.drew | apply IsS99.set_1 | apply IsS99.set_2 | refine IsS99.far ?_ NB344_339.out _ | refine IsS99.far ?_ NB344_340.out _ | refine IsS99.far ?_ NB344_354.out _) | exact HI344.out)); (case side2 => repeat (first | (with_reducible first | exact HB.out | apply Za | apply Qp | apply Qu | refine Ql ?_ (IsS99.ge HI344.out) | refine Ql ?_ GE339.out | refine Ql ?_ GE340.out | refine Ql ?_ GE354.out) | exact HB.out)); rintro e w42 ⟨rfl, hi, hb, hk⟩; refine ⟨_, rfl, ?_⟩; replace BK339 := Qa (Zr hk (g' := gb339) (o := .cells #[.int .i64 0, .int .i64 0, .int .i64 0, .int .i64 0, .slice none 0 0] 32 (0, 0)) (by (iterate 5 ((with_reducible repeat (first | refine Qg ?_ _ | refine Qh ?_ | refine Qf ?_ _)); refine blk_far ?_ NB339_354.out _)); (with_reducible repeat (first | refine Qg ?_ _ | refine Qh ?_ | refine Qf ?_ _)); exact BK339.out) NB339_344.out (by simp)); replace BK340 := Qa (Zr hk (g' := gb340) (o := .cells #[.int .i64 0, .int .i64 0, .int .i64 0, .int .i64 0, .slice none 0 0] 32 (0, 0)) (by (iterate 5 ((with_reducible repeat (first | refine Qg ?_ _ | refine Qh ?_ | refine Qf ?_ _)); refine blk_far ?_ NB340_354.out _)); (with_reducible repeat (first | refine Qg ?_ _ | refine Qh ?_ | refine Qf ?_ _)); exact BK340.out) NB340_344.out (by simp)); replace HO351 := Qa (Zq (Kd.R_keep (IsS99.apart (show IsS99 w _ g344 t341 t352 t353 from by repeat (first | (with_reducible first | exact HI344.out | apply IsS99.alloc | apply IsS99.drewN | apply IsS99.drew | apply IsS99.set_1 | apply IsS99.set_2 | refine IsS99.far ?_ NB344_339.out _ | refine IsS99.far ?_ NB344_340.out _ | refine IsS99.far ?_ NB344_354.out _) | exact HI344.out)) (by (with_reducible repeat (first | apply Kd.R_alloc | apply Kd.R_drewN | apply Kd.R_drew)); exact (Zq (Zj (p := ⟨gb354, 4, none⟩) (Zj (p := ⟨gb354, 3, none⟩) (Zj (p := ⟨gb354, 2, none⟩) (Zj (p := ⟨gb354, 1, none⟩) (Zj (p := ⟨gb354, 0, none⟩) (Zq HO351.out (fun k_ hk => (⟨hk, hk.2⟩ : _ ∧ k_ ≠ gb354))) (fun _ hk => hk.2) (.int .i64 t345)) (fun _ hk => hk.2) (.int .i64 t346)) (fun _ hk => hk.2) (.int .i64 t347)) (fun _ hk => hk.2) (.int .i64 t348)) (fun _ hk => hk.2) (.slice Ao41 t349.length co41)) (fun _ h_ => h_.1))) (by decide)) hk (fun _ h => h.2)) (fun _ h => h.1)); replace BK354 := Qa (Zr hk (g' := gb354) (o := .cells #[.int .i64 t345, .int .i64 t346, .int .i64 t347, .int .i64 t348, .slice Ao41 t349.length co41] 32 (0, 0)) (by (with_reducible repeat (first | refine Qg ?_ _ | refine Qh ?_ | refine Qf ?_ _)); refine Qr (cs := #[.int .i64 t345, .int .i64 t346, .int .i64 t347, .int .i64 t348, .slice none 0 0]) ?_ 4 _ rfl; (with_reducible repeat (first | refine Qg ?_ _ | refine Qh ?_ | refine Qf ?_ _)); refine Qr (cs := #[.int .i64 t345, .int .i64 t346, .int .i64 t347, .int .i64 0, .slice none 0 0]) ?_ 3 _ rfl; (with_reducible repeat (first | refine Qg ?_ _ | refine Qh ?_ | refine Qf ?_ _)); refine Qr (cs := #[.int .i64 t345, .int .i64 t346, .int .i64 0, .int .i64 0, .slice none 0 0]) ?_ 2 _ rfl; (with_reducible repeat (first | refine Qg ?_ _ | refine Qh ?_ | refine Qf ?_ _)); refine Qr (cs := #[.int .i64 t345, .int .i64 0, .int .i64 0, .int .i64 0, .slice none 0 0]) ?_ 1 _ rfl; (with_reducible repeat (first | refine Qg ?_ _ | refine Qh ?_ | refine Qf ?_ _)); refine Qr (cs := #[.int .i64 0, .int .i64 0, .int .i64 0, .int .i64 0, .slice none 0 0]) ?_ 0 _ rfl; (with_reducible repeat (first | refine Qg ?_ _ | refine Qh ?_ | refine Qf ?_ _)); exact BK354.out) NB354_344.out (by simp)); replace HB := Qa (hb); replace HI344 := Qa (hi); (try clear hb); (try clear hb2); (try clear hk); (try clear hi)))
  replace HO351 := Qa (Kd.R_drew HO351.out)
  replace BK339 := Qa (Qh BK339.out)
  replace BK340 := Qa (Qh BK340.out)
  replace BK354 := Qa (Qh BK354.out)
  replace HI344 := Qa (IsS99.drew HI344.out)
  replace HB := Qa (Qu HB.out)
  refine start_ (n := 5) (S := fun w' => w'.cell? ⟨gb354, 0, none⟩ = some (.int .i64 t345) ∧ w'.cell? ⟨gb354, 1, none⟩ = some (.int .i64 t346) ∧ w'.cell? ⟨gb354, 2, none⟩ = some (.int .i64 t347) ∧ w'.cell? ⟨gb354, 3, none⟩ = some (.int .i64 t348) ∧ w'.cell? ⟨gb354, 4, none⟩ = some (.slice Ao41 t349.length co41)) (ds := []) #[false, false, false, false, false] (by kernel_rfl) rfl rfl ⟨(Qb BK354.out 0).trans rfl, (Qb BK354.out 1).trans rfl, (Qb BK354.out 2).trans rfl, (Qb BK354.out 3).trans rfl, (Qb BK354.out 4).trans rfl⟩ (fun hHeld => ?_)
  generalize w42.drew = w43 at HO351 BK339 BK340 BK354 HI344 HB hHeld ⊢
  refine pure_ (i := 1) (N := some 16) (v := ?_) (a' := ?_) #[false, true, false, false, false] rfl rfl (by kernel_rfl) (fun _ _ _ h => h) (Or.inl ⟨by rfl, ?_⟩) ?_ ?_
  rotate_left
  ·intro w'
   go_simp
   with_reducible rfl
  rotate_left
  ·simp only [Zg, Qe, Qj, Qk, i64_w, i32_w]
   rfl
  refine take_ (i := 0) (N := some 15) (v := ?_) (a' := ?_) #[true, true, false, false, false] rfl rfl (by kernel_rfl) (fun _ _ _ h => h) (Or.inl ⟨by rfl, ?_⟩) hHeld ?_ ?_
  rotate_left
  ·rintro w' ⟨s0, s1, s2, s3, s4⟩
   go_simp
   with_reducible rfl
  rotate_left
  ·simp only [Zg, Qe, Qj, Qk, i64_w, i32_w]
   rfl
  refine one_ (i := 2) (N := some 17) #[true, true, true, false, false] rfl rfl (by kernel_rfl) (by decide) (fun K hK => ?_)
  refine goes_ Try.func50 (by kernel_rfl) rfl #[.pointer (some ⟨g344, 0, none⟩)] (by rfl) rfl rfl (by (try simp only [Qm, Qt, Zb]); first | done | rfl | (simp only [Qn, Qo]; rfl)) ?_
  with_reducible refine (spec_l10Bent.calls k g344 t341 t356 t357 t365 t366 t367 t368 t369 t372 t373 w _ ?side1 ?side2 A31.out).mono ?_
  (case side1 => repeat (first | (with_reducible first | exact HI344.out | apply IsS99.alloc | apply IsS99.drewN | apply IsS99.drew | apply IsS99.set_1 | apply IsS99.set_2 | refine IsS99.far ?_ NB344_339.out _ | refine IsS99.far ?_ NB344_340.out _ | refine IsS99.far ?_ NB344_354.out _) | exact HI344.out))
  (case side2 => repeat (first | (with_reducible first | exact HB.out | apply Za | apply Qp | apply Qu | refine Ql ?_ (IsS99.ge HI344.out) | refine Ql ?_ GE339.out | refine Ql ?_ GE340.out | refine Ql ?_ GE354.out) | exact HB.out))
  rintro e w44 ⟨v370, rfl, ho0, hi, hb, hk⟩
  refine ⟨_, rfl, ?_⟩
  have HO371 := Qa (Kd.R_lower (Kd.R_newB (Kd.R_newB (Kd.R_newB (Kd.R_new' ho0 (Kd.R_lt (Br HO351.out))) (g := gb339) (o := .cells #[.int .i64 0, .int .i64 0, .int .i64 0, .int .i64 0, .slice none 0 0] 32 (0, 0)) (Ba BK339.out)) (g := gb340) (o := .cells #[.int .i64 0, .int .i64 0, .int .i64 0, .int .i64 0, .slice none 0 0] 32 (0, 0)) (Ba BK340.out)) (g := gb354) (o := .cells #[.int .i64 t345, .int .i64 t346, .int .i64 t347, .int .i64 t348, .slice Ao41 t349.length co41] 32 (0, 0)) (Ba BK354.out)) (Qv (Bb4 HB.out (IsS99.ge HI344.out) GE339.out GE340.out GE354.out)))
  replace BK339 := Qa (Zr hk (g' := gb339) (o := .cells #[.int .i64 0, .int .i64 0, .int .i64 0, .int .i64 0, .slice none 0 0] 32 (0, 0)) (Ba BK339.out) NB339_344.out (by simp))
  replace BK340 := Qa (Zr hk (g' := gb340) (o := .cells #[.int .i64 0, .int .i64 0, .int .i64 0, .int .i64 0, .slice none 0 0] 32 (0, 0)) (Ba BK340.out) NB340_344.out (by simp))
  replace HO351 := Qa (Zq (Kd.R_told (Kd.R_oldK (IsS99.apart (show IsS99 w _ g344 t341 t356 t357 from by repeat (first | (with_reducible first | exact HI344.out | apply IsS99.alloc | apply IsS99.drewN | apply IsS99.drew | apply IsS99.set_1 | apply IsS99.set_2 | refine IsS99.far ?_ NB344_339.out _ | refine IsS99.far ?_ NB344_340.out _ | refine IsS99.far ?_ NB344_354.out _) | exact HI344.out)) (Br HO351.out) (by decide)) hk) (Kd.R_base ho0)) (fun _ h_ => h_.1))
  replace BK354 := Qa (Zr hk (g' := gb354) (o := .cells #[.int .i64 t345, .int .i64 t346, .int .i64 t347, .int .i64 t348, .slice Ao41 t349.length co41] 32 (0, 0)) (Ba BK354.out) NB354_344.out (by simp))
  replace HB := Qa (hb)
  replace HI344 := Qa (hi)
  (try clear hb)
  (try clear hb2)
  (try clear hk)
  (try clear hi)
  (try clear ho0)
  obtain ⟨Ao54, co54, eo54⟩ := Kd.R_slice HO371.out
  (first | subst eo54 | (injection eo54 with f1_ f2_ f3_; have f4_ := f1_.symm; have f5_ := f3_.symm; clear f1_ f2_ f3_; subst f4_; subst f5_))
  refine hK.out _ _ ⟨(Qb BK354.out 0).trans rfl, (Qb BK354.out 1).trans rfl, (Qb BK354.out 2).trans rfl, (Qb BK354.out 3).trans rfl, (Qb BK354.out 4).trans rfl⟩ (fun hHeld => ?_)
  clear hK K
  refine norm_ (a' := ?_) ?_ ?_
  rotate_left
  ·show Zg _ (some 17) _ = _
   simp only [Zg, Qe, Qj, Qk, i64_w, i32_w]
   rfl
  refine one_ (i := 3) (N := none) #[true, true, true, true, false] rfl rfl (by kernel_rfl) (by decide) (fun K hK => ?_)
  have hs45 : w44.cell? ⟨gb339, 0, none⟩ = some (.int .i64 0) := (Qb BK339.out 0).trans rfl
  have hfs45 := Qc BK339.out 0
  have hns45_1 := NB340_339.out
  have hns45_2 := NB354_339.out
  have hms45_1 := NB339_340.out
  have hms45_2 := NB339_354.out
  have hs46 : w44.cell? ⟨gb339, 1, none⟩ = some (.int .i64 0) := (Qb BK339.out 1).trans rfl
  have hfs46 := Qc BK339.out 1
  have hns46_1 := NB340_339.out
  have hns46_2 := NB354_339.out
  have hms46_1 := NB339_340.out
  have hms46_2 := NB339_354.out
  have hs47 : w44.cell? ⟨gb339, 2, none⟩ = some (.int .i64 0) := (Qb BK339.out 2).trans rfl
  have hfs47 := Qc BK339.out 2
  have hns47_1 := NB340_339.out
  have hns47_2 := NB354_339.out
  have hms47_1 := NB339_340.out
  have hms47_2 := NB339_354.out
  have hs48 : w44.cell? ⟨gb339, 3, none⟩ = some (.int .i64 0) := (Qb BK339.out 3).trans rfl
  have hfs48 := Qc BK339.out 3
  have hns48_1 := NB340_339.out
  have hns48_2 := NB354_339.out
  have hms48_1 := NB339_340.out
  have hms48_2 := NB339_354.out
  have hs49 : w44.cell? ⟨gb339, 4, none⟩ = some (.slice none 0 0) := (Qb BK339.out 4).trans rfl
  have hfs49 := Qc BK339.out 4
  have hns49_1 := NB340_339.out
  have hns49_2 := NB354_339.out
  have hms49_1 := NB339_340.out
  have hms49_2 := NB339_354.out
  refine skip_ (w1 := ?_) (by rfl) rfl ?_ ?_
  rotate_left
  ·go_simp
   rfl
  refine hK.out _ _ ⟨((Qw (p := ⟨gb339, _, none⟩) NB354_339.out _).trans (((Qw (p := ⟨gb339, _, none⟩) NB354_339.out _).trans (((Qw (p := ⟨gb339, _, none⟩) NB354_339.out _).trans (((Qw (p := ⟨gb339, _, none⟩) NB354_339.out _).trans (((Qw (p := ⟨gb339, _, none⟩) NB354_339.out _).trans (hHeld.1)))))))))), ((Qw (p := ⟨gb339, _, none⟩) NB354_339.out _).trans (((Qw (p := ⟨gb339, _, none⟩) NB354_339.out _).trans (((Qw (p := ⟨gb339, _, none⟩) NB354_339.out _).trans (((Qw (p := ⟨gb339, _, none⟩) NB354_339.out _).trans (((Qw (p := ⟨gb339, _, none⟩) NB354_339.out _).trans (hHeld.2.1)))))))))), ((Qw (p := ⟨gb339, _, none⟩) NB354_339.out _).trans (((Qw (p := ⟨gb339, _, none⟩) NB354_339.out _).trans (((Qw (p := ⟨gb339, _, none⟩) NB354_339.out _).trans (((Qw (p := ⟨gb339, _, none⟩) NB354_339.out _).trans (((Qw (p := ⟨gb339, _, none⟩) NB354_339.out _).trans (hHeld.2.2.1)))))))))), ((Qw (p := ⟨gb339, _, none⟩) NB354_339.out _).trans (((Qw (p := ⟨gb339, _, none⟩) NB354_339.out _).trans (((Qw (p := ⟨gb339, _, none⟩) NB354_339.out _).trans (((Qw (p := ⟨gb339, _, none⟩) NB354_339.out _).trans (((Qw (p := ⟨gb339, _, none⟩) NB354_339.out _).trans (hHeld.2.2.2.1)))))))))), ((Qw (p := ⟨gb339, _, none⟩) NB354_339.out _).trans (((Qw (p := ⟨gb339, _, none⟩) NB354_339.out _).trans (((Qw (p := ⟨gb339, _, none⟩) NB354_339.out _).trans (((Qw (p := ⟨gb339, _, none⟩) NB354_339.out _).trans (((Qw (p := ⟨gb339, _, none⟩) NB354_339.out _).trans (hHeld.2.2.2.2))))))))))⟩ (fun hHeld => ?_)
  clear hK K
  refine one_ (i := 4) (N := none) #[true, true, true, true, true] rfl rfl (by kernel_rfl) (by decide) (fun K hK => ?_)
  have hs50 : w44.cell? ⟨gb340, 0, none⟩ = some (.int .i64 0) := (Qb BK340.out 0).trans rfl
  have hfs50 := Qc BK340.out 0
  have hns50_0 := NB339_340.out
  have hns50_2 := NB354_340.out
  have hms50_0 := NB340_339.out
  have hms50_2 := NB340_354.out
  have hs51 : w44.cell? ⟨gb340, 1, none⟩ = some (.int .i64 0) := (Qb BK340.out 1).trans rfl
  have hfs51 := Qc BK340.out 1
  have hns51_0 := NB339_340.out
  have hns51_2 := NB354_340.out
  have hms51_0 := NB340_339.out
  have hms51_2 := NB340_354.out
  have hs52 : w44.cell? ⟨gb340, 2, none⟩ = some (.int .i64 0) := (Qb BK340.out 2).trans rfl
  have hfs52 := Qc BK340.out 2
  have hns52_0 := NB339_340.out
  have hns52_2 := NB354_340.out
  have hms52_0 := NB340_339.out
  have hms52_2 := NB340_354.out
  have hs53 : w44.cell? ⟨gb340, 3, none⟩ = some (.int .i64 0) := (Qb BK340.out 3).trans rfl
  have hfs53 := Qc BK340.out 3
  have hns53_0 := NB339_340.out
  have hns53_2 := NB354_340.out
  have hms53_0 := NB340_339.out
  have hms53_2 := NB340_354.out
  have hs55 : w44.cell? ⟨gb340, 4, none⟩ = some (.slice none 0 0) := (Qb BK340.out 4).trans rfl
  have hfs55 := Qc BK340.out 4
  have hns55_0 := NB339_340.out
  have hns55_2 := NB354_340.out
  have hms55_0 := NB340_339.out
  have hms55_2 := NB340_354.out
  refine skip_ (w1 := ?_) (by rfl) rfl ?_ ?_
  rotate_left
  ·go_simp
   rfl
  refine hK.out _ _ ⟨((Qw (p := ⟨gb340, _, none⟩) NB354_340.out _).trans (((Qw (p := ⟨gb340, _, none⟩) NB354_340.out _).trans (((Qw (p := ⟨gb340, _, none⟩) NB354_340.out _).trans (((Qw (p := ⟨gb340, _, none⟩) NB354_340.out _).trans (((Qw (p := ⟨gb340, _, none⟩) NB354_340.out _).trans (hHeld.1)))))))))), ((Qw (p := ⟨gb340, _, none⟩) NB354_340.out _).trans (((Qw (p := ⟨gb340, _, none⟩) NB354_340.out _).trans (((Qw (p := ⟨gb340, _, none⟩) NB354_340.out _).trans (((Qw (p := ⟨gb340, _, none⟩) NB354_340.out _).trans (((Qw (p := ⟨gb340, _, none⟩) NB354_340.out _).trans (hHeld.2.1)))))))))), ((Qw (p := ⟨gb340, _, none⟩) NB354_340.out _).trans (((Qw (p := ⟨gb340, _, none⟩) NB354_340.out _).trans (((Qw (p := ⟨gb340, _, none⟩) NB354_340.out _).trans (((Qw (p := ⟨gb340, _, none⟩) NB354_340.out _).trans (((Qw (p := ⟨gb340, _, none⟩) NB354_340.out _).trans (hHeld.2.2.1)))))))))), ((Qw (p := ⟨gb340, _, none⟩) NB354_340.out _).trans (((Qw (p := ⟨gb340, _, none⟩) NB354_340.out _).trans (((Qw (p := ⟨gb340, _, none⟩) NB354_340.out _).trans (((Qw (p := ⟨gb340, _, none⟩) NB354_340.out _).trans (((Qw (p := ⟨gb340, _, none⟩) NB354_340.out _).trans (hHeld.2.2.2.1)))))))))), ((Qw (p := ⟨gb340, _, none⟩) NB354_340.out _).trans (((Qw (p := ⟨gb340, _, none⟩) NB354_340.out _).trans (((Qw (p := ⟨gb340, _, none⟩) NB354_340.out _).trans (((Qw (p := ⟨gb340, _, none⟩) NB354_340.out _).trans (((Qw (p := ⟨gb340, _, none⟩) NB354_340.out _).trans (hHeld.2.2.2.2))))))))))⟩ (fun hHeld => ?_)
  clear hK K
  refine done_ (by kernel_rfl) ?_
  try go_wp2
  refine bodyPost_ret (results_cc rfl _ _ gb339 gb340 32 32 #[.int .i64 t345, .int .i64 t346, .int .i64 t347, .int .i64 t348, .slice Ao41 t349.length co41] #[.int .i64 t365, .int .i64 t366, .int .i64 t367, .int .i64 t368, .slice Ao54 t369.length co54] (0, 0) (0, 0) _ _ rfl (by (iterate 5 ((with_reducible repeat (first | refine Qg ?_ _ | refine Qh ?_ | refine Qf ?_ _)); refine blk_far ?_ NB339_340.out _)); (with_reducible repeat (first | refine Qg ?_ _ | refine Qh ?_ | refine Qf ?_ _)); refine Qr (cs := #[.int .i64 t345, .int .i64 t346, .int .i64 t347, .int .i64 t348, .slice none 0 0]) ?_ 4 _ rfl; (with_reducible repeat (first | refine Qg ?_ _ | refine Qh ?_ | refine Qf ?_ _)); refine Qr (cs := #[.int .i64 t345, .int .i64 t346, .int .i64 t347, .int .i64 0, .slice none 0 0]) ?_ 3 _ rfl; (with_reducible repeat (first | refine Qg ?_ _ | refine Qh ?_ | refine Qf ?_ _)); refine Qr (cs := #[.int .i64 t345, .int .i64 t346, .int .i64 0, .int .i64 0, .slice none 0 0]) ?_ 2 _ rfl; (with_reducible repeat (first | refine Qg ?_ _ | refine Qh ?_ | refine Qf ?_ _)); refine Qr (cs := #[.int .i64 t345, .int .i64 0, .int .i64 0, .int .i64 0, .slice none 0 0]) ?_ 1 _ rfl; (with_reducible repeat (first | refine Qg ?_ _ | refine Qh ?_ | refine Qf ?_ _)); refine Qr (cs := #[.int .i64 0, .int .i64 0, .int .i64 0, .int .i64 0, .slice none 0 0]) ?_ 0 _ rfl; (with_reducible repeat (first | refine Qg ?_ _ | refine Qh ?_ | refine Qf ?_ _)); exact BK339.out) Zt rfl (by kernel_rfl) rfl (by (with_reducible repeat (first | refine Qg ?_ _ | refine Qh ?_ | refine Qf ?_ _)); refine Qr (cs := #[.int .i64 t365, .int .i64 t366, .int .i64 t367, .int .i64 t368, .slice none 0 0]) ?_ 4 _ rfl; (with_reducible repeat (first | refine Qg ?_ _ | refine Qh ?_ | refine Qf ?_ _)); refine Qr (cs := #[.int .i64 t365, .int .i64 t366, .int .i64 t367, .int .i64 0, .slice none 0 0]) ?_ 3 _ rfl; (with_reducible repeat (first | refine Qg ?_ _ | refine Qh ?_ | refine Qf ?_ _)); refine Qr (cs := #[.int .i64 t365, .int .i64 t366, .int .i64 0, .int .i64 0, .slice none 0 0]) ?_ 2 _ rfl; (with_reducible repeat (first | refine Qg ?_ _ | refine Qh ?_ | refine Qf ?_ _)); refine Qr (cs := #[.int .i64 t365, .int .i64 0, .int .i64 0, .int .i64 0, .slice none 0 0]) ?_ 1 _ rfl; (with_reducible repeat (first | refine Qg ?_ _ | refine Qh ?_ | refine Qf ?_ _)); refine Qr (cs := #[.int .i64 0, .int .i64 0, .int .i64 0, .int .i64 0, .slice none 0 0]) ?_ 0 _ rfl; (iterate 5 ((with_reducible repeat (first | refine Qg ?_ _ | refine Qh ?_ | refine Qf ?_ _)); refine blk_far ?_ NB340_339.out _)); (with_reducible repeat (first | refine Qg ?_ _ | refine Qh ?_ | refine Qf ?_ _)); exact BK340.out) Zt rfl (by kernel_rfl)) rfl ?_
  exact ⟨_, _, by first | rfl | (simp [errW_none, errW_some] <;> rfl) | (simp [*, errW_none, errW_some] <;> rfl), by (with_reducible repeat (first | apply Kd.R_alloc | apply Kd.R_drewN | apply Kd.R_drew)); exact Zq (Zj (p := ⟨gb340, 4, none⟩) (Zj (p := ⟨gb340, 3, none⟩) (Zj (p := ⟨gb340, 2, none⟩) (Zj (p := ⟨gb340, 1, none⟩) (Zj (p := ⟨gb340, 0, none⟩) (Zj (p := ⟨gb339, 4, none⟩) (Zj (p := ⟨gb339, 3, none⟩) (Zj (p := ⟨gb339, 2, none⟩) (Zj (p := ⟨gb339, 1, none⟩) (Zj (p := ⟨gb339, 0, none⟩) (Zq (Zq HO351.out (fun k_ hk => (⟨hk, hk.1.1.1.2⟩ : _ ∧ k_ ≠ gb339))) (fun k_ hk => (⟨hk, hk.1.1.1.2⟩ : _ ∧ k_ ≠ gb340))) (fun _ hk => hk.1.2) (.int .i64 t345)) (fun _ hk => hk.1.2) (.int .i64 t346)) (fun _ hk => hk.1.2) (.int .i64 t347)) (fun _ hk => hk.1.2) (.int .i64 t348)) (fun _ hk => hk.1.2) (.slice Ao41 t349.length co41)) (fun _ hk => hk.2) (.int .i64 t365)) (fun _ hk => hk.2) (.int .i64 t366)) (fun _ hk => hk.2) (.int .i64 t367)) (fun _ hk => hk.2) (.int .i64 t368)) (fun _ hk => hk.2) (.slice Ao54 t369.length co54)) (fun _ hk => hk.1.1.2), by (with_reducible repeat (first | apply Kd.R_alloc | apply Kd.R_drewN | apply Kd.R_drew)); exact Zq (Zj (p := ⟨gb340, 4, none⟩) (Zj (p := ⟨gb340, 3, none⟩) (Zj (p := ⟨gb340, 2, none⟩) (Zj (p := ⟨gb340, 1, none⟩) (Zj (p := ⟨gb340, 0, none⟩) (Zj (p := ⟨gb339, 4, none⟩) (Zj (p := ⟨gb339, 3, none⟩) (Zj (p := ⟨gb339, 2, none⟩) (Zj (p := ⟨gb339, 1, none⟩) (Zj (p := ⟨gb339, 0, none⟩) (Zq (Zq HO371.out (fun k_ hk => (⟨hk, hk.1.1.2⟩ : _ ∧ k_ ≠ gb339))) (fun k_ hk => (⟨hk, hk.1.1.2⟩ : _ ∧ k_ ≠ gb340))) (fun _ hk => hk.1.2) (.int .i64 t345)) (fun _ hk => hk.1.2) (.int .i64 t346)) (fun _ hk => hk.1.2) (.int .i64 t347)) (fun _ hk => hk.1.2) (.int .i64 t348)) (fun _ hk => hk.1.2) (.slice Ao41 t349.length co41)) (fun _ hk => hk.2) (.int .i64 t365)) (fun _ hk => hk.2) (.int .i64 t366)) (fun _ hk => hk.2) (.int .i64 t367)) (fun _ hk => hk.2) (.int .i64 t368)) (fun _ hk => hk.2) (.slice Ao54 t369.length co54)) (fun _ hk => hk.1.1.1.1.1.2), by repeat (first | (with_reducible first | exact HB.out | apply Za | apply Qp | apply Qu | refine Ql ?_ (IsS99.ge HI344.out) | refine Ql ?_ GE339.out | refine Ql ?_ GE340.out | refine Ql ?_ GE354.out) | exact HB.out)⟩
def spec_DrawFreeLogic.f (k : Nat) (l0 : List Int) : Option (Int × Int × Int × Int × (List (S32))) := (spec_l1New.f k l0).bind fun bt375 => ((spec_l10Bent.f k bt375.1 bt375.2.1 bt375.2.2).bind fun bt379 => (some (bt379.1, bt379.2.1, bt379.2.2.1, bt379.2.2.2.1, bt379.2.2.2.2.1)))
theorem spec_DrawFreeLogic.mono : ∀ a0 k, LeO (spec_DrawFreeLogic.f k a0) (spec_DrawFreeLogic.f (k + 1) a0) := by
 intro a0 k
 unfold spec_DrawFreeLogic.f
 repeat' first
   | (with_reducible exact spec_l10Bent.mono _ _ _ _)
   | (with_reducible exact spec_l1New.mono _ _)
   | (with_reducible exact LeO.refl _)
   | (with_reducible exact LeO.none _)
   | (with_reducible refine LeO.ite ?_ ?_)
   | (with_reducible refine LeO.bind ?_ (fun _ => ?_))
   | exact spec_l10Bent.mono _ _ _ _
   | exact spec_l1New.mono _ _
   | exact LeO.none _
   | refine LeO.ite ?_ ?_
   | refine LeO.bind ?_ (fun _ => ?_)
set_option maxHeartbeats 8000000 in
set_option maxRecDepth 100000 in
theorem spec_DrawFreeLogic.calls (k : Nat) (A0 : Option Addr) (c0 : Nat) (l0 : List Int) (r1 : Int) (r2 : Int) (r3 : Int) (r4 : Int) (r5 : List (S32)) (w : World) (hr0 : Kd.C (Kd.int .u8) w A0 l0.length l0) (hc0 : l0.length ≤ c0) (h : spec_DrawFreeLogic.f k l0 = some (r1, r2, r3, r4, r5)) :
  Calls Try.prog 34 #[.slice A0 l0.length c0] w fun e w' => ∃ v4_ : Value, e = .returned (.agg #[.int .i64 r1, .int .i64 r2, .int .i64 r3, .int .i64 r4, v4_]) ∧ Kd.R k32 32 w' w.heap.size (fun _ => True) v4_ r5 ∧ Below w.heap.size w w' := by
 have hu32 := Zt
 have HR0 := Qa hr0
 have HC0 := Qa hc0
 clear hr0 hc0
 have HB := Qa (Below.refl w.heap.size w)
 have H : ((spec_l1New.f k l0).bind fun bt375 => ((spec_l10Bent.f k bt375.1 bt375.2.1 bt375.2.2).bind fun bt379 => (some (bt379.1, bt379.2.1, bt379.2.2.1, bt379.2.2.2.1, bt379.2.2.2.2.1)))) = some (r1, r2, r3, r4, r5) := h
 clear h
 replace H := Qi.mp H
 obtain ⟨⟨t375, t376, t377⟩, A20, H⟩ := H
 replace H : ((spec_l10Bent.f k t375 t376 t377).bind fun bt379 => (some (bt379.1, bt379.2.1, bt379.2.2.1, bt379.2.2.2.1, bt379.2.2.2.2.1))) = some (r1, r2, r3, r4, r5) := H
 have A2 := Qa A20
 clear A20
 replace H := Qi.mp H
 obtain ⟨⟨t379, t380, t381, t382, t383, t386, t387⟩, A30, H⟩ := H
 replace H : (some (t379, t380, t381, t382, t383)) = some (r1, r2, r3, r4, r5) := H
 have A3 := Qa A30
 clear A30
 simp only [Xj, Prod.mk.injEq] at H
 obtain ⟨rfl, rfl, rfl, rfl, rfl⟩ := H
 go_enter Try.func34, Try.ntmps34
 go_wp2_with (first | ((with_reducible refine gate_dst (N := 2) rfl ?_); refine box_event ?hg (N := 2) ?hd (cs := #[.int .i64 0, .int .i64 0, .int .i64 0, .int .i64 0, .slice none 0 0]) (t := 32) ?hr ?_; (case hd => rfl); (case hg => rfl); (case hr => first | (go_simp; done) | (go_simp; rfl)); intro gb374 hg w4 hbox hb; have BK374 := Qa (hbox); have GW374 := Qa ((by rw [hg]; exact (Qv (Bb0 HB.out)) : w.heap.size ≤ gb374)); have GE374 := Qa ((by rw [hg]; exact (Qv (Bb0 HB.out)) : w.heap.size ≤ gb374)); replace HB := Qa (below_step (Bb0 HB.out) hb); clear hb hbox hg) | ((with_reducible refine Zf (f := 51) rfl ?_); refine goesL_ (some 4) rfl rfl Try.func51 (by kernel_rfl) rfl #[.slice A0 l0.length c0] rfl (by (try simp only [Qm, Qt, Zb]); first | done | rfl | (simp only [Qn, Qo]; rfl)) ?_; (with_reducible refine (spec_l1New.calls k _ _ l0 t375 t376 t377 w _ ?side1 ?side2 ?side3 A2.out).mono ?_); (case side1 => repeat (first | (with_reducible first | exact HB.out | apply Za | apply Qp | apply Qu | refine Ql ?_ GE374.out) | exact HB.out)); (case side2 => exact HR0.out); (case side3 => exact HC0.out); rintro e w5 ⟨g378, rfl, hi, hb, hb2⟩; refine ⟨_, rfl, ?_⟩; replace HB := Qa (hb); have HI378 := Qa (hi); have NB378_374 := Qa (IsS99.ne_blk hi (Qy (g := gb374) (o := .cells #[.int .i64 0, .int .i64 0, .int .i64 0, .int .i64 0, .slice none 0 0] 32 (0, 0)) (Ba BK374.out) hb2) (by decide)); have NB374_378 := Qa (Ne.symm (IsS99.ne_blk hi (Qy (g := gb374) (o := .cells #[.int .i64 0, .int .i64 0, .int .i64 0, .int .i64 0, .slice none 0 0] 32 (0, 0)) (Ba BK374.out) hb2) (by decide))); replace BK374 := Qa (Qy (g := gb374) (o := .cells #[.int .i64 0, .int .i64 0, .int .i64 0, .int .i64 0, .slice none 0 0] 32 (0, 0)) (Ba BK374.out) hb2); (try clear hb); (try clear hb2); (try clear hk); (try clear hi)) | ((with_reducible refine Zf (f := 50) rfl ?_); refine goesL_ (some 5) rfl rfl Try.func50 (by kernel_rfl) rfl #[.pointer (some ⟨g378, 0, none⟩)] rfl (by (try simp only [Qm, Qt, Zb]); first | done | rfl | (simp only [Qn, Qo]; rfl)) ?_; (with_reducible refine (spec_l10Bent.calls k g378 t375 t376 t377 t379 t380 t381 t382 t383 t386 t387 w _ ?side1 ?side2 A3.out).mono ?_); (case side1 => repeat (first | (with_reducible first | exact HI378.out | apply IsS99.alloc | apply IsS99.drewN | apply IsS99.drew | apply IsS99.set_1 | apply IsS99.set_2 | refine IsS99.far ?_ NB378_374.out _) | exact HI378.out)); (case side2 => repeat (first | (with_reducible first | exact HB.out | apply Za | apply Qp | apply Qu | refine Ql ?_ (IsS99.ge HI378.out) | refine Ql ?_ GE374.out) | exact HB.out)); rintro e w6 ⟨v384, rfl, ho0, hi, hb, hk⟩; refine ⟨_, rfl, ?_⟩; have HO385 := Qa (Kd.R_lower (Kd.R_newB ho0 (g := gb374) (o := .cells #[.int .i64 0, .int .i64 0, .int .i64 0, .int .i64 0, .slice none 0 0] 32 (0, 0)) (Ba BK374.out)) (Qv (Bb2 HB.out (IsS99.ge HI378.out) GE374.out))); replace BK374 := Qa (Zr hk (g' := gb374) (o := .cells #[.int .i64 0, .int .i64 0, .int .i64 0, .int .i64 0, .slice none 0 0] 32 (0, 0)) (Ba BK374.out) NB374_378.out (by simp)); replace HB := Qa (hb); replace HI378 := Qa (hi); (try clear hb); (try clear hb2); (try clear hk); (try clear hi); (try clear ho0); have hnb7 := NB374_378.out; have hnc7 := NB378_374.out; have q8_0 : w6.cell? ⟨gb374, 0, none⟩ = some (.int .i64 0) := (Qb BK374.out 0).trans rfl; have q8_1 : w6.cell? ⟨gb374, 1, none⟩ = some (.int .i64 0) := (Qb BK374.out 1).trans rfl; have q8_2 : w6.cell? ⟨gb374, 2, none⟩ = some (.int .i64 0) := (Qb BK374.out 2).trans rfl; have q8_3 : w6.cell? ⟨gb374, 3, none⟩ = some (.int .i64 0) := (Qb BK374.out 3).trans rfl; have q8_4 : w6.cell? ⟨gb374, 4, none⟩ = some (.slice none 0 0) := (Qb BK374.out 4).trans rfl; have u8_0 := Qc BK374.out 0; have u8_1 := Qc BK374.out 1; have u8_2 := Qc BK374.out 2; have u8_3 := Qc BK374.out 3; have u8_4 := Qc BK374.out 4; obtain ⟨Ao9, co9, eo9⟩ := Kd.R_slice HO385.out; subst eo9))
 refine bodyPost_ret (results_cell_row rfl _ _ gb374 32 #[.int .i64 t379, .int .i64 t380, .int .i64 t381, .int .i64 t382, .slice Ao9 t383.length co9] (0, 0) _ rfl (by (with_reducible repeat (first | refine Qg ?_ _ | refine Qh ?_ | refine Qf ?_ _)); refine Qr (cs := #[.int .i64 t379, .int .i64 t380, .int .i64 t381, .int .i64 t382, .slice none 0 0]) ?_ 4 _ rfl; (with_reducible repeat (first | refine Qg ?_ _ | refine Qh ?_ | refine Qf ?_ _)); refine Qr (cs := #[.int .i64 t379, .int .i64 t380, .int .i64 t381, .int .i64 0, .slice none 0 0]) ?_ 3 _ rfl; (with_reducible repeat (first | refine Qg ?_ _ | refine Qh ?_ | refine Qf ?_ _)); refine Qr (cs := #[.int .i64 t379, .int .i64 t380, .int .i64 0, .int .i64 0, .slice none 0 0]) ?_ 2 _ rfl; (with_reducible repeat (first | refine Qg ?_ _ | refine Qh ?_ | refine Qf ?_ _)); refine Qr (cs := #[.int .i64 t379, .int .i64 0, .int .i64 0, .int .i64 0, .slice none 0 0]) ?_ 1 _ rfl; (with_reducible repeat (first | refine Qg ?_ _ | refine Qh ?_ | refine Qf ?_ _)); refine Qr (cs := #[.int .i64 0, .int .i64 0, .int .i64 0, .int .i64 0, .slice none 0 0]) ?_ 0 _ rfl; (with_reducible repeat (first | refine Qg ?_ _ | refine Qh ?_ | refine Qf ?_ _)); exact BK374.out) Zt rfl (by kernel_rfl)) rfl ?_
 exact ⟨_, by first | rfl | (simp [errW_none, errW_some] <;> rfl) | (simp [*, errW_none, errW_some] <;> rfl), by (with_reducible repeat (first | apply Kd.R_alloc | apply Kd.R_drewN | apply Kd.R_drew)); exact Zq (Zj (p := ⟨gb374, 4, none⟩) (Zj (p := ⟨gb374, 3, none⟩) (Zj (p := ⟨gb374, 2, none⟩) (Zj (p := ⟨gb374, 1, none⟩) (Zj (p := ⟨gb374, 0, none⟩) (Zq HO385.out (fun k_ hk => (⟨hk, hk.2⟩ : _ ∧ k_ ≠ gb374))) (fun _ hk => hk.2) (.int .i64 t379)) (fun _ hk => hk.2) (.int .i64 t380)) (fun _ hk => hk.2) (.int .i64 t381)) (fun _ hk => hk.2) (.int .i64 t382)) (fun _ hk => hk.2) (.slice Ao9 t383.length co9)) (fun _ hk => trivial), by repeat (first | (with_reducible first | exact HB.out | apply Za | apply Qp | apply Qu | refine Ql ?_ (IsS99.ge HI378.out) | refine Ql ?_ GE374.out) | exact HB.out)⟩
def spec_DrawArityOf.f (k : Nat) (l0 : List Int) : Option (Int) := (spec_l1New.f k l0).bind fun bt388 => ((spec_l1Below.f bt388.1 bt388.2.1 bt388.2.2 16).bind fun bt392 => (some (wrap64 (bt392.1 - 1))))
theorem spec_DrawArityOf.mono : ∀ a0 k, LeO (spec_DrawArityOf.f k a0) (spec_DrawArityOf.f (k + 1) a0) := by
 intro a0 k
 unfold spec_DrawArityOf.f
 repeat' first
   | (with_reducible exact spec_l1New.mono _ _)
   | (with_reducible exact LeO.refl _)
   | (with_reducible exact LeO.none _)
   | (with_reducible refine LeO.ite ?_ ?_)
   | (with_reducible refine LeO.bind ?_ (fun _ => ?_))
   | exact spec_l1New.mono _ _
   | exact LeO.none _
   | refine LeO.ite ?_ ?_
   | refine LeO.bind ?_ (fun _ => ?_)
set_option maxHeartbeats 8000000 in
set_option maxRecDepth 100000 in
theorem spec_DrawArityOf.calls (k : Nat) (A0 : Option Addr) (c0 : Nat) (l0 : List Int) (r : Int) (w : World) (hr0 : Kd.C (Kd.int .u8) w A0 l0.length l0) (hc0 : l0.length ≤ c0) (h : spec_DrawArityOf.f k l0 = some r) :
  Calls Try.prog 35 #[.slice A0 l0.length c0] w fun e w' => e = .returned (.int .i64 r) ∧ Below w.heap.size w w' := by
 have HR0 := Qa hr0
 have HC0 := Qa hc0
 clear hr0 hc0
 have HB := Qa (Below.refl w.heap.size w)
 have H : ((spec_l1New.f k l0).bind fun bt388 => ((spec_l1Below.f bt388.1 bt388.2.1 bt388.2.2 16).bind fun bt392 => (some (wrap64 (bt392.1 - 1))))) = some r := h
 clear h
 replace H := Qi.mp H
 obtain ⟨⟨t388, t389, t390⟩, A20, H⟩ := H
 replace H : ((spec_l1Below.f t388 t389 t390 16).bind fun bt392 => (some (wrap64 (bt392.1 - 1)))) = some r := H
 have A2 := Qa A20
 clear A20
 replace H := Qi.mp H
 obtain ⟨⟨t392, t393, t394⟩, A30, H⟩ := H
 replace H : (some (wrap64 (t392 - 1))) = some r := H
 have A3 := Qa A30
 clear A30
 obtain rfl := Qs H
 go_enter Try.func35, Try.ntmps35
 go_wp2_with (first | ((with_reducible refine Zf (f := 51) rfl ?_); refine goesL_ (some 4) rfl rfl Try.func51 (by kernel_rfl) rfl #[.slice A0 l0.length c0] rfl (by (try simp only [Qm, Qt, Zb]); first | done | rfl | (simp only [Qn, Qo]; rfl)) ?_; (with_reducible refine (spec_l1New.calls k _ _ l0 t388 t389 t390 w _ ?side1 ?side2 ?side3 A2.out).mono ?_); (case side1 => repeat (first | (with_reducible first | exact HB.out | apply Za | apply Qp | apply Qu) | exact HB.out)); (case side2 => exact HR0.out); (case side3 => exact HC0.out); rintro e w4 ⟨g391, rfl, hi, hb, hb2⟩; refine ⟨_, rfl, ?_⟩; replace HB := Qa (hb); have HI391 := Qa (hi); (try clear hb); (try clear hb2); (try clear hk); (try clear hi)) | ((with_reducible refine Zf (f := 70) rfl ?_); refine goesL_ (some 5) rfl rfl Try.func70 (by kernel_rfl) rfl #[.pointer (some ⟨g391, 0, none⟩), .int .i64 16] rfl (by (try simp only [Qm, Qt, Zb]); first | done | rfl | (simp only [Qn, Qo]; rfl)) ?_; (with_reducible refine (spec_l1Below.calls g391 t388 t389 t390 16 t392 t393 t394 w _ ?side1 ?side2 A3.out).mono ?_); (case side1 => repeat (first | (with_reducible first | exact HI391.out | apply IsS99.alloc | apply IsS99.drewN | apply IsS99.drew | apply IsS99.set_1 | apply IsS99.set_2) | exact HI391.out)); (case side2 => repeat (first | (with_reducible first | exact HB.out | apply Za | apply Qp | apply Qu | refine Ql ?_ (IsS99.ge HI391.out)) | exact HB.out)); rintro e w5 ⟨rfl, hi, hb, hk⟩; refine ⟨_, rfl, ?_⟩; replace HB := Qa (hb); replace HI391 := Qa (hi); (try clear hb); (try clear hb2); (try clear hk); (try clear hi)))
 go_ret
 exact ⟨by first | rfl | (simp [errW_none, errW_some] <;> rfl) | (simp [*, errW_none, errW_some] <;> rfl), by repeat (first | (with_reducible first | exact HB.out | apply Za | apply Qp | apply Qu | refine Ql ?_ (IsS99.ge HI391.out)) | exact HB.out)⟩
def impl_ArityOf.j0 : Nat → Int → Bool → Option (Int)
 | 0, _, _ => none
 | k + 1, x0, x6 => if x6 = true then (some 1) else (if x0 = 9 then (some 2) else (if x0 = 10 then (some 2) else (some (-1))))
def impl_ArityOf.f (k : Nat) (a0 : Int) : Option (Int) := (impl_within.f a0 1 7).bind fun t395 => (if t395 = true then (some 0) else (if a0 = 8 then (impl_ArityOf.j0 k a0 true) else (if a0 = 11 then (impl_ArityOf.j0 k a0 true) else (impl_ArityOf.j0 k a0 (a0 == 12)))))
theorem impl_ArityOf.mono_l : ∀ k, (∀ y0 y1, LeO (impl_ArityOf.j0 k y0 y1) (impl_ArityOf.j0 (k + 1) y0 y1))
 | 0 => fun _ _ r h => by simp [impl_ArityOf.j0] at h
 | k + 1 => by
  have ih0 := impl_ArityOf.mono_l k
  ·intro y0 y1
   unfold impl_ArityOf.j0
   repeat' first
   | (with_reducible exact ih0 _ _)
   | (with_reducible exact LeO.refl _)
   | (with_reducible exact LeO.none _)
   | (with_reducible refine LeO.ite ?_ ?_)
   | (with_reducible refine LeO.bind ?_ (fun _ => ?_))
   | exact ih0 _ _
   | exact LeO.none _
   | refine LeO.ite ?_ ?_
   | refine LeO.bind ?_ (fun _ => ?_)
theorem impl_ArityOf.mono : ∀ a0 k, LeO (impl_ArityOf.f k a0) (impl_ArityOf.f (k + 1) a0) := by
 intro a0 k
 have ih0 := impl_ArityOf.mono_l k
 unfold impl_ArityOf.f
 repeat' first
   | (with_reducible exact ih0 _ _)
   | (with_reducible exact LeO.refl _)
   | (with_reducible exact LeO.none _)
   | (with_reducible refine LeO.ite ?_ ?_)
   | (with_reducible refine LeO.bind ?_ (fun _ => ?_))
   | exact ih0 _ _
   | exact LeO.none _
   | refine LeO.ite ?_ ?_
   | refine LeO.bind ?_ (fun _ => ?_)
set_option maxHeartbeats 8000000 in
set_option maxRecDepth 100000 in
theorem impl_ArityOf.calls (k : Nat) (a0 : Int) (r : Int) (w : World) (h : impl_ArityOf.f k a0 = some r) :
  Calls Try.prog 40 #[.int .i64 a0] w fun e w' => e = .returned (.int .i64 r) ∧ Drawn0 w w' := by
 have H : ((impl_within.f a0 1 7).bind fun t395 => (if t395 = true then (some 0) else (if a0 = 8 then (impl_ArityOf.j0 k a0 true) else (if a0 = 11 then (impl_ArityOf.j0 k a0 true) else (impl_ArityOf.j0 k a0 (a0 == 12)))))) = some r := h
 clear h
 replace H := Qi.mp H
 obtain ⟨t395, A20, H⟩ := H
 replace H : (if t395 = true then (some 0) else (if a0 = 8 then (impl_ArityOf.j0 k a0 true) else (if a0 = 11 then (impl_ArityOf.j0 k a0 true) else (impl_ArityOf.j0 k a0 (a0 == 12))))) = some r := H
 have A2 := Qa A20
 clear A20
 by_cases c3 : t395 = true
 ·subst c3
  have H1 : (some 0) = some r := by rw [if_pos rfl] at H; exact H
  clear H
  have H := H1
  clear H1
  obtain rfl := Qs H
  go_enter Try.func40, Try.ntmps40
  go_wp2_with (first | ((with_reducible refine Zf (f := 66) rfl ?_); refine goesL_ (some 5) rfl rfl Try.func66 (by kernel_rfl) rfl #[.int .i64 a0, .int .i64 1, .int .i64 7] rfl (by (try simp only [Qm, Qt, Zb]); first | done | rfl | (simp only [Qn, Qo]; rfl)) ?_; (with_reducible refine (impl_within.calls a0 1 7 true _ A2.out).mono ?_); rintro e w' ⟨rfl, ⟨nd, rfl⟩⟩; refine ⟨_, rfl, ?_⟩))
  go_ret
  exact ⟨by first | rfl | (simp; done) | (simp [*]; done), by repeat (first | exact Xf _ | apply Xg)⟩
 ·replace c3 := Xe.mpr c3
  subst c3
  have H1 : (if a0 = 8 then (impl_ArityOf.j0 k a0 true) else (if a0 = 11 then (impl_ArityOf.j0 k a0 true) else (impl_ArityOf.j0 k a0 (a0 == 12)))) = some r := by rw [if_neg (show ¬ (false = true) by decide)] at H; exact H
  clear H
  have H := H1
  clear H1
  have HC4 := Qa H
  clear H
  go_enter Try.func40, Try.ntmps40
  go_upto_region 3 with (first | ((with_reducible refine Zf (f := 66) rfl ?_); refine goesL_ (some 5) rfl rfl Try.func66 (by kernel_rfl) rfl #[.int .i64 a0, .int .i64 1, .int .i64 7] rfl (by (try simp only [Qm, Qt, Zb]); first | done | rfl | (simp only [Qn, Qo]; rfl)) ?_; (with_reducible refine (impl_within.calls a0 1 7 false _ A2.out).mono ?_); rintro e w' ⟨rfl, ⟨nd, rfl⟩⟩; refine ⟨_, rfl, ?_⟩))
  (try simp only [Zg, Qe, Qj, Qk])
  go_cut [6] (fun v6 wc => ∃ (kq : Nat) (x6_3 : Bool), v6 = .bool x6_3 ∧ Aside0 (impl_ArityOf.j0 kq a0 x6_3 = some r) ∧ Aside0 (kq ≤ k) ∧ Drawn0 w wc)
  case first =>
   have H := HC4.out
   clear HC4
   by_cases c5 : a0 = 8
   ·rw [if_pos c5] at H
    have c5b0 : (a0 == 8) = true := beq_iff_eq.mpr c5
    have c5b1 : (a0 != 8) = false := bne_eq_false_iff_eq.mpr c5
    clear c5
    (first | rw [c5b0] | (simp only [i64_w, i32_w]; rw [c5b0]) | skip)
    have H' := Qa H
    clear H
    go_wp2
    go_meet
    case rel => exact ⟨_, (true), (by first | rfl | (simp; done) | (simp [*]; done) | (simp; rw [Qx]; simp; done)), H', ⟨by first | omega | exact Nat.le_refl _⟩, by repeat (first | exact Xf _ | apply Xg)⟩
   ·rw [if_neg c5] at H
    have c5b0 : (a0 == 8) = false := beq_eq_false_iff_ne.mpr c5
    have c5b1 : (a0 != 8) = true := bne_iff_ne.mpr c5
    (first | rw [c5b0] | (simp only [i64_w, i32_w]; rw [c5b0]) | skip)
    by_cases c6 : a0 = 11
    ·rw [if_pos c6] at H
     have c6b0 : (a0 == 11) = true := beq_iff_eq.mpr c6
     have c6b1 : (a0 != 11) = false := bne_eq_false_iff_eq.mpr c6
     clear c6
     have H' := Qa H
     clear H
     go_wp2
     go_meet
     case rel => exact ⟨_, (true), (by first | rfl | (simp; done) | (simp [*]; done) | (simp; rw [Qx]; simp; done)), H', ⟨by first | omega | exact Nat.le_refl _⟩, by repeat (first | exact Xf _ | apply Xg)⟩
    ·rw [if_neg c6] at H
     have c6b0 : (a0 == 11) = false := beq_eq_false_iff_ne.mpr c6
     have c6b1 : (a0 != 11) = true := bne_iff_ne.mpr c6
     have H' := Qa H
     clear H
     go_wp2
     go_meet
     case rel => exact ⟨_, ((a0 == 12)), (by first | rfl | (simp; done) | (simp [*]; done) | (simp; rw [Qx]; simp; done)), H', ⟨by first | omega | exact Nat.le_refl _⟩, by repeat (first | exact Xf _ | apply Xg)⟩
  case rest =>
   clear HC4
   try clear p2
   try clear c3
   try clear c4
   try clear c5
   try clear c5b0
   try clear c5b1
   try clear c6
   try clear c6b0
   try clear c6b1
   obtain ⟨kq, x6_3, rfl, HA, HJ3, ⟨mc3, rfl⟩⟩ := hcut
   cases kq with
   | zero => exact absurd HA.out (by simp [impl_ArityOf.j0])
   | succ kj3 =>
    have H := HA.out
    clear HA
    simp only [impl_ArityOf.j0] at H
    by_cases c7 : x6_3 = true
    ·subst c7
     have H1 : (some 1) = some r := by rw [if_pos rfl] at H; exact H
     clear H
     have H := H1
     clear H1
     obtain rfl := Qs H
     go_wp2
     go_ret
     exact ⟨by first | rfl | (simp; done) | (simp [*]; done), by repeat (first | exact Xf _ | apply Xg)⟩
    ·replace c7 := Xe.mpr c7
     subst c7
     have H1 : (if a0 = 9 then (some 2) else (if a0 = 10 then (some 2) else (some (-1)))) = some r := by rw [if_neg (show ¬ (false = true) by decide)] at H; exact H
     clear H
     have H := H1
     clear H1
     by_cases c8 : a0 = 9
     ·rw [if_pos c8] at H
      have c8b0 : (a0 == 9) = true := beq_iff_eq.mpr c8
      have c8b1 : (a0 != 9) = false := bne_eq_false_iff_eq.mpr c8
      clear c8
      obtain rfl := Qs H
      go_wp2
      go_ret
      exact ⟨by first | rfl | (simp; done) | (simp [*]; done), by repeat (first | exact Xf _ | apply Xg)⟩
     ·rw [if_neg c8] at H
      have c8b0 : (a0 == 9) = false := beq_eq_false_iff_ne.mpr c8
      have c8b1 : (a0 != 9) = true := bne_iff_ne.mpr c8
      by_cases c9 : a0 = 10
      ·rw [if_pos c9] at H
       have c9b0 : (a0 == 10) = true := beq_iff_eq.mpr c9
       have c9b1 : (a0 != 10) = false := bne_eq_false_iff_eq.mpr c9
       clear c9
       obtain rfl := Qs H
       go_wp2
       go_ret
       exact ⟨by first | rfl | (simp; done) | (simp [*]; done), by repeat (first | exact Xf _ | apply Xg)⟩
      ·rw [if_neg c9] at H
       have c9b0 : (a0 == 10) = false := beq_eq_false_iff_ne.mpr c9
       have c9b1 : (a0 != 10) = true := bne_iff_ne.mpr c9
       obtain rfl := Qs H
       go_wp2
       go_ret
       exact ⟨by first | rfl | (simp; done) | (simp [*]; done), by repeat (first | exact Xf _ | apply Xg)⟩
def impl_isField.f (a0 : Int) (a1 : Bool) (a2 : Int) : Option (Bool) := if a1 = true then ((impl_within.f a0 0 (wrap64 (a2 - 1))).bind fun t396 => (if t396 = true then (some true) else (some false))) else (some (a0 == 0))
set_option maxHeartbeats 8000000 in
set_option maxRecDepth 100000 in
theorem impl_isField.calls (a0 : Int) (a1 : Bool) (a2 : Int) (r : Bool) (w : World) (h : impl_isField.f a0 a1 a2 = some r) :
  Calls Try.prog 104 #[.int .i64 a0, .bool a1, .int .i64 a2] w fun e w' => e = .returned (.bool r) ∧ Drawn0 w w' := by
 have H : (if a1 = true then ((impl_within.f a0 0 (wrap64 (a2 - 1))).bind fun t396 => (if t396 = true then (some true) else (some false))) else (some (a0 == 0))) = some r := h
 clear h
 by_cases c4 : a1 = true
 ·subst c4
  have H1 : ((impl_within.f a0 0 (wrap64 (a2 - 1))).bind fun t396 => (if t396 = true then (some true) else (some false))) = some r := by rw [if_pos rfl] at H; exact H
  clear H
  have H := H1
  clear H1
  replace H := Qi.mp H
  obtain ⟨t396, A50, H⟩ := H
  replace H : (if t396 = true then (some true) else (some false)) = some r := H
  have A5 := Qa A50
  clear A50
  by_cases c6 : t396 = true
  ·subst c6
   have H1 : (some true) = some r := by rw [if_pos rfl] at H; exact H
   clear H
   have H := H1
   clear H1
   obtain rfl := Qs H
   go_enter Try.func104, Try.ntmps104
   go_wp2_with (first | (go_at_call 66; (with_reducible refine (impl_within.calls a0 0 (wrap64 (a2 - 1)) true _ A5.out).mono ?_); rintro e w' ⟨rfl, ⟨nd, rfl⟩⟩))
   go_ret
   exact ⟨by first | rfl | (simp; done) | (simp [*]; done), by repeat (first | exact Xf _ | apply Xg)⟩
  ·replace c6 := Xe.mpr c6
   subst c6
   have H1 : (some false) = some r := by rw [if_neg (show ¬ (false = true) by decide)] at H; exact H
   clear H
   have H := H1
   clear H1
   obtain rfl := Qs H
   go_enter Try.func104, Try.ntmps104
   go_wp2_with (first | (go_at_call 66; (with_reducible refine (impl_within.calls a0 0 (wrap64 (a2 - 1)) false _ A5.out).mono ?_); rintro e w' ⟨rfl, ⟨nd, rfl⟩⟩))
   go_ret
   exact ⟨by first | rfl | (simp; done) | (simp [*]; done), by repeat (first | exact Xf _ | apply Xg)⟩
 ·replace c4 := Xe.mpr c4
  subst c4
  have H1 : (some (a0 == 0)) = some r := by rw [if_neg (show ¬ (false = true) by decide)] at H; exact H
  clear H
  have H := H1
  clear H1
  obtain rfl := Qs H
  go_enter Try.func104, Try.ntmps104
  go_wp2
  go_ret
  exact ⟨by first | rfl | (simp; done) | (simp [*]; done), by repeat (first | exact Xf _ | apply Xg)⟩
def impl_usesK.f (a0 : Int) : Option (Bool) := if a0 = 2 then (some true) else (some (a0 == 3))
set_option maxHeartbeats 8000000 in
set_option maxRecDepth 100000 in
theorem impl_usesK.calls (a0 : Int) (r : Bool) (w : World) (h : impl_usesK.f a0 = some r) :
  Calls Try.prog 105 #[.int .i64 a0] w fun e w' => e = .returned (.bool r) ∧ Drawn0 w w' := by
 have H : (if a0 = 2 then (some true) else (some (a0 == 3))) = some r := h
 clear h
 by_cases c2 : a0 = 2
 ·rw [if_pos c2] at H
  have c2b0 : (a0 == 2) = true := beq_iff_eq.mpr c2
  have c2b1 : (a0 != 2) = false := bne_eq_false_iff_eq.mpr c2
  clear c2
  obtain rfl := Qs H
  go_enter Try.func105, Try.ntmps105
  go_wp2
  go_ret
  exact ⟨by first | rfl | (simp; done) | (simp [*]; done), by repeat (first | exact Xf _ | apply Xg)⟩
 ·rw [if_neg c2] at H
  have c2b0 : (a0 == 2) = false := beq_eq_false_iff_ne.mpr c2
  have c2b1 : (a0 != 2) = true := bne_iff_ne.mpr c2
  obtain rfl := Qs H
  go_enter Try.func105, Try.ntmps105
  go_wp2
  go_ret
  exact ⟨by first | rfl | (simp; done) | (simp [*]; done), by repeat (first | exact Xf _ | apply Xg)⟩
end Go.Proofs.Ytoljagpjejpmpaa.PFnFormulas
