-- Laid by wip/tools/xprint.py (a program of this session over the kit's print). Not trusted: Lean checks it.
import Derived.Test.YtoljagpjejpmpaaXAuto
import Derived.Test.YtoljagpjejpmpaaPFnFormulasx0
import Derived.Test.YtoljagpjejpmpaaPFnFormulasx1
import Derived.Test.YtoljagpjejpmpaaPFnFormulasx3
import Derived.Test.YtoljagpjejpmpaaPFnFormulasx4
import Derived.Test.YtoljagpjejpmpaaPFnFormulasx6
import Derived.Test.YtoljagpjejpmpaaPFnFormulasx7
import Derived.Test.YtoljagpjejpmpaaPFnFormulasx8
import Derived.Test.YtoljagpjejpmpaaPFnFormulasx9
import Derived.Test.YtoljagpjejpmpaaPFnFormulasx11
import Derived.Test.YtoljagpjejpmpaaPFnFormulasx12
import Derived.Test.YtoljagpjejpmpaaPFnFormulasx13
namespace Go.Proofs.Ytoljagpjejpmpaa.PFnFormulas
open Go.RowKit Go.Proofs.YtoljagpjejpmpaaW.PrintWords Go.Proofs.YtoljagpjejpmpaaW.PrintLast Go.Proofs.YtoljagpjejpmpaaW.PrintMore
open Go.Proofs.YtoljagpjejpmpaaW.PrintWords.Aside0 renaming mk → Qa
open Go.Proofs.YtoljagpjejpmpaaW.PrintWords renaming blk_cell → Qb, blk_frozen → Qc, blk_alloc → Qf, blk_drewN → Qg, blk_drew → Qh, blk_put → Qr, below_size → Qv, blk_below → Qy, below_step → Zc, gate_callee → Zf
open List renaming setIfInBounds_toArray → Qe, set_cons_zero → Qj, set_cons_succ → Qk, map_toArray → Qm, length_drop → Qn, length_take → Qo, map_cons → Qt, map_nil → Zb
open Option renaming bind_eq_some_iff → Qi
open Go.RowKit renaming wrap64 → Qq
open Option.some renaming inj → Qs
open Bool renaming eq_iff_iff → Qx
open Go.Act renaming put → Zg
open Go.Proofs.YtoljagpjejpmpaaW.PrintWords.Kd renaming N_far → Zo, C_alloc → Zw, C_drewN → Zx, C_drew → Xb, N_mono → Xd, C_below → Xo, N_below → Xr
open Nat renaming ne_of_lt → Zp, ne_of_gt → Zy
open Go.Proofs.YtoljagpjejpmpaaW.PrintLast renaming i64_w → Xk, i32_w → Xn
open Or renaming inl → Xt
attribute [local go_sem] max2_int min2_int max_two min_two max_three min_three max_four min_four
set_option linter.unusedVariables false
set_option linter.unusedSimpArgs false
def laws_FnFormulas.l0 : Nat → List Int → Int → Int → Int → Int → Int → Int → Int → Int → List (S32) → Option (Bool)
 | 0, _, _, _, _, _, _, _, _, _, _ => none
 | k + 1, x0, x3, x5, x6, x7, x436000, x436001, x436002, x436003, x436004 => if x7 < (x436004.length : Int) then (if 0 ≤ x7 then ((impl_SizeOf.f k ((rd_T32 x436004 x7).f0) ((rd_T32 x436004 x7).f1) ((rd_T32 x436004 x7).f2) ((rd_T32 x436004 x7).f3) ((rd_T32 x436004 x7).f4)).bind fun t437 => ((impl_DepthOf.f k ((rd_T32 x436004 x7).f0) ((rd_T32 x436004 x7).f1) ((rd_T32 x436004 x7).f2) ((rd_T32 x436004 x7).f3) ((rd_T32 x436004 x7).f4)).bind fun t439 => (if t439 > x6 then ((impl_DepthOf.f k ((rd_T32 x436004 x7).f0) ((rd_T32 x436004 x7).f1) ((rd_T32 x436004 x7).f2) ((rd_T32 x436004 x7).f3) ((rd_T32 x436004 x7).f4)).bind fun t441 => (laws_FnFormulas.l0 k x0 x3 (Qq (x5 + t437)) t441 (Qq (x7 + 1)) x436000 x436001 x436002 x436003 x436004)) else (laws_FnFormulas.l0 k x0 x3 (Qq (x5 + t437)) x6 (Qq (x7 + 1)) x436000 x436001 x436002 x436003 x436004)))) else (none)) else ((spec_DrawEqualFormula.f k x0).bind fun bt442 => ((spec_DrawFreeLogic.f k x0).bind fun bt458 => ((spec_DrawArityOf.f k x0).bind fun t466 => ((impl_SizeOf.f k x436000 x436001 x436002 x436003 x436004).bind fun t467 => (if t467 = x5 then ((impl_DepthOf.f k x436000 x436001 x436002 x436003 x436004).bind fun t468 => (if t468 = (Qq (x6 + 1)) then ((impl_IsFormula.f k x3 x436000 x436001 x436002 x436003 x436004).bind fun t469 => ((spec_IsFormula.f k x3 x436000 x436001 x436002 x436003 x436004).bind fun t470 => (if (t469 == t470) = true then ((impl_EqualFormula.f k bt442.1 bt442.2.1 bt442.2.2.1 bt442.2.2.2.1 bt442.2.2.2.2.1 bt442.2.2.2.2.2.1 bt442.2.2.2.2.2.2.1 bt442.2.2.2.2.2.2.2.1 bt442.2.2.2.2.2.2.2.2.1 bt442.2.2.2.2.2.2.2.2.2).bind fun t471 => ((spec_EqualFormula.f k bt442.1 bt442.2.1 bt442.2.2.1 bt442.2.2.2.1 bt442.2.2.2.2.1 bt442.2.2.2.2.2.1 bt442.2.2.2.2.2.2.1 bt442.2.2.2.2.2.2.2.1 bt442.2.2.2.2.2.2.2.2.1 bt442.2.2.2.2.2.2.2.2.2).bind fun t472 => (if (t471 == t472) = true then ((impl_FreeLogic.f k bt458.1 bt458.2.1 bt458.2.2.1 bt458.2.2.2.1 bt458.2.2.2.2).bind fun t473 => ((spec_FreeLogic.f k bt458.1 bt458.2.1 bt458.2.2.1 bt458.2.2.2.1 bt458.2.2.2.2).bind fun t476 => ((laws_sameInts.f k t473 t476).bind fun t479 => (if t479 = true then ((impl_ArityOf.f k t466).bind fun t480 => ((spec_ArityOf.f k t466).bind fun t481 => (some (t480 == t481)))) else (some false))))) else (some false)))) else (some false)))) else (some false))) else (some false))))))
def laws_FnFormulas.f (k : Nat) (l0 : List Int) : Option (Bool) := (laws_big.f l0).bind fun t426 => (if t426 = true then (some true) else ((spec_DrawIsFormula.f k l0).bind fun bt427 => (laws_FnFormulas.l0 k l0 bt427.1 1 0 0 bt427.2.1 bt427.2.2.1 bt427.2.2.2.1 bt427.2.2.2.2.1 bt427.2.2.2.2.2)))
theorem laws_FnFormulas.mono_l : ∀ k, (∀ y0 y1 y2 y3 y4 y5 y6 y7 y8 y9, LeO (laws_FnFormulas.l0 k y0 y1 y2 y3 y4 y5 y6 y7 y8 y9) (laws_FnFormulas.l0 (k + 1) y0 y1 y2 y3 y4 y5 y6 y7 y8 y9))
 | 0 => fun _ _ _ _ _ _ _ _ _ _ r h => by simp [laws_FnFormulas.l0] at h
 | k + 1 => by
  have ih0 := laws_FnFormulas.mono_l k
  ·intro y0 y1 y2 y3 y4 y5 y6 y7 y8 y9
   unfold laws_FnFormulas.l0
   repeat' first
   | (with_reducible exact ih0 _ _ _ _ _ _ _ _ _ _)
   | (with_reducible exact impl_ArityOf.mono _ _)
   | (with_reducible exact impl_DepthOf.mono _ _ _ _ _ _)
   | (with_reducible exact impl_EqualFormula.mono _ _ _ _ _ _ _ _ _ _ _)
   | (with_reducible exact impl_FreeLogic.mono _ _ _ _ _ _)
   | (with_reducible exact impl_IsFormula.mono _ _ _ _ _ _ _)
   | (with_reducible exact impl_SizeOf.mono _ _ _ _ _ _)
   | (with_reducible exact laws_sameInts.mono _ _ _)
   | (with_reducible exact spec_ArityOf.mono _ _)
   | (with_reducible exact spec_DrawArityOf.mono _ _)
   | (with_reducible exact spec_DrawEqualFormula.mono _ _)
   | (with_reducible exact spec_DrawFreeLogic.mono _ _)
   | (with_reducible exact spec_DrawIsFormula.mono _ _)
   | (with_reducible exact spec_EqualFormula.mono _ _ _ _ _ _ _ _ _ _ _)
   | (with_reducible exact spec_FreeLogic.mono _ _ _ _ _ _)
   | (with_reducible exact spec_IsFormula.mono _ _ _ _ _ _ _)
   | (with_reducible exact LeO.refl _)
   | (with_reducible exact LeO.none _)
   | (with_reducible refine LeO.ite ?_ ?_)
   | (with_reducible refine LeO.bind ?_ (fun _ => ?_))
   | exact ih0 _ _ _ _ _ _ _ _ _ _
   | exact impl_ArityOf.mono _ _
   | exact impl_DepthOf.mono _ _ _ _ _ _
   | exact impl_EqualFormula.mono _ _ _ _ _ _ _ _ _ _ _
   | exact impl_FreeLogic.mono _ _ _ _ _ _
   | exact impl_IsFormula.mono _ _ _ _ _ _ _
   | exact impl_SizeOf.mono _ _ _ _ _ _
   | exact laws_sameInts.mono _ _ _
   | exact spec_ArityOf.mono _ _
   | exact spec_DrawArityOf.mono _ _
   | exact spec_DrawEqualFormula.mono _ _
   | exact spec_DrawFreeLogic.mono _ _
   | exact spec_DrawIsFormula.mono _ _
   | exact spec_EqualFormula.mono _ _ _ _ _ _ _ _ _ _ _
   | exact spec_FreeLogic.mono _ _ _ _ _ _
   | exact spec_IsFormula.mono _ _ _ _ _ _ _
   | exact LeO.none _
   | refine LeO.ite ?_ ?_
   | refine LeO.bind ?_ (fun _ => ?_)
theorem laws_FnFormulas.mono : ∀ a0 k, LeO (laws_FnFormulas.f k a0) (laws_FnFormulas.f (k + 1) a0) := by
 intro a0 k
 have ih0 := laws_FnFormulas.mono_l k
 unfold laws_FnFormulas.f
 repeat' first
   | (with_reducible exact ih0 _ _ _ _ _ _ _ _ _ _)
   | (with_reducible exact impl_ArityOf.mono _ _)
   | (with_reducible exact impl_DepthOf.mono _ _ _ _ _ _)
   | (with_reducible exact impl_EqualFormula.mono _ _ _ _ _ _ _ _ _ _ _)
   | (with_reducible exact impl_FreeLogic.mono _ _ _ _ _ _)
   | (with_reducible exact impl_IsFormula.mono _ _ _ _ _ _ _)
   | (with_reducible exact impl_SizeOf.mono _ _ _ _ _ _)
   | (with_reducible exact laws_sameInts.mono _ _ _)
   | (with_reducible exact spec_ArityOf.mono _ _)
   | (with_reducible exact spec_DrawArityOf.mono _ _)
   | (with_reducible exact spec_DrawEqualFormula.mono _ _)
   | (with_reducible exact spec_DrawFreeLogic.mono _ _)
   | (with_reducible exact spec_DrawIsFormula.mono _ _)
   | (with_reducible exact spec_EqualFormula.mono _ _ _ _ _ _ _ _ _ _ _)
   | (with_reducible exact spec_FreeLogic.mono _ _ _ _ _ _)
   | (with_reducible exact spec_IsFormula.mono _ _ _ _ _ _ _)
   | (with_reducible exact LeO.refl _)
   | (with_reducible exact LeO.none _)
   | (with_reducible refine LeO.ite ?_ ?_)
   | (with_reducible refine LeO.bind ?_ (fun _ => ?_))
   | exact ih0 _ _ _ _ _ _ _ _ _ _
   | exact impl_ArityOf.mono _ _
   | exact impl_DepthOf.mono _ _ _ _ _ _
   | exact impl_EqualFormula.mono _ _ _ _ _ _ _ _ _ _ _
   | exact impl_FreeLogic.mono _ _ _ _ _ _
   | exact impl_IsFormula.mono _ _ _ _ _ _ _
   | exact impl_SizeOf.mono _ _ _ _ _ _
   | exact laws_sameInts.mono _ _ _
   | exact spec_ArityOf.mono _ _
   | exact spec_DrawArityOf.mono _ _
   | exact spec_DrawEqualFormula.mono _ _
   | exact spec_DrawFreeLogic.mono _ _
   | exact spec_DrawIsFormula.mono _ _
   | exact spec_EqualFormula.mono _ _ _ _ _ _ _ _ _ _ _
   | exact spec_FreeLogic.mono _ _ _ _ _ _
   | exact spec_IsFormula.mono _ _ _ _ _ _ _
   | exact LeO.none _
   | refine LeO.ite ?_ ?_
   | refine LeO.bind ?_ (fun _ => ?_)
def laws_FnFormulas.T15 : Bool × List (List Nat × List Nat) := (true, [([], []), ([0], [0]), ([], []), ([1, 2], [1, 2]), ([3, 1], [3]), ([4], [4]), ([5, 4, 4], [4, 5]), ([4], [4]), ([7, 4], [4, 7]), ([6, 8, 4], [4, 6, 8]), ([4, 9], [4, 9]), ([10, 6], [10]), ([11], [11]), ([11], [11]), ([12, 13, 11, 11], [11, 12, 13]), ([11], [11]), ([11], [11]), ([15, 16, 14, 11], [11, 15, 16]), ([14, 17, 11], [11, 14, 17]), ([11, 18], [11, 18]), ([19, 17], [19]), ([20], [20]), ([20], [20]), ([21, 22, 20, 20], [20, 21, 22]), ([20], [20]), ([20], [20]), ([24, 25, 23, 20], [20, 24, 25]), ([23, 26, 20], [20, 23, 26]), ([20, 27], [20, 27]), ([28, 26], [28]), ([29], [29]), ([30, 29, 29], [29, 30]), ([29], [29]), ([32, 31, 29], [29, 32]), ([31, 33, 33, 29], [29, 31, 33]), ([29, 34], [29, 34]), ([35, 34], [35]), ([36], [36]), ([37, 36, 36], [36, 37]), ([36], [36]), ([39, 38, 36], [36, 39]), ([38, 40, 36], [36, 38, 40]), ([36, 41], [36, 41]), ([42, 40, 0, 1, 2, 3, 4, 5, 6, 7, 8, 9, 10, 11, 12, 13, 14, 15, 16, 17, 18, 19, 20, 21, 22, 23, 24, 25, 26, 27, 28, 29, 30, 31, 32, 33, 34, 35, 36, 37, 38, 39, 40, 41, 42], [42])])
def laws_FnFormulas.B15 : List Nat := [0, 1, 0, 7, 15, 31, 63, 31, 159, 511, 1023, 2047, 4095, 4095, 16383, 4095, 4095, 131071, 262143, 524287, 1048575, 2097151, 2097151, 8388607, 2097151, 2097151, 67108863, 134217727, 268435455, 536870911, 1073741823, 2147483647, 1073741823, 8589934591, 17179869183, 34359738367, 68719476735, 137438953471, 274877906943, 137438953471, 1099511627775, 2199023255551, 4398046511103, 8796093022207]
theorem laws_FnFormulas.tab15 : rtab .any (opsOf Try.f7 15) = laws_FnFormulas.T15 := by kernel_rfl
theorem laws_FnFormulas.bits15 : waitsOk laws_FnFormulas.T15.2 laws_FnFormulas.B15 = true := by kernel_rfl
set_option maxHeartbeats 8000000 in
set_option maxRecDepth 100000 in
theorem laws_FnFormulas.calls (k : Nat) (A0 : Option Addr) (c0 : Nat) (l0 : List Int) (r : Bool) (w : World) (hr0 : Kd.C (Kd.int .u8) w A0 l0.length l0) (hc0 : l0.length ≤ c0) (hrt : Aside0 (r = true)) (h : laws_FnFormulas.f k l0 = some r) :
  Calls Try.prog 7 #[.slice A0 l0.length c0] w fun e w' => e = .returned (.bool r) ∧ Below w.heap.size w w' := by
 have hu32 := Try.underlying32
 have HR0 := Qa hr0
 have HC0 := Qa hc0
 clear hr0 hc0
 have HB := Qa (Below.refl w.heap.size w)
 have H : ((laws_big.f l0).bind fun t426 => (if t426 = true then (some true) else ((spec_DrawIsFormula.f k l0).bind fun bt427 => (laws_FnFormulas.l0 k l0 bt427.1 1 0 0 bt427.2.1 bt427.2.2.1 bt427.2.2.2.1 bt427.2.2.2.2.1 bt427.2.2.2.2.2)))) = some r := h
 clear h
 replace H := Qi.mp H
 obtain ⟨t426, A20, H⟩ := H
 replace H : (if t426 = true then (some true) else ((spec_DrawIsFormula.f k l0).bind fun bt427 => (laws_FnFormulas.l0 k l0 bt427.1 1 0 0 bt427.2.1 bt427.2.2.1 bt427.2.2.2.1 bt427.2.2.2.2.1 bt427.2.2.2.2.2))) = some r := H
 have A2 := Qa A20
 clear A20
 by_cases c3 : t426 = true
 ·subst c3
  have H1 : (some true) = some r := by rw [if_pos rfl] at H; exact H
  clear H
  have H := H1
  clear H1
  obtain rfl := Qs H
  go_enter Try.func7, Try.ntmps7
  go_wp2_with (first | ((with_reducible refine Zf (f := 16) rfl ?_); refine goesL_ (some 13) rfl rfl Try.func16 (by kernel_rfl) rfl #[.slice A0 l0.length c0] rfl (by (try simp only [Qm, Qt, Zb]); first | done | rfl | (simp only [Qn, Qo]; rfl)) ?_; (with_reducible refine (laws_big.calls _ _ l0 true _ ?side1 ?side2 A2.out).mono ?_); (case side1 => repeat (first | exact HR0.out | (with_reducible refine Zw ?_ _) | (with_reducible refine Zx ?_ _) | (with_reducible refine Xb ?_))); (case side2 => exact HC0.out); rintro e w' ⟨rfl, ⟨nd, rfl⟩⟩; refine ⟨_, rfl, ?_⟩))
  go_ret
  exact ⟨by first | rfl | (simp [errW_none, errW_some] <;> rfl) | (simp [*, errW_none, errW_some] <;> rfl), by repeat (first | (with_reducible first | exact HB.out | apply below_alloc | apply pw_below_drewN | apply below_drew1) | exact HB.out)⟩
 ·replace c3 := Bool.eq_false_iff.mpr c3
  subst c3
  have H1 : ((spec_DrawIsFormula.f k l0).bind fun bt427 => (laws_FnFormulas.l0 k l0 bt427.1 1 0 0 bt427.2.1 bt427.2.2.1 bt427.2.2.2.1 bt427.2.2.2.2.1 bt427.2.2.2.2.2)) = some r := by rw [if_neg (show ¬ (false = true) by decide)] at H; exact H
  clear H
  have H := H1
  clear H1
  replace H := Qi.mp H
  obtain ⟨⟨t427, t428, t429, t430, t431, t432⟩, A40, H⟩ := H
  replace H : (laws_FnFormulas.l0 k l0 t427 1 0 0 t428 t429 t430 t431 t432) = some r := H
  have A4 := Qa A40
  clear A40
  have H' := Qa H
  clear H
  go_enter Try.func7, Try.ntmps7
  go_wp2_with (first | ((with_reducible refine Zf (f := 16) rfl ?_); refine goesL_ (some 13) rfl rfl Try.func16 (by kernel_rfl) rfl #[.slice A0 l0.length c0] rfl (by (try simp only [Qm, Qt, Zb]); first | done | rfl | (simp only [Qn, Qo]; rfl)) ?_; (with_reducible refine (laws_big.calls _ _ l0 false _ ?side1 ?side2 A2.out).mono ?_); (case side1 => repeat (first | exact HR0.out | (with_reducible refine Zw ?_ _) | (with_reducible refine Zx ?_ _) | (with_reducible refine Xb ?_))); (case side2 => exact HC0.out); rintro e w' ⟨rfl, ⟨nd, rfl⟩⟩; refine ⟨_, rfl, ?_⟩) | ((with_reducible refine Zf (f := 30) rfl ?_); refine goesL_ (some 16) rfl rfl Try.func30 (by kernel_rfl) rfl #[.slice A0 l0.length c0] rfl (by (try simp only [Qm, Qt, Zb]); first | done | rfl | (simp only [Qn, Qo]; rfl)) ?_; (with_reducible refine (spec_DrawIsFormula.calls k _ _ l0 t427 t428 t429 t430 t431 t432 _ ?side1 ?side2 A4.out).mono ?_); (case side1 => repeat (first | exact HR0.out | (with_reducible refine Zw ?_ _) | (with_reducible refine Zx ?_ _) | (with_reducible refine Xb ?_))); (case side2 => exact HC0.out); rintro e w5 ⟨v433, rfl, ho0, hb⟩; refine ⟨_, rfl, ?_⟩; have HO434 := Qa (Kd.N_lower (Xd (ok' := fun k_ => True) ho0 (fun k_ hk_ => trivial)) (Qv (Bb0 HB.out))); replace HB := Qa (Zc (Bb0 HB.out) hb); (try clear hb); (try clear hb2); (try clear hk); (try clear hi); (try clear ho0)) | ((with_reducible refine gate_dst (N := 4) rfl ?_); refine box_event ?hg (N := 4) ?hd (cs := #[.int .i64 0, .int .i64 0, .int .i64 0, .int .i64 0, .slice none 0 0]) (t := 32) ?hr ?_; (case hd => rfl); (case hg => rfl); (case hr => first | (go_simp; done) | (go_simp; rfl)); intro gb435 hg w6 hbox hb; replace HO434 := Qa (Xr (Kd.N_elderB (Bn HO434.out) gb435 (Nat.le_of_eq hg.symm)) hb); have BK435 := Qa (hbox); have GW435 := Qa ((by rw [hg]; exact (Qv (Bb0 HB.out)) : w.heap.size ≤ gb435)); have GE435 := Qa ((by rw [hg]; exact (Qv (Bb0 HB.out)) : w.heap.size ≤ gb435)); replace HB := Qa (Zc (Bb0 HB.out) hb); clear hb hbox hg; have q7_0 : w6.cell? ⟨gb435, 0, none⟩ = some (.int .i64 0) := (Qb BK435.out 0).trans rfl; have q7_1 : w6.cell? ⟨gb435, 1, none⟩ = some (.int .i64 0) := (Qb BK435.out 1).trans rfl; have q7_2 : w6.cell? ⟨gb435, 2, none⟩ = some (.int .i64 0) := (Qb BK435.out 2).trans rfl; have q7_3 : w6.cell? ⟨gb435, 3, none⟩ = some (.int .i64 0) := (Qb BK435.out 3).trans rfl; have q7_4 : w6.cell? ⟨gb435, 4, none⟩ = some (.slice none 0 0) := (Qb BK435.out 4).trans rfl; have u7_0 := Qc BK435.out 0; have u7_1 := Qc BK435.out 1; have u7_2 := Qc BK435.out 2; have u7_3 := Qc BK435.out 3; have u7_4 := Qc BK435.out 4; obtain ⟨Ao8, co8, eo8⟩ := Kd.N_slice HO434.out; subst eo8))
  go_loopg [5, 6, 7] k (fun kq v5 v6 v7 w' => ∃ (x5_1 : Int) (x6_1 : Int) (x7_1 : Int), v5 = .int .i64 x5_1 ∧ v6 = .int .i64 x6_1 ∧ v7 = .int .i64 x7_1 ∧ Aside0 (laws_FnFormulas.l0 kq l0 t427 x5_1 x6_1 x7_1 t428 t429 t430 t431 t432 = some r) ∧ Aside0 (kq ≤ k) ∧ Aside0 (Kd.N k32 32 w' w.heap.size (fun k_ => k_ ≠ gb435) (.slice Ao8 t432.length co8) t432) ∧ Aside0 (w'.heap[gb435]? = some (.cells #[.int .i64 t428, .int .i64 t429, .int .i64 t430, .int .i64 t431, (.slice Ao8 t432.length co8)] 32 (0, 0))) ∧ Aside0 (Below w.heap.size w w'))
  case atStart => exact ⟨(1), (0), (0), (by first | rfl | (simp; done) | (simp [*]; done) | (simp; rw [Qx]; simp; done)), (by first | rfl | (simp; done) | (simp [*]; done) | (simp; rw [Qx]; simp; done)), (by first | rfl | (simp; done) | (simp [*]; done) | (simp; rw [Qx]; simp; done)), H', ⟨Nat.le_refl _⟩, ⟨by (with_reducible repeat (first | apply Kd.N_alloc | apply Kd.N_drewN | apply Kd.N_drew)); exact Xd (Zo (p := ⟨gb435, 4, none⟩) (Zo (p := ⟨gb435, 3, none⟩) (Zo (p := ⟨gb435, 2, none⟩) (Zo (p := ⟨gb435, 1, none⟩) (Zo (p := ⟨gb435, 0, none⟩) (Xd HO434.out (fun k_ hk => (⟨hk, hk.2⟩ : _ ∧ k_ ≠ gb435))) (fun _ hk => hk.2) (.int .i64 t428)) (fun _ hk => hk.2) (.int .i64 t429)) (fun _ hk => hk.2) (.int .i64 t430)) (fun _ hk => hk.2) (.int .i64 t431)) (fun _ hk => hk.2) (.slice Ao8 t432.length co8)) (fun _ hk => hk.1.2)⟩, ⟨by (with_reducible repeat (first | refine Qg ?_ _ | refine Qh ?_ | refine Qf ?_ _)); refine Qr (cs := #[.int .i64 t428, .int .i64 t429, .int .i64 t430, .int .i64 t431, .slice none 0 0]) ?_ 4 _ rfl; (with_reducible repeat (first | refine Qg ?_ _ | refine Qh ?_ | refine Qf ?_ _)); refine Qr (cs := #[.int .i64 t428, .int .i64 t429, .int .i64 t430, .int .i64 0, .slice none 0 0]) ?_ 3 _ rfl; (with_reducible repeat (first | refine Qg ?_ _ | refine Qh ?_ | refine Qf ?_ _)); refine Qr (cs := #[.int .i64 t428, .int .i64 t429, .int .i64 0, .int .i64 0, .slice none 0 0]) ?_ 2 _ rfl; (with_reducible repeat (first | refine Qg ?_ _ | refine Qh ?_ | refine Qf ?_ _)); refine Qr (cs := #[.int .i64 t428, .int .i64 0, .int .i64 0, .int .i64 0, .slice none 0 0]) ?_ 1 _ rfl; (with_reducible repeat (first | refine Qg ?_ _ | refine Qh ?_ | refine Qf ?_ _)); refine Qr (cs := #[.int .i64 0, .int .i64 0, .int .i64 0, .int .i64 0, .slice none 0 0]) ?_ 0 _ rfl; (with_reducible repeat (first | refine Qg ?_ _ | refine Qh ?_ | refine Qf ?_ _)); exact BK435.out⟩, ⟨Bb1 HB.out GE435.out⟩⟩
  case round =>
   clear H'
   try clear c1
   try clear p2
   try clear c3
   try clear c7
   try clear q7_0
   try clear q7_1
   try clear q7_2
   try clear q7_3
   try clear q7_4
   try clear u7_0
   try clear u7_1
   try clear u7_2
   try clear u7_3
   try clear u7_4
   obtain ⟨x5_1, x6_1, x7_1, rfl, rfl, rfl, HA, HK1, HO_436004, BK435, HB⟩ := hrel
   cases gk with
   | zero => exact absurd HA.out (by simp [laws_FnFormulas.l0])
   | succ k1 =>
    have H := HA.out
    clear HA
    simp only [laws_FnFormulas.l0] at H
    by_cases c9 : x7_1 < (t432.length : Int)
    ·rw [if_pos c9] at H
     have c9b0 : decide (x7_1 < (t432.length : Int)) = true := decide_eq_true c9
     clear c9
     by_cases c10 : 0 ≤ x7_1
     ·rw [if_pos c10] at H
      have c10b0 : decide (0 ≤ x7_1) = true := decide_eq_true c10
      clear c10
      replace H := Qi.mp H
      obtain ⟨t437, A110, H⟩ := H
      replace H : ((impl_DepthOf.f k1 ((rd_T32 t432 x7_1).f0) ((rd_T32 t432 x7_1).f1) ((rd_T32 t432 x7_1).f2) ((rd_T32 t432 x7_1).f3) ((rd_T32 t432 x7_1).f4)).bind fun t439 => (if t439 > x6_1 then ((impl_DepthOf.f k1 ((rd_T32 t432 x7_1).f0) ((rd_T32 t432 x7_1).f1) ((rd_T32 t432 x7_1).f2) ((rd_T32 t432 x7_1).f3) ((rd_T32 t432 x7_1).f4)).bind fun t441 => (laws_FnFormulas.l0 k1 l0 t427 (Qq (x5_1 + t437)) t441 (Qq (x7_1 + 1)) t428 t429 t430 t431 t432)) else (laws_FnFormulas.l0 k1 l0 t427 (Qq (x5_1 + t437)) x6_1 (Qq (x7_1 + 1)) t428 t429 t430 t431 t432))) = some r := H
      have A11 := Qa A110
      clear A110
      replace H := Qi.mp H
      obtain ⟨t439, A120, H⟩ := H
      replace H : (if t439 > x6_1 then ((impl_DepthOf.f k1 ((rd_T32 t432 x7_1).f0) ((rd_T32 t432 x7_1).f1) ((rd_T32 t432 x7_1).f2) ((rd_T32 t432 x7_1).f3) ((rd_T32 t432 x7_1).f4)).bind fun t441 => (laws_FnFormulas.l0 k1 l0 t427 (Qq (x5_1 + t437)) t441 (Qq (x7_1 + 1)) t428 t429 t430 t431 t432)) else (laws_FnFormulas.l0 k1 l0 t427 (Qq (x5_1 + t437)) x6_1 (Qq (x7_1 + 1)) t428 t429 t430 t431 t432)) = some r := H
      have A12 := Qa A120
      clear A120
      by_cases c13 : t439 > x6_1
      ·rw [if_pos c13] at H
       have c13b0 : decide (x6_1 < t439) = true := decide_eq_true c13
       clear c13
       replace H := Qi.mp H
       obtain ⟨t441, A140, H⟩ := H
       replace H : (laws_FnFormulas.l0 k1 l0 t427 (Qq (x5_1 + t437)) t441 (Qq (x7_1 + 1)) t428 t429 t430 t431 t432) = some r := H
       have A14 := Qa A140
       clear A140
       have e_ := Qs (A12.out.symm.trans A14.out)
       obtain rfl := e_
       have H' := Qa H
       clear H
       have q15_0 : wr.cell? ⟨gb435, 0, none⟩ = some (.int .i64 t428) := (Qb BK435.out 0).trans rfl
       have q15_1 : wr.cell? ⟨gb435, 1, none⟩ = some (.int .i64 t429) := (Qb BK435.out 1).trans rfl
       have q15_2 : wr.cell? ⟨gb435, 2, none⟩ = some (.int .i64 t430) := (Qb BK435.out 2).trans rfl
       have q15_3 : wr.cell? ⟨gb435, 3, none⟩ = some (.int .i64 t431) := (Qb BK435.out 3).trans rfl
       have q15_4 : wr.cell? ⟨gb435, 4, none⟩ = some (.slice Ao8 t432.length co8) := (Qb BK435.out 4).trans rfl
       have u15_0 := Qc BK435.out 0
       have u15_1 := Qc BK435.out 1
       have u15_2 := Qc BK435.out 2
       have u15_3 := Qc BK435.out 3
       have u15_4 := Qc BK435.out 4
       have p436 : 0 ≤ (x7_1 : Int) := of_decide_eq_true (by first | (with_reducible assumption) | assumption)
       have q436 : x7_1 < (t432.length : Int) := of_decide_eq_true (by first | (with_reducible assumption) | assumption)
       obtain ⟨ad436, A436_4, c436_4, e436, hx436_0, hx436_1, hx436_2, hx436_3, hx436_4, hl436_4, hi436_4⟩ := at_T32 (Kd.N_reads' HO_436004.out).2.2 x7_1 p436 q436
       cases e436
       obtain ⟨ce436, hce436, hMe436, hcc436⟩ := Kd.N_get HO_436004.out z32 x7_1 p436 (by first | exact q436 | exact of_decide_eq_true (by first | (with_reducible assumption) | assumption) | (have e_ := (Kd.N_reads' HO_436004.out).1; omega))
       obtain ⟨ua436_4, uc436_4, rfl, ul436_4, ge436_4⟩ := k32_openF hMe436
       have hv436_4 := hcc436 4 _ rfl
       rw [add_field _ _ 4 (by omega)] at hv436_4
       replace hv436_4 := Qs (hv436_4.symm.trans hx436_4)
       injection hv436_4 with hva_ hvn_ hvc_
       rw [hva_] at ge436_4
       rw [hvc_] at ul436_4
       have HL436_4 := Qa (show Kd.V k32 32 _ w.heap.size _ _ ((rd_T32 t432 x7_1).f4) from Kd.V_mk ul436_4 ge436_4)
       clear hva_ hvn_ hvc_ ge436_4 ul436_4 hcc436 hce436
       have HR436_4 := Qa hi436_4
       have HC436_4 := Qa hl436_4
       clear hi436_4 hl436_4
       replace p436 := eq_true p436
       replace q436 := eq_true q436
       go_wp2_with (first | ((with_reducible refine Zf (f := 31) rfl ?_); refine goesL_ (some 32) rfl rfl Try.func31 (by kernel_rfl) rfl #[.agg #[.int .i64 ((rd_T32 t432 x7_1).f0), .int .i64 ((rd_T32 t432 x7_1).f1), .int .i64 ((rd_T32 t432 x7_1).f2), .int .i64 ((rd_T32 t432 x7_1).f3), .slice A436_4 ((rd_T32 t432 x7_1).f4).length c436_4]] rfl (by (try simp only [Qm, Qt, Zb]); first | done | rfl | (simp only [Qn, Qo]; rfl)) ?_; (with_reducible refine (impl_SizeOf.calls k1 ((rd_T32 t432 x7_1).f0) ((rd_T32 t432 x7_1).f1) ((rd_T32 t432 x7_1).f2) ((rd_T32 t432 x7_1).f3) _ _ ((rd_T32 t432 x7_1).f4) t437 _ ?side1 ?side2 A11.out).mono ?_); (case side1 => repeat (first | exact (by repeat (first | (with_reducible exact HR436_4.out) | (with_reducible refine Zw ?_ _) | (with_reducible refine Zx ?_ _) | (with_reducible refine Xb ?_) | exact HR436_4.out)) | (with_reducible refine Zw ?_ _) | (with_reducible refine Zx ?_ _) | (with_reducible refine Xb ?_))); (case side2 => exact HC436_4.out); rintro e w16 ⟨rfl, hb⟩; refine ⟨_, rfl, ?_⟩; replace HO_436004 := Qa (Xr (Bn HO_436004.out) hb); replace HL436_4 := Qa (Kd.V_below (by (with_reducible repeat (first | apply Kd.V_alloc | apply Kd.V_drewN | apply Kd.V_drew)); exact HL436_4.out) hb); replace BK435 := Qa (Qy (g := gb435) (o := .cells #[.int .i64 t428, .int .i64 t429, .int .i64 t430, .int .i64 t431, .slice (some ad436) t432.length co8] 32 (0, 0)) (Ba BK435.out) hb); replace HR436_4 := Qa (Xo (by repeat (first | (with_reducible exact HR436_4.out) | (with_reducible refine Zw ?_ _) | (with_reducible refine Zx ?_ _) | (with_reducible refine Xb ?_) | exact HR436_4.out)) hb); replace HB := Qa (Zc (Bb1 HB.out GE435.out) hb); (try clear hb); (try clear hb2); (try clear hk); (try clear hi); have q17_0 : w16.cell? ⟨gb435, 0, none⟩ = some (.int .i64 t428) := (Qb BK435.out 0).trans rfl; have q17_1 : w16.cell? ⟨gb435, 1, none⟩ = some (.int .i64 t429) := (Qb BK435.out 1).trans rfl; have q17_2 : w16.cell? ⟨gb435, 2, none⟩ = some (.int .i64 t430) := (Qb BK435.out 2).trans rfl; have q17_3 : w16.cell? ⟨gb435, 3, none⟩ = some (.int .i64 t431) := (Qb BK435.out 3).trans rfl; have q17_4 : w16.cell? ⟨gb435, 4, none⟩ = some (.slice (some ad436) t432.length co8) := (Qb BK435.out 4).trans rfl; have u17_0 := Qc BK435.out 0; have u17_1 := Qc BK435.out 1; have u17_2 := Qc BK435.out 2; have u17_3 := Qc BK435.out 3; have u17_4 := Qc BK435.out 4; have p438 : 0 ≤ (x7_1 : Int) := of_decide_eq_true (by first | (with_reducible assumption) | assumption); have q438 : x7_1 < (t432.length : Int) := of_decide_eq_true (by first | (with_reducible assumption) | assumption); obtain ⟨ad438, A438_4, c438_4, e438, hx438_0, hx438_1, hx438_2, hx438_3, hx438_4, hl438_4, hi438_4⟩ := at_T32 (Kd.N_reads' HO_436004.out).2.2 x7_1 p438 q438; obtain rfl : ad436 = ad438 := (by injection e438); obtain ⟨ce438, hce438, hMe438, hcc438⟩ := Kd.N_get HO_436004.out z32 x7_1 p438 (by first | exact q438 | exact of_decide_eq_true (by first | (with_reducible assumption) | assumption) | (have e_ := (Kd.N_reads' HO_436004.out).1; omega)); obtain ⟨ua438_4, uc438_4, rfl, ul438_4, ge438_4⟩ := k32_openF hMe438; have hv438_4 := hcc438 4 _ rfl; rw [add_field _ _ 4 (by omega)] at hv438_4; replace hv438_4 := Qs (hv438_4.symm.trans hx438_4); injection hv438_4 with hva_ hvn_ hvc_; rw [hva_] at ge438_4; rw [hvc_] at ul438_4; have HL438_4 := Qa (show Kd.V k32 32 _ w.heap.size _ _ ((rd_T32 t432 x7_1).f4) from Kd.V_mk ul438_4 ge438_4); clear hva_ hvn_ hvc_ ge438_4 ul438_4 hcc438 hce438; have HR438_4 := Qa hi438_4; have HC438_4 := Qa hl438_4; clear hi438_4 hl438_4; replace p438 := eq_true p438; replace q438 := eq_true q438) | ((with_reducible refine Zf (f := 32) rfl ?_); refine goesL_ (some 39) rfl rfl Try.func32 (by kernel_rfl) rfl #[.agg #[.int .i64 ((rd_T32 t432 x7_1).f0), .int .i64 ((rd_T32 t432 x7_1).f1), .int .i64 ((rd_T32 t432 x7_1).f2), .int .i64 ((rd_T32 t432 x7_1).f3), .slice A438_4 ((rd_T32 t432 x7_1).f4).length c438_4]] rfl (by (try simp only [Qm, Qt, Zb]); first | done | rfl | (simp only [Qn, Qo]; rfl)) ?_; (with_reducible refine (impl_DepthOf.calls k1 ((rd_T32 t432 x7_1).f0) ((rd_T32 t432 x7_1).f1) ((rd_T32 t432 x7_1).f2) ((rd_T32 t432 x7_1).f3) _ _ ((rd_T32 t432 x7_1).f4) t439 _ ?side1 ?side2 A12.out).mono ?_); (case side1 => repeat (first | exact (by repeat (first | (with_reducible exact HR438_4.out) | (with_reducible refine Zw ?_ _) | (with_reducible refine Zx ?_ _) | (with_reducible refine Xb ?_) | exact HR438_4.out)) | (with_reducible refine Zw ?_ _) | (with_reducible refine Zx ?_ _) | (with_reducible refine Xb ?_))); (case side2 => exact HC438_4.out); rintro e w18 ⟨rfl, hb⟩; refine ⟨_, rfl, ?_⟩; replace HO_436004 := Qa (Xr (Bn HO_436004.out) hb); replace HL436_4 := Qa (Kd.V_below (by (with_reducible repeat (first | apply Kd.V_alloc | apply Kd.V_drewN | apply Kd.V_drew)); exact HL436_4.out) hb); replace HL438_4 := Qa (Kd.V_below (by (with_reducible repeat (first | apply Kd.V_alloc | apply Kd.V_drewN | apply Kd.V_drew)); exact HL438_4.out) hb); replace BK435 := Qa (Qy (g := gb435) (o := .cells #[.int .i64 t428, .int .i64 t429, .int .i64 t430, .int .i64 t431, .slice (some ad436) t432.length co8] 32 (0, 0)) (Ba BK435.out) hb); replace HR436_4 := Qa (Xo (by repeat (first | (with_reducible exact HR436_4.out) | (with_reducible refine Zw ?_ _) | (with_reducible refine Zx ?_ _) | (with_reducible refine Xb ?_) | exact HR436_4.out)) hb); replace HR438_4 := Qa (Xo (by repeat (first | (with_reducible exact HR438_4.out) | (with_reducible refine Zw ?_ _) | (with_reducible refine Zx ?_ _) | (with_reducible refine Xb ?_) | exact HR438_4.out)) hb); replace HB := Qa (Zc (Bb1 HB.out GE435.out) hb); (try clear hb); (try clear hb2); (try clear hk); (try clear hi); have q19_0 : w18.cell? ⟨gb435, 0, none⟩ = some (.int .i64 t428) := (Qb BK435.out 0).trans rfl; have q19_1 : w18.cell? ⟨gb435, 1, none⟩ = some (.int .i64 t429) := (Qb BK435.out 1).trans rfl; have q19_2 : w18.cell? ⟨gb435, 2, none⟩ = some (.int .i64 t430) := (Qb BK435.out 2).trans rfl; have q19_3 : w18.cell? ⟨gb435, 3, none⟩ = some (.int .i64 t431) := (Qb BK435.out 3).trans rfl; have q19_4 : w18.cell? ⟨gb435, 4, none⟩ = some (.slice (some ad436) t432.length co8) := (Qb BK435.out 4).trans rfl; have u19_0 := Qc BK435.out 0; have u19_1 := Qc BK435.out 1; have u19_2 := Qc BK435.out 2; have u19_3 := Qc BK435.out 3; have u19_4 := Qc BK435.out 4; have p440 : 0 ≤ (x7_1 : Int) := of_decide_eq_true (by first | (with_reducible assumption) | assumption); have q440 : x7_1 < (t432.length : Int) := of_decide_eq_true (by first | (with_reducible assumption) | assumption); obtain ⟨ad440, A440_4, c440_4, e440, hx440_0, hx440_1, hx440_2, hx440_3, hx440_4, hl440_4, hi440_4⟩ := at_T32 (Kd.N_reads' HO_436004.out).2.2 x7_1 p440 q440; obtain rfl : ad436 = ad440 := (by injection e440); obtain ⟨ce440, hce440, hMe440, hcc440⟩ := Kd.N_get HO_436004.out z32 x7_1 p440 (by first | exact q440 | exact of_decide_eq_true (by first | (with_reducible assumption) | assumption) | (have e_ := (Kd.N_reads' HO_436004.out).1; omega)); obtain ⟨ua440_4, uc440_4, rfl, ul440_4, ge440_4⟩ := k32_openF hMe440; have hv440_4 := hcc440 4 _ rfl; rw [add_field _ _ 4 (by omega)] at hv440_4; replace hv440_4 := Qs (hv440_4.symm.trans hx440_4); injection hv440_4 with hva_ hvn_ hvc_; rw [hva_] at ge440_4; rw [hvc_] at ul440_4; have HL440_4 := Qa (show Kd.V k32 32 _ w.heap.size _ _ ((rd_T32 t432 x7_1).f4) from Kd.V_mk ul440_4 ge440_4); clear hva_ hvn_ hvc_ ge440_4 ul440_4 hcc440 hce440; have HR440_4 := Qa hi440_4; have HC440_4 := Qa hl440_4; clear hi440_4 hl440_4; replace p440 := eq_true p440; replace q440 := eq_true q440) | ((with_reducible refine Zf (f := 32) rfl ?_); refine goesL_ (some 47) rfl rfl Try.func32 (by kernel_rfl) rfl #[.agg #[.int .i64 ((rd_T32 t432 x7_1).f0), .int .i64 ((rd_T32 t432 x7_1).f1), .int .i64 ((rd_T32 t432 x7_1).f2), .int .i64 ((rd_T32 t432 x7_1).f3), .slice A440_4 ((rd_T32 t432 x7_1).f4).length c440_4]] rfl (by (try simp only [Qm, Qt, Zb]); first | done | rfl | (simp only [Qn, Qo]; rfl)) ?_; (with_reducible refine (impl_DepthOf.calls k1 ((rd_T32 t432 x7_1).f0) ((rd_T32 t432 x7_1).f1) ((rd_T32 t432 x7_1).f2) ((rd_T32 t432 x7_1).f3) _ _ ((rd_T32 t432 x7_1).f4) t439 _ ?side1 ?side2 A14.out).mono ?_); (case side1 => repeat (first | exact (by repeat (first | (with_reducible exact HR440_4.out) | (with_reducible refine Zw ?_ _) | (with_reducible refine Zx ?_ _) | (with_reducible refine Xb ?_) | exact HR440_4.out)) | (with_reducible refine Zw ?_ _) | (with_reducible refine Zx ?_ _) | (with_reducible refine Xb ?_))); (case side2 => exact HC440_4.out); rintro e w20 ⟨rfl, hb⟩; refine ⟨_, rfl, ?_⟩; replace HO_436004 := Qa (Xr (Bn HO_436004.out) hb); replace HL436_4 := Qa (Kd.V_below (by (with_reducible repeat (first | apply Kd.V_alloc | apply Kd.V_drewN | apply Kd.V_drew)); exact HL436_4.out) hb); replace HL438_4 := Qa (Kd.V_below (by (with_reducible repeat (first | apply Kd.V_alloc | apply Kd.V_drewN | apply Kd.V_drew)); exact HL438_4.out) hb); replace HL440_4 := Qa (Kd.V_below (by (with_reducible repeat (first | apply Kd.V_alloc | apply Kd.V_drewN | apply Kd.V_drew)); exact HL440_4.out) hb); replace BK435 := Qa (Qy (g := gb435) (o := .cells #[.int .i64 t428, .int .i64 t429, .int .i64 t430, .int .i64 t431, .slice (some ad436) t432.length co8] 32 (0, 0)) (Ba BK435.out) hb); replace HR436_4 := Qa (Xo (by repeat (first | (with_reducible exact HR436_4.out) | (with_reducible refine Zw ?_ _) | (with_reducible refine Zx ?_ _) | (with_reducible refine Xb ?_) | exact HR436_4.out)) hb); replace HR438_4 := Qa (Xo (by repeat (first | (with_reducible exact HR438_4.out) | (with_reducible refine Zw ?_ _) | (with_reducible refine Zx ?_ _) | (with_reducible refine Xb ?_) | exact HR438_4.out)) hb); replace HR440_4 := Qa (Xo (by repeat (first | (with_reducible exact HR440_4.out) | (with_reducible refine Zw ?_ _) | (with_reducible refine Zx ?_ _) | (with_reducible refine Xb ?_) | exact HR440_4.out)) hb); replace HB := Qa (Zc (Bb1 HB.out GE435.out) hb); (try clear hb); (try clear hb2); (try clear hk); (try clear hi)))
       go_roundg k1
       case measure => have := HK1.out; omega
       case rel => exact ⟨(Qq (x5_1 + t437)), (t439), (Qq (x7_1 + 1)), (by first | rfl | (simp; done) | (simp [*]; done) | (simp; rw [Qx]; simp; done)), (by first | rfl | (simp; done) | (simp [*]; done) | (simp; rw [Qx]; simp; done)), (by first | rfl | (simp; done) | (simp [*]; done) | (simp; rw [Qx]; simp; done)), H', ⟨by have := HK1.out; omega⟩, ⟨by (with_reducible repeat (first | apply Kd.N_alloc | apply Kd.N_drewN | apply Kd.N_drew)); exact HO_436004.out⟩, ⟨Ba BK435.out⟩, ⟨Bb1 HB.out GE435.out⟩⟩
      ·rw [if_neg c13] at H
       have c13b0 : decide (x6_1 < t439) = false := decide_eq_false c13
       clear c13
       have H' := Qa H
       clear H
       have q21_0 : wr.cell? ⟨gb435, 0, none⟩ = some (.int .i64 t428) := (Qb BK435.out 0).trans rfl
       have q21_1 : wr.cell? ⟨gb435, 1, none⟩ = some (.int .i64 t429) := (Qb BK435.out 1).trans rfl
       have q21_2 : wr.cell? ⟨gb435, 2, none⟩ = some (.int .i64 t430) := (Qb BK435.out 2).trans rfl
       have q21_3 : wr.cell? ⟨gb435, 3, none⟩ = some (.int .i64 t431) := (Qb BK435.out 3).trans rfl
       have q21_4 : wr.cell? ⟨gb435, 4, none⟩ = some (.slice Ao8 t432.length co8) := (Qb BK435.out 4).trans rfl
       have u21_0 := Qc BK435.out 0
       have u21_1 := Qc BK435.out 1
       have u21_2 := Qc BK435.out 2
       have u21_3 := Qc BK435.out 3
       have u21_4 := Qc BK435.out 4
       have p436 : 0 ≤ (x7_1 : Int) := of_decide_eq_true (by first | (with_reducible assumption) | assumption)
       have q436 : x7_1 < (t432.length : Int) := of_decide_eq_true (by first | (with_reducible assumption) | assumption)
       obtain ⟨ad436, A436_4, c436_4, e436, hx436_0, hx436_1, hx436_2, hx436_3, hx436_4, hl436_4, hi436_4⟩ := at_T32 (Kd.N_reads' HO_436004.out).2.2 x7_1 p436 q436
       cases e436
       obtain ⟨ce436, hce436, hMe436, hcc436⟩ := Kd.N_get HO_436004.out z32 x7_1 p436 (by first | exact q436 | exact of_decide_eq_true (by first | (with_reducible assumption) | assumption) | (have e_ := (Kd.N_reads' HO_436004.out).1; omega))
       obtain ⟨ua436_4, uc436_4, rfl, ul436_4, ge436_4⟩ := k32_openF hMe436
       have hv436_4 := hcc436 4 _ rfl
       rw [add_field _ _ 4 (by omega)] at hv436_4
       replace hv436_4 := Qs (hv436_4.symm.trans hx436_4)
       injection hv436_4 with hva_ hvn_ hvc_
       rw [hva_] at ge436_4
       rw [hvc_] at ul436_4
       have HL436_4 := Qa (show Kd.V k32 32 _ w.heap.size _ _ ((rd_T32 t432 x7_1).f4) from Kd.V_mk ul436_4 ge436_4)
       clear hva_ hvn_ hvc_ ge436_4 ul436_4 hcc436 hce436
       have HR436_4 := Qa hi436_4
       have HC436_4 := Qa hl436_4
       clear hi436_4 hl436_4
       replace p436 := eq_true p436
       replace q436 := eq_true q436
       go_wp2_with (first | ((with_reducible refine Zf (f := 31) rfl ?_); refine goesL_ (some 32) rfl rfl Try.func31 (by kernel_rfl) rfl #[.agg #[.int .i64 ((rd_T32 t432 x7_1).f0), .int .i64 ((rd_T32 t432 x7_1).f1), .int .i64 ((rd_T32 t432 x7_1).f2), .int .i64 ((rd_T32 t432 x7_1).f3), .slice A436_4 ((rd_T32 t432 x7_1).f4).length c436_4]] rfl (by (try simp only [Qm, Qt, Zb]); first | done | rfl | (simp only [Qn, Qo]; rfl)) ?_; (with_reducible refine (impl_SizeOf.calls k1 ((rd_T32 t432 x7_1).f0) ((rd_T32 t432 x7_1).f1) ((rd_T32 t432 x7_1).f2) ((rd_T32 t432 x7_1).f3) _ _ ((rd_T32 t432 x7_1).f4) t437 _ ?side1 ?side2 A11.out).mono ?_); (case side1 => repeat (first | exact (by repeat (first | (with_reducible exact HR436_4.out) | (with_reducible refine Zw ?_ _) | (with_reducible refine Zx ?_ _) | (with_reducible refine Xb ?_) | exact HR436_4.out)) | (with_reducible refine Zw ?_ _) | (with_reducible refine Zx ?_ _) | (with_reducible refine Xb ?_))); (case side2 => exact HC436_4.out); rintro e w22 ⟨rfl, hb⟩; refine ⟨_, rfl, ?_⟩; replace HO_436004 := Qa (Xr (Bn HO_436004.out) hb); replace HL436_4 := Qa (Kd.V_below (by (with_reducible repeat (first | apply Kd.V_alloc | apply Kd.V_drewN | apply Kd.V_drew)); exact HL436_4.out) hb); replace BK435 := Qa (Qy (g := gb435) (o := .cells #[.int .i64 t428, .int .i64 t429, .int .i64 t430, .int .i64 t431, .slice (some ad436) t432.length co8] 32 (0, 0)) (Ba BK435.out) hb); replace HR436_4 := Qa (Xo (by repeat (first | (with_reducible exact HR436_4.out) | (with_reducible refine Zw ?_ _) | (with_reducible refine Zx ?_ _) | (with_reducible refine Xb ?_) | exact HR436_4.out)) hb); replace HB := Qa (Zc (Bb1 HB.out GE435.out) hb); (try clear hb); (try clear hb2); (try clear hk); (try clear hi); have q23_0 : w22.cell? ⟨gb435, 0, none⟩ = some (.int .i64 t428) := (Qb BK435.out 0).trans rfl; have q23_1 : w22.cell? ⟨gb435, 1, none⟩ = some (.int .i64 t429) := (Qb BK435.out 1).trans rfl; have q23_2 : w22.cell? ⟨gb435, 2, none⟩ = some (.int .i64 t430) := (Qb BK435.out 2).trans rfl; have q23_3 : w22.cell? ⟨gb435, 3, none⟩ = some (.int .i64 t431) := (Qb BK435.out 3).trans rfl; have q23_4 : w22.cell? ⟨gb435, 4, none⟩ = some (.slice (some ad436) t432.length co8) := (Qb BK435.out 4).trans rfl; have u23_0 := Qc BK435.out 0; have u23_1 := Qc BK435.out 1; have u23_2 := Qc BK435.out 2; have u23_3 := Qc BK435.out 3; have u23_4 := Qc BK435.out 4; have p438 : 0 ≤ (x7_1 : Int) := of_decide_eq_true (by first | (with_reducible assumption) | assumption); have q438 : x7_1 < (t432.length : Int) := of_decide_eq_true (by first | (with_reducible assumption) | assumption); obtain ⟨ad438, A438_4, c438_4, e438, hx438_0, hx438_1, hx438_2, hx438_3, hx438_4, hl438_4, hi438_4⟩ := at_T32 (Kd.N_reads' HO_436004.out).2.2 x7_1 p438 q438; obtain rfl : ad436 = ad438 := (by injection e438); obtain ⟨ce438, hce438, hMe438, hcc438⟩ := Kd.N_get HO_436004.out z32 x7_1 p438 (by first | exact q438 | exact of_decide_eq_true (by first | (with_reducible assumption) | assumption) | (have e_ := (Kd.N_reads' HO_436004.out).1; omega)); obtain ⟨ua438_4, uc438_4, rfl, ul438_4, ge438_4⟩ := k32_openF hMe438; have hv438_4 := hcc438 4 _ rfl; rw [add_field _ _ 4 (by omega)] at hv438_4; replace hv438_4 := Qs (hv438_4.symm.trans hx438_4); injection hv438_4 with hva_ hvn_ hvc_; rw [hva_] at ge438_4; rw [hvc_] at ul438_4; have HL438_4 := Qa (show Kd.V k32 32 _ w.heap.size _ _ ((rd_T32 t432 x7_1).f4) from Kd.V_mk ul438_4 ge438_4); clear hva_ hvn_ hvc_ ge438_4 ul438_4 hcc438 hce438; have HR438_4 := Qa hi438_4; have HC438_4 := Qa hl438_4; clear hi438_4 hl438_4; replace p438 := eq_true p438; replace q438 := eq_true q438) | ((with_reducible refine Zf (f := 32) rfl ?_); refine goesL_ (some 39) rfl rfl Try.func32 (by kernel_rfl) rfl #[.agg #[.int .i64 ((rd_T32 t432 x7_1).f0), .int .i64 ((rd_T32 t432 x7_1).f1), .int .i64 ((rd_T32 t432 x7_1).f2), .int .i64 ((rd_T32 t432 x7_1).f3), .slice A438_4 ((rd_T32 t432 x7_1).f4).length c438_4]] rfl (by (try simp only [Qm, Qt, Zb]); first | done | rfl | (simp only [Qn, Qo]; rfl)) ?_; (with_reducible refine (impl_DepthOf.calls k1 ((rd_T32 t432 x7_1).f0) ((rd_T32 t432 x7_1).f1) ((rd_T32 t432 x7_1).f2) ((rd_T32 t432 x7_1).f3) _ _ ((rd_T32 t432 x7_1).f4) t439 _ ?side1 ?side2 A12.out).mono ?_); (case side1 => repeat (first | exact (by repeat (first | (with_reducible exact HR438_4.out) | (with_reducible refine Zw ?_ _) | (with_reducible refine Zx ?_ _) | (with_reducible refine Xb ?_) | exact HR438_4.out)) | (with_reducible refine Zw ?_ _) | (with_reducible refine Zx ?_ _) | (with_reducible refine Xb ?_))); (case side2 => exact HC438_4.out); rintro e w24 ⟨rfl, hb⟩; refine ⟨_, rfl, ?_⟩; replace HO_436004 := Qa (Xr (Bn HO_436004.out) hb); replace HL436_4 := Qa (Kd.V_below (by (with_reducible repeat (first | apply Kd.V_alloc | apply Kd.V_drewN | apply Kd.V_drew)); exact HL436_4.out) hb); replace HL438_4 := Qa (Kd.V_below (by (with_reducible repeat (first | apply Kd.V_alloc | apply Kd.V_drewN | apply Kd.V_drew)); exact HL438_4.out) hb); replace BK435 := Qa (Qy (g := gb435) (o := .cells #[.int .i64 t428, .int .i64 t429, .int .i64 t430, .int .i64 t431, .slice (some ad436) t432.length co8] 32 (0, 0)) (Ba BK435.out) hb); replace HR436_4 := Qa (Xo (by repeat (first | (with_reducible exact HR436_4.out) | (with_reducible refine Zw ?_ _) | (with_reducible refine Zx ?_ _) | (with_reducible refine Xb ?_) | exact HR436_4.out)) hb); replace HR438_4 := Qa (Xo (by repeat (first | (with_reducible exact HR438_4.out) | (with_reducible refine Zw ?_ _) | (with_reducible refine Zx ?_ _) | (with_reducible refine Xb ?_) | exact HR438_4.out)) hb); replace HB := Qa (Zc (Bb1 HB.out GE435.out) hb); (try clear hb); (try clear hb2); (try clear hk); (try clear hi)))
       go_roundg k1
       case measure => have := HK1.out; omega
       case rel => exact ⟨(Qq (x5_1 + t437)), (x6_1), (Qq (x7_1 + 1)), (by first | rfl | (simp; done) | (simp [*]; done) | (simp; rw [Qx]; simp; done)), (by first | rfl | (simp; done) | (simp [*]; done) | (simp; rw [Qx]; simp; done)), (by first | rfl | (simp; done) | (simp [*]; done) | (simp; rw [Qx]; simp; done)), H', ⟨by have := HK1.out; omega⟩, ⟨by (with_reducible repeat (first | apply Kd.N_alloc | apply Kd.N_drewN | apply Kd.N_drew)); exact HO_436004.out⟩, ⟨Ba BK435.out⟩, ⟨Bb1 HB.out GE435.out⟩⟩
     ·rw [if_neg c10] at H
      exact absurd H (by simp)
    ·rw [if_neg c9] at H
     have c9b0 : decide (x7_1 < (t432.length : Int)) = false := decide_eq_false c9
     clear c9
     replace H := Qi.mp H
     obtain ⟨⟨t442, t443, t444, t445, t446, t449, t450, t451, t452, t453⟩, A250, H⟩ := H
     replace H : ((spec_DrawFreeLogic.f k1 l0).bind fun bt458 => ((spec_DrawArityOf.f k1 l0).bind fun t466 => ((impl_SizeOf.f k1 t428 t429 t430 t431 t432).bind fun t467 => (if t467 = x5_1 then ((impl_DepthOf.f k1 t428 t429 t430 t431 t432).bind fun t468 => (if t468 = (Qq (x6_1 + 1)) then ((impl_IsFormula.f k1 t427 t428 t429 t430 t431 t432).bind fun t469 => ((spec_IsFormula.f k1 t427 t428 t429 t430 t431 t432).bind fun t470 => (if (t469 == t470) = true then ((impl_EqualFormula.f k1 t442 t443 t444 t445 t446 t449 t450 t451 t452 t453).bind fun t471 => ((spec_EqualFormula.f k1 t442 t443 t444 t445 t446 t449 t450 t451 t452 t453).bind fun t472 => (if (t471 == t472) = true then ((impl_FreeLogic.f k1 bt458.1 bt458.2.1 bt458.2.2.1 bt458.2.2.2.1 bt458.2.2.2.2).bind fun t473 => ((spec_FreeLogic.f k1 bt458.1 bt458.2.1 bt458.2.2.1 bt458.2.2.2.1 bt458.2.2.2.2).bind fun t476 => ((laws_sameInts.f k1 t473 t476).bind fun t479 => (if t479 = true then ((impl_ArityOf.f k1 t466).bind fun t480 => ((spec_ArityOf.f k1 t466).bind fun t481 => (some (t480 == t481)))) else (some false))))) else (some false)))) else (some false)))) else (some false))) else (some false))))) = some r := H
     have A25 := Qa A250
     clear A250
     replace H := Qi.mp H
     obtain ⟨⟨t458, t459, t460, t461, t462⟩, A260, H⟩ := H
     replace H : ((spec_DrawArityOf.f k1 l0).bind fun t466 => ((impl_SizeOf.f k1 t428 t429 t430 t431 t432).bind fun t467 => (if t467 = x5_1 then ((impl_DepthOf.f k1 t428 t429 t430 t431 t432).bind fun t468 => (if t468 = (Qq (x6_1 + 1)) then ((impl_IsFormula.f k1 t427 t428 t429 t430 t431 t432).bind fun t469 => ((spec_IsFormula.f k1 t427 t428 t429 t430 t431 t432).bind fun t470 => (if (t469 == t470) = true then ((impl_EqualFormula.f k1 t442 t443 t444 t445 t446 t449 t450 t451 t452 t453).bind fun t471 => ((spec_EqualFormula.f k1 t442 t443 t444 t445 t446 t449 t450 t451 t452 t453).bind fun t472 => (if (t471 == t472) = true then ((impl_FreeLogic.f k1 t458 t459 t460 t461 t462).bind fun t473 => ((spec_FreeLogic.f k1 t458 t459 t460 t461 t462).bind fun t476 => ((laws_sameInts.f k1 t473 t476).bind fun t479 => (if t479 = true then ((impl_ArityOf.f k1 t466).bind fun t480 => ((spec_ArityOf.f k1 t466).bind fun t481 => (some (t480 == t481)))) else (some false))))) else (some false)))) else (some false)))) else (some false))) else (some false)))) = some r := H
     have A26 := Qa A260
     clear A260
     replace H := Qi.mp H
     obtain ⟨t466, A270, H⟩ := H
     replace H : ((impl_SizeOf.f k1 t428 t429 t430 t431 t432).bind fun t467 => (if t467 = x5_1 then ((impl_DepthOf.f k1 t428 t429 t430 t431 t432).bind fun t468 => (if t468 = (Qq (x6_1 + 1)) then ((impl_IsFormula.f k1 t427 t428 t429 t430 t431 t432).bind fun t469 => ((spec_IsFormula.f k1 t427 t428 t429 t430 t431 t432).bind fun t470 => (if (t469 == t470) = true then ((impl_EqualFormula.f k1 t442 t443 t444 t445 t446 t449 t450 t451 t452 t453).bind fun t471 => ((spec_EqualFormula.f k1 t442 t443 t444 t445 t446 t449 t450 t451 t452 t453).bind fun t472 => (if (t471 == t472) = true then ((impl_FreeLogic.f k1 t458 t459 t460 t461 t462).bind fun t473 => ((spec_FreeLogic.f k1 t458 t459 t460 t461 t462).bind fun t476 => ((laws_sameInts.f k1 t473 t476).bind fun t479 => (if t479 = true then ((impl_ArityOf.f k1 t466).bind fun t480 => ((spec_ArityOf.f k1 t466).bind fun t481 => (some (t480 == t481)))) else (some false))))) else (some false)))) else (some false)))) else (some false))) else (some false))) = some r := H
     have A27 := Qa A270
     clear A270
     replace H := Qi.mp H
     obtain ⟨t467, A280, H⟩ := H
     replace H : (if t467 = x5_1 then ((impl_DepthOf.f k1 t428 t429 t430 t431 t432).bind fun t468 => (if t468 = (Qq (x6_1 + 1)) then ((impl_IsFormula.f k1 t427 t428 t429 t430 t431 t432).bind fun t469 => ((spec_IsFormula.f k1 t427 t428 t429 t430 t431 t432).bind fun t470 => (if (t469 == t470) = true then ((impl_EqualFormula.f k1 t442 t443 t444 t445 t446 t449 t450 t451 t452 t453).bind fun t471 => ((spec_EqualFormula.f k1 t442 t443 t444 t445 t446 t449 t450 t451 t452 t453).bind fun t472 => (if (t471 == t472) = true then ((impl_FreeLogic.f k1 t458 t459 t460 t461 t462).bind fun t473 => ((spec_FreeLogic.f k1 t458 t459 t460 t461 t462).bind fun t476 => ((laws_sameInts.f k1 t473 t476).bind fun t479 => (if t479 = true then ((impl_ArityOf.f k1 t466).bind fun t480 => ((spec_ArityOf.f k1 t466).bind fun t481 => (some (t480 == t481)))) else (some false))))) else (some false)))) else (some false)))) else (some false))) else (some false)) = some r := H
     have A28 := Qa A280
     clear A280
     by_cases c29 : t467 = x5_1
     ·rw [if_pos c29] at H
      have c29b0 : (t467 == x5_1) = true := beq_iff_eq.mpr c29
      have c29b1 : (t467 != x5_1) = false := bne_eq_false_iff_eq.mpr c29
      clear c29
      replace H := Qi.mp H
      obtain ⟨t468, A300, H⟩ := H
      replace H : (if t468 = (Qq (x6_1 + 1)) then ((impl_IsFormula.f k1 t427 t428 t429 t430 t431 t432).bind fun t469 => ((spec_IsFormula.f k1 t427 t428 t429 t430 t431 t432).bind fun t470 => (if (t469 == t470) = true then ((impl_EqualFormula.f k1 t442 t443 t444 t445 t446 t449 t450 t451 t452 t453).bind fun t471 => ((spec_EqualFormula.f k1 t442 t443 t444 t445 t446 t449 t450 t451 t452 t453).bind fun t472 => (if (t471 == t472) = true then ((impl_FreeLogic.f k1 t458 t459 t460 t461 t462).bind fun t473 => ((spec_FreeLogic.f k1 t458 t459 t460 t461 t462).bind fun t476 => ((laws_sameInts.f k1 t473 t476).bind fun t479 => (if t479 = true then ((impl_ArityOf.f k1 t466).bind fun t480 => ((spec_ArityOf.f k1 t466).bind fun t481 => (some (t480 == t481)))) else (some false))))) else (some false)))) else (some false)))) else (some false)) = some r := H
      have A30 := Qa A300
      clear A300
      by_cases c31 : t468 = (Qq (x6_1 + 1))
      ·rw [if_pos c31] at H
       have c31b0 : (t468 == (Qq (x6_1 + 1))) = true := beq_iff_eq.mpr c31
       have c31b1 : (t468 != (Qq (x6_1 + 1))) = false := bne_eq_false_iff_eq.mpr c31
       clear c31
       replace H := Qi.mp H
       obtain ⟨t469, A320, H⟩ := H
       replace H : ((spec_IsFormula.f k1 t427 t428 t429 t430 t431 t432).bind fun t470 => (if (t469 == t470) = true then ((impl_EqualFormula.f k1 t442 t443 t444 t445 t446 t449 t450 t451 t452 t453).bind fun t471 => ((spec_EqualFormula.f k1 t442 t443 t444 t445 t446 t449 t450 t451 t452 t453).bind fun t472 => (if (t471 == t472) = true then ((impl_FreeLogic.f k1 t458 t459 t460 t461 t462).bind fun t473 => ((spec_FreeLogic.f k1 t458 t459 t460 t461 t462).bind fun t476 => ((laws_sameInts.f k1 t473 t476).bind fun t479 => (if t479 = true then ((impl_ArityOf.f k1 t466).bind fun t480 => ((spec_ArityOf.f k1 t466).bind fun t481 => (some (t480 == t481)))) else (some false))))) else (some false)))) else (some false))) = some r := H
       have A32 := Qa A320
       clear A320
       replace H := Qi.mp H
       obtain ⟨t470, A330, H⟩ := H
       replace H : (if (t469 == t470) = true then ((impl_EqualFormula.f k1 t442 t443 t444 t445 t446 t449 t450 t451 t452 t453).bind fun t471 => ((spec_EqualFormula.f k1 t442 t443 t444 t445 t446 t449 t450 t451 t452 t453).bind fun t472 => (if (t471 == t472) = true then ((impl_FreeLogic.f k1 t458 t459 t460 t461 t462).bind fun t473 => ((spec_FreeLogic.f k1 t458 t459 t460 t461 t462).bind fun t476 => ((laws_sameInts.f k1 t473 t476).bind fun t479 => (if t479 = true then ((impl_ArityOf.f k1 t466).bind fun t480 => ((spec_ArityOf.f k1 t466).bind fun t481 => (some (t480 == t481)))) else (some false))))) else (some false)))) else (some false)) = some r := H
       have A33 := Qa A330
       clear A330
       by_cases c34 : (t469 == t470) = true
       ·rw [if_pos c34] at H
        have c34b0 : (t469 == t470) = true := c34
        (try (have c34b1 : decide (t469 = t470) = true := by simpa using c34))
        (try (have c34b2 : (t469 == t470) = true := by simpa using c34))
        clear c34
        replace H := Qi.mp H
        obtain ⟨t471, A350, H⟩ := H
        replace H : ((spec_EqualFormula.f k1 t442 t443 t444 t445 t446 t449 t450 t451 t452 t453).bind fun t472 => (if (t471 == t472) = true then ((impl_FreeLogic.f k1 t458 t459 t460 t461 t462).bind fun t473 => ((spec_FreeLogic.f k1 t458 t459 t460 t461 t462).bind fun t476 => ((laws_sameInts.f k1 t473 t476).bind fun t479 => (if t479 = true then ((impl_ArityOf.f k1 t466).bind fun t480 => ((spec_ArityOf.f k1 t466).bind fun t481 => (some (t480 == t481)))) else (some false))))) else (some false))) = some r := H
        have A35 := Qa A350
        clear A350
        replace H := Qi.mp H
        obtain ⟨t472, A360, H⟩ := H
        replace H : (if (t471 == t472) = true then ((impl_FreeLogic.f k1 t458 t459 t460 t461 t462).bind fun t473 => ((spec_FreeLogic.f k1 t458 t459 t460 t461 t462).bind fun t476 => ((laws_sameInts.f k1 t473 t476).bind fun t479 => (if t479 = true then ((impl_ArityOf.f k1 t466).bind fun t480 => ((spec_ArityOf.f k1 t466).bind fun t481 => (some (t480 == t481)))) else (some false))))) else (some false)) = some r := H
        have A36 := Qa A360
        clear A360
        by_cases c37 : (t471 == t472) = true
        ·rw [if_pos c37] at H
         have c37b0 : (t471 == t472) = true := c37
         (try (have c37b1 : decide (t471 = t472) = true := by simpa using c37))
         (try (have c37b2 : (t471 == t472) = true := by simpa using c37))
         clear c37
         replace H := Qi.mp H
         obtain ⟨t473, A380, H⟩ := H
         replace H : ((spec_FreeLogic.f k1 t458 t459 t460 t461 t462).bind fun t476 => ((laws_sameInts.f k1 t473 t476).bind fun t479 => (if t479 = true then ((impl_ArityOf.f k1 t466).bind fun t480 => ((spec_ArityOf.f k1 t466).bind fun t481 => (some (t480 == t481)))) else (some false)))) = some r := H
         have A38 := Qa A380
         clear A380
         replace H := Qi.mp H
         obtain ⟨t476, A390, H⟩ := H
         replace H : ((laws_sameInts.f k1 t473 t476).bind fun t479 => (if t479 = true then ((impl_ArityOf.f k1 t466).bind fun t480 => ((spec_ArityOf.f k1 t466).bind fun t481 => (some (t480 == t481)))) else (some false))) = some r := H
         have A39 := Qa A390
         clear A390
         replace H := Qi.mp H
         obtain ⟨t479, A400, H⟩ := H
         replace H : (if t479 = true then ((impl_ArityOf.f k1 t466).bind fun t480 => ((spec_ArityOf.f k1 t466).bind fun t481 => (some (t480 == t481)))) else (some false)) = some r := H
         have A40 := Qa A400
         clear A400
         by_cases c41 : t479 = true
         ·subst c41
          have H1 : ((impl_ArityOf.f k1 t466).bind fun t480 => ((spec_ArityOf.f k1 t466).bind fun t481 => (some (t480 == t481)))) = some r := by rw [if_pos rfl] at H; exact H
          clear H
          have H := H1
          clear H1
          replace H := Qi.mp H
          obtain ⟨t480, A420, H⟩ := H
          replace H : ((spec_ArityOf.f k1 t466).bind fun t481 => (some (t480 == t481))) = some r := H
          have A42 := Qa A420
          clear A420
          replace H := Qi.mp H
          obtain ⟨t481, A430, H⟩ := H
          replace H : (some (t480 == t481)) = some r := H
          have A43 := Qa A430
          clear A430
          obtain rfl := Qs H
          have q44_0 : wr.cell? ⟨gb435, 0, none⟩ = some (.int .i64 t428) := (Qb BK435.out 0).trans rfl
          have q44_1 : wr.cell? ⟨gb435, 1, none⟩ = some (.int .i64 t429) := (Qb BK435.out 1).trans rfl
          have q44_2 : wr.cell? ⟨gb435, 2, none⟩ = some (.int .i64 t430) := (Qb BK435.out 2).trans rfl
          have q44_3 : wr.cell? ⟨gb435, 3, none⟩ = some (.int .i64 t431) := (Qb BK435.out 3).trans rfl
          have q44_4 : wr.cell? ⟨gb435, 4, none⟩ = some (.slice Ao8 t432.length co8) := (Qb BK435.out 4).trans rfl
          have u44_0 := Qc BK435.out 0
          have u44_1 := Qc BK435.out 1
          have u44_2 := Qc BK435.out 2
          have u44_3 := Qc BK435.out 3
          have u44_4 := Qc BK435.out 4
          try go_wp2_with (first | ((with_reducible refine Zf (f := 33) rfl ?_); refine goesL_ (some 50) rfl rfl Try.func33 (by kernel_rfl) rfl #[.slice A0 l0.length c0] rfl (by (try simp only [Qm, Qt, Zb]); first | done | rfl | (simp only [Qn, Qo]; rfl)) ?_; (with_reducible refine (spec_DrawEqualFormula.calls k1 _ _ l0 t442 t443 t444 t445 t446 t449 t450 t451 t452 t453 _ ?side1 ?side2 A25.out).mono ?_); (case side1 => repeat (first | exact (Xo HR0.out HB.out) | (with_reducible refine Zw ?_ _) | (with_reducible refine Zx ?_ _) | (with_reducible refine Xb ?_))); (case side2 => exact HC0.out); rintro e w45 ⟨v447, v454, rfl, ho0, ho1, hb⟩; refine ⟨_, rfl, ?_⟩; have HO448 := Qa (Kd.N_lower (Xd (ok' := fun k_ => some k_ ≠ (v454 : Value).ownBlock ∧ some k_ ≠ (.slice Ao8 t432.length co8 : Value).ownBlock ∧ k_ ≠ gb435) (Kd.R_N (Kd.R_bound ho0)) (fun k_ hk_ => ⟨hk_.1, (Kd.fresh' (Kd.N_lt (Bn HO_436004.out)) k_ hk_.2.1), (Kd.freshB (g := gb435) (o := .cells #[.int .i64 t428, .int .i64 t429, .int .i64 t430, .int .i64 t431, .slice Ao8 t432.length co8] 32 (0, 0)) (Ba BK435.out) k_ hk_.2.1)⟩)) (Qv (Bb1 HB.out GE435.out))); have HO455 := Qa (Kd.N_lower (Xd (ok' := fun k_ => some k_ ≠ (v447 : Value).ownBlock ∧ some k_ ≠ (.slice Ao8 t432.length co8 : Value).ownBlock ∧ k_ ≠ gb435) (Kd.R_N (Kd.R_bound ho1)) (fun k_ hk_ => ⟨hk_.1, (Kd.fresh' (Kd.N_lt (Bn HO_436004.out)) k_ hk_.2.1), (Kd.freshB (g := gb435) (o := .cells #[.int .i64 t428, .int .i64 t429, .int .i64 t430, .int .i64 t431, .slice Ao8 t432.length co8] 32 (0, 0)) (Ba BK435.out) k_ hk_.2.1)⟩)) (Qv (Bb1 HB.out GE435.out))); replace HO_436004 := Qa (Xd (Kd.N_told (Kd.N_told (Kd.N_old (Bn HO_436004.out) hb) (Kd.N_base (by first | exact ho0 | exact Kd.R_N ho0))) (Kd.N_base (by first | exact ho1 | exact Kd.R_N ho1))) (fun _ h_ => h_.1)); replace BK435 := Qa (Qy (g := gb435) (o := .cells #[.int .i64 t428, .int .i64 t429, .int .i64 t430, .int .i64 t431, .slice Ao8 t432.length co8] 32 (0, 0)) (Ba BK435.out) hb); replace HB := Qa (Zc (Bb1 HB.out GE435.out) hb); (try clear hb); (try clear hb2); (try clear hk); (try clear hi); (try clear ho0); (try clear ho1)) | ((with_reducible refine gate_dst (N := 8) rfl ?_); refine box_event ?hg (N := 8) ?hd (cs := #[.int .i64 0, .int .i64 0, .int .i64 0, .int .i64 0, .slice none 0 0]) (t := 32) ?hr ?_; (case hd => rfl); (case hg => rfl); (case hr => first | (go_simp; done) | (go_simp; rfl)); intro gb456 hg w46 hbox hb; replace HO_436004 := Qa (Xr (Kd.N_elderB (Bn HO_436004.out) gb456 (Nat.le_of_eq hg.symm)) hb); replace HO448 := Qa (Xr (Kd.N_elderB (Bn HO448.out) gb456 (Nat.le_of_eq hg.symm)) hb); replace HO455 := Qa (Xr (Kd.N_elderB (Bn HO455.out) gb456 (Nat.le_of_eq hg.symm)) hb); have BK456 := Qa (hbox); have GW456 := Qa ((by rw [hg]; exact (Qv (Bb1 HB.out GE435.out)) : w.heap.size ≤ gb456)); have GE456 := Qa ((by rw [hg]; exact (Qv (Bb1 HB.out GE435.out)) : w.heap.size ≤ gb456)); replace HB := Qa (Zc (Bb1 HB.out GE435.out) hb); have NB435_456 := Qa ((by rw [hg]; exact Zp (blk_lt (g := gb435) (o := .cells #[.int .i64 t428, .int .i64 t429, .int .i64 t430, .int .i64 t431, .slice Ao8 t432.length co8] 32 (0, 0)) (Ba BK435.out)) : gb435 ≠ gb456)); have NB456_435 := Qa ((by rw [hg]; exact Zy (blk_lt (g := gb435) (o := .cells #[.int .i64 t428, .int .i64 t429, .int .i64 t430, .int .i64 t431, .slice Ao8 t432.length co8] 32 (0, 0)) (Ba BK435.out)) : gb456 ≠ gb435)); replace BK435 := Qa (Qy (g := gb435) (o := .cells #[.int .i64 t428, .int .i64 t429, .int .i64 t430, .int .i64 t431, .slice Ao8 t432.length co8] 32 (0, 0)) (Ba BK435.out) hb); clear hb hbox hg) | ((with_reducible refine gate_dst (N := 9) rfl ?_); refine box_event ?hg (N := 9) ?hd (cs := #[.int .i64 0, .int .i64 0, .int .i64 0, .int .i64 0, .slice none 0 0]) (t := 32) ?hr ?_; (case hd => rfl); (case hg => rfl); (case hr => first | (go_simp; done) | (go_simp; rfl)); intro gb457 hg w47 hbox hb; replace HO_436004 := Qa (Xr (Kd.N_elderB (Bn HO_436004.out) gb457 (Nat.le_of_eq hg.symm)) hb); replace HO448 := Qa (Xr (Kd.N_elderB (Bn HO448.out) gb457 (Nat.le_of_eq hg.symm)) hb); replace HO455 := Qa (Xr (Kd.N_elderB (Bn HO455.out) gb457 (Nat.le_of_eq hg.symm)) hb); have BK457 := Qa (hbox); have GW457 := Qa ((by rw [hg]; exact (Qv (Bb2 HB.out GE435.out GE456.out)) : w.heap.size ≤ gb457)); have GE457 := Qa ((by rw [hg]; exact (Qv (Bb2 HB.out GE435.out GE456.out)) : w.heap.size ≤ gb457)); replace HB := Qa (Zc (Bb2 HB.out GE435.out GE456.out) hb); have NB435_457 := Qa ((by rw [hg]; exact Zp (blk_lt (g := gb435) (o := .cells #[.int .i64 t428, .int .i64 t429, .int .i64 t430, .int .i64 t431, .slice Ao8 t432.length co8] 32 (0, 0)) (Ba BK435.out)) : gb435 ≠ gb457)); have NB457_435 := Qa ((by rw [hg]; exact Zy (blk_lt (g := gb435) (o := .cells #[.int .i64 t428, .int .i64 t429, .int .i64 t430, .int .i64 t431, .slice Ao8 t432.length co8] 32 (0, 0)) (Ba BK435.out)) : gb457 ≠ gb435)); replace BK435 := Qa (Qy (g := gb435) (o := .cells #[.int .i64 t428, .int .i64 t429, .int .i64 t430, .int .i64 t431, .slice Ao8 t432.length co8] 32 (0, 0)) (Ba BK435.out) hb); have NB456_457 := Qa ((by rw [hg]; exact Zp (blk_lt (g := gb456) (o := .cells #[.int .i64 0, .int .i64 0, .int .i64 0, .int .i64 0, .slice none 0 0] 32 (0, 0)) (Ba BK456.out)) : gb456 ≠ gb457)); have NB457_456 := Qa ((by rw [hg]; exact Zy (blk_lt (g := gb456) (o := .cells #[.int .i64 0, .int .i64 0, .int .i64 0, .int .i64 0, .slice none 0 0] 32 (0, 0)) (Ba BK456.out)) : gb457 ≠ gb456)); replace BK456 := Qa (Qy (g := gb456) (o := .cells #[.int .i64 0, .int .i64 0, .int .i64 0, .int .i64 0, .slice none 0 0] 32 (0, 0)) (Ba BK456.out) hb); clear hb hbox hg; have hnb48 := NB456_435.out; have hnc48 := NB435_456.out; have hnb49 := NB456_457.out; have hnc49 := NB457_456.out; have q50_0 : w47.cell? ⟨gb456, 0, none⟩ = some (.int .i64 0) := (Qb BK456.out 0).trans rfl; have q50_1 : w47.cell? ⟨gb456, 1, none⟩ = some (.int .i64 0) := (Qb BK456.out 1).trans rfl; have q50_2 : w47.cell? ⟨gb456, 2, none⟩ = some (.int .i64 0) := (Qb BK456.out 2).trans rfl; have q50_3 : w47.cell? ⟨gb456, 3, none⟩ = some (.int .i64 0) := (Qb BK456.out 3).trans rfl; have q50_4 : w47.cell? ⟨gb456, 4, none⟩ = some (.slice none 0 0) := (Qb BK456.out 4).trans rfl; have u50_0 := Qc BK456.out 0; have u50_1 := Qc BK456.out 1; have u50_2 := Qc BK456.out 2; have u50_3 := Qc BK456.out 3; have u50_4 := Qc BK456.out 4; obtain ⟨Ao51, co51, eo51⟩ := Kd.N_slice HO448.out; subst eo51; have hnb52 := NB457_435.out; have hnc52 := NB435_457.out; have q53_0 : w47.cell? ⟨gb457, 0, none⟩ = some (.int .i64 0) := (Qb BK457.out 0).trans rfl; have q53_1 : w47.cell? ⟨gb457, 1, none⟩ = some (.int .i64 0) := (Qb BK457.out 1).trans rfl; have q53_2 : w47.cell? ⟨gb457, 2, none⟩ = some (.int .i64 0) := (Qb BK457.out 2).trans rfl; have q53_3 : w47.cell? ⟨gb457, 3, none⟩ = some (.int .i64 0) := (Qb BK457.out 3).trans rfl; have q53_4 : w47.cell? ⟨gb457, 4, none⟩ = some (.slice none 0 0) := (Qb BK457.out 4).trans rfl; have u53_0 := Qc BK457.out 0; have u53_1 := Qc BK457.out 1; have u53_2 := Qc BK457.out 2; have u53_3 := Qc BK457.out 3; have u53_4 := Qc BK457.out 4; obtain ⟨Ao54, co54, eo54⟩ := Kd.N_slice HO455.out; subst eo54) | ((with_reducible refine Zf (f := 34) rfl ?_); refine goesL_ (some 54) rfl rfl Try.func34 (by kernel_rfl) rfl #[.slice A0 l0.length c0] rfl (by (try simp only [Qm, Qt, Zb]); first | done | rfl | (simp only [Qn, Qo]; rfl)) ?_; (with_reducible refine (spec_DrawFreeLogic.calls k1 _ _ l0 t458 t459 t460 t461 t462 _ ?side1 ?side2 A26.out).mono ?_); (case side1 => exact Xo HR0.out (Bb3 HB.out GE435.out GE456.out GE457.out)); (case side2 => exact HC0.out); rintro e w55 ⟨v463, rfl, ho0, hb⟩; refine ⟨_, rfl, ?_⟩; have HO464 := Qa (Kd.N_lower (Xd (ok' := fun k_ => some k_ ≠ (.slice Ao8 t432.length co8 : Value).ownBlock ∧ some k_ ≠ (.slice Ao51 t446.length co51 : Value).ownBlock ∧ some k_ ≠ (.slice Ao54 t453.length co54 : Value).ownBlock ∧ k_ ≠ gb435 ∧ k_ ≠ gb456 ∧ k_ ≠ gb457) (Kd.R_N (Kd.R_bound ho0)) (fun k_ hk_ => ⟨(Kd.fresh' (Kd.N_lt (by (with_reducible repeat (first | apply Kd.N_alloc | apply Kd.N_drewN | apply Kd.N_drew)); exact (Xd (Xd (Zo (p := ⟨gb457, 4, none⟩) (Zo (p := ⟨gb457, 3, none⟩) (Zo (p := ⟨gb457, 2, none⟩) (Zo (p := ⟨gb457, 1, none⟩) (Zo (p := ⟨gb457, 0, none⟩) (Zo (p := ⟨gb456, 4, none⟩) (Zo (p := ⟨gb456, 3, none⟩) (Zo (p := ⟨gb456, 2, none⟩) (Zo (p := ⟨gb456, 1, none⟩) (Zo (p := ⟨gb456, 0, none⟩) (Xd (Xd HO_436004.out (fun k_ hk => (⟨hk, hk.1.2⟩ : _ ∧ k_ ≠ gb456))) (fun k_ hk => (⟨hk, hk.1.2⟩ : _ ∧ k_ ≠ gb457))) (fun _ hk => hk.1.2) (.int .i64 t442)) (fun _ hk => hk.1.2) (.int .i64 t443)) (fun _ hk => hk.1.2) (.int .i64 t444)) (fun _ hk => hk.1.2) (.int .i64 t445)) (fun _ hk => hk.1.2) (.slice Ao51 t446.length co51)) (fun _ hk => hk.2) (.int .i64 t449)) (fun _ hk => hk.2) (.int .i64 t450)) (fun _ hk => hk.2) (.int .i64 t451)) (fun _ hk => hk.2) (.int .i64 t452)) (fun _ hk => hk.2) (.slice Ao54 t453.length co54)) (fun _ h_ => h_.1)) (fun _ h_ => h_.1)))) k_ hk_.2.1), (Kd.fresh' (Kd.N_lt (by (with_reducible repeat (first | apply Kd.N_alloc | apply Kd.N_drewN | apply Kd.N_drew)); exact (Xd (Xd (Zo (p := ⟨gb457, 4, none⟩) (Zo (p := ⟨gb457, 3, none⟩) (Zo (p := ⟨gb457, 2, none⟩) (Zo (p := ⟨gb457, 1, none⟩) (Zo (p := ⟨gb457, 0, none⟩) (Zo (p := ⟨gb456, 4, none⟩) (Zo (p := ⟨gb456, 3, none⟩) (Zo (p := ⟨gb456, 2, none⟩) (Zo (p := ⟨gb456, 1, none⟩) (Zo (p := ⟨gb456, 0, none⟩) (Xd (Xd HO448.out (fun k_ hk => (⟨hk, hk.1.2⟩ : _ ∧ k_ ≠ gb456))) (fun k_ hk => (⟨hk, hk.1.2⟩ : _ ∧ k_ ≠ gb457))) (fun _ hk => hk.1.2) (.int .i64 t442)) (fun _ hk => hk.1.2) (.int .i64 t443)) (fun _ hk => hk.1.2) (.int .i64 t444)) (fun _ hk => hk.1.2) (.int .i64 t445)) (fun _ hk => hk.1.2) (.slice Ao51 t446.length co51)) (fun _ hk => hk.2) (.int .i64 t449)) (fun _ hk => hk.2) (.int .i64 t450)) (fun _ hk => hk.2) (.int .i64 t451)) (fun _ hk => hk.2) (.int .i64 t452)) (fun _ hk => hk.2) (.slice Ao54 t453.length co54)) (fun _ h_ => h_.1)) (fun _ h_ => h_.1)))) k_ hk_.2.1), (Kd.fresh' (Kd.N_lt (by (with_reducible repeat (first | apply Kd.N_alloc | apply Kd.N_drewN | apply Kd.N_drew)); exact (Xd (Xd (Zo (p := ⟨gb457, 4, none⟩) (Zo (p := ⟨gb457, 3, none⟩) (Zo (p := ⟨gb457, 2, none⟩) (Zo (p := ⟨gb457, 1, none⟩) (Zo (p := ⟨gb457, 0, none⟩) (Zo (p := ⟨gb456, 4, none⟩) (Zo (p := ⟨gb456, 3, none⟩) (Zo (p := ⟨gb456, 2, none⟩) (Zo (p := ⟨gb456, 1, none⟩) (Zo (p := ⟨gb456, 0, none⟩) (Xd (Xd HO455.out (fun k_ hk => (⟨hk, hk.1.2⟩ : _ ∧ k_ ≠ gb456))) (fun k_ hk => (⟨hk, hk.1.2⟩ : _ ∧ k_ ≠ gb457))) (fun _ hk => hk.1.2) (.int .i64 t442)) (fun _ hk => hk.1.2) (.int .i64 t443)) (fun _ hk => hk.1.2) (.int .i64 t444)) (fun _ hk => hk.1.2) (.int .i64 t445)) (fun _ hk => hk.1.2) (.slice Ao51 t446.length co51)) (fun _ hk => hk.2) (.int .i64 t449)) (fun _ hk => hk.2) (.int .i64 t450)) (fun _ hk => hk.2) (.int .i64 t451)) (fun _ hk => hk.2) (.int .i64 t452)) (fun _ hk => hk.2) (.slice Ao54 t453.length co54)) (fun _ h_ => h_.1)) (fun _ h_ => h_.1)))) k_ hk_.2.1), (Kd.freshB (g := gb435) (o := .cells #[.int .i64 t428, .int .i64 t429, .int .i64 t430, .int .i64 t431, .slice Ao8 t432.length co8] 32 (0, 0)) (by (iterate 5 ((with_reducible repeat (first | refine Qg ?_ _ | refine Qh ?_ | refine Qf ?_ _)); refine blk_far ?_ NB435_457.out _)); (iterate 5 ((with_reducible repeat (first | refine Qg ?_ _ | refine Qh ?_ | refine Qf ?_ _)); refine blk_far ?_ NB435_456.out _)); (with_reducible repeat (first | refine Qg ?_ _ | refine Qh ?_ | refine Qf ?_ _)); exact BK435.out) k_ hk_.2.1), (Kd.freshB (g := gb456) (o := .cells #[.int .i64 t442, .int .i64 t443, .int .i64 t444, .int .i64 t445, .slice Ao51 t446.length co51] 32 (0, 0)) (by (iterate 5 ((with_reducible repeat (first | refine Qg ?_ _ | refine Qh ?_ | refine Qf ?_ _)); refine blk_far ?_ NB456_457.out _)); (with_reducible repeat (first | refine Qg ?_ _ | refine Qh ?_ | refine Qf ?_ _)); refine Qr (cs := #[.int .i64 t442, .int .i64 t443, .int .i64 t444, .int .i64 t445, .slice none 0 0]) ?_ 4 _ rfl; (with_reducible repeat (first | refine Qg ?_ _ | refine Qh ?_ | refine Qf ?_ _)); refine Qr (cs := #[.int .i64 t442, .int .i64 t443, .int .i64 t444, .int .i64 0, .slice none 0 0]) ?_ 3 _ rfl; (with_reducible repeat (first | refine Qg ?_ _ | refine Qh ?_ | refine Qf ?_ _)); refine Qr (cs := #[.int .i64 t442, .int .i64 t443, .int .i64 0, .int .i64 0, .slice none 0 0]) ?_ 2 _ rfl; (with_reducible repeat (first | refine Qg ?_ _ | refine Qh ?_ | refine Qf ?_ _)); refine Qr (cs := #[.int .i64 t442, .int .i64 0, .int .i64 0, .int .i64 0, .slice none 0 0]) ?_ 1 _ rfl; (with_reducible repeat (first | refine Qg ?_ _ | refine Qh ?_ | refine Qf ?_ _)); refine Qr (cs := #[.int .i64 0, .int .i64 0, .int .i64 0, .int .i64 0, .slice none 0 0]) ?_ 0 _ rfl; (with_reducible repeat (first | refine Qg ?_ _ | refine Qh ?_ | refine Qf ?_ _)); exact BK456.out) k_ hk_.2.1), (Kd.freshB (g := gb457) (o := .cells #[.int .i64 t449, .int .i64 t450, .int .i64 t451, .int .i64 t452, .slice Ao54 t453.length co54] 32 (0, 0)) (by (with_reducible repeat (first | refine Qg ?_ _ | refine Qh ?_ | refine Qf ?_ _)); refine Qr (cs := #[.int .i64 t449, .int .i64 t450, .int .i64 t451, .int .i64 t452, .slice none 0 0]) ?_ 4 _ rfl; (with_reducible repeat (first | refine Qg ?_ _ | refine Qh ?_ | refine Qf ?_ _)); refine Qr (cs := #[.int .i64 t449, .int .i64 t450, .int .i64 t451, .int .i64 0, .slice none 0 0]) ?_ 3 _ rfl; (with_reducible repeat (first | refine Qg ?_ _ | refine Qh ?_ | refine Qf ?_ _)); refine Qr (cs := #[.int .i64 t449, .int .i64 t450, .int .i64 0, .int .i64 0, .slice none 0 0]) ?_ 2 _ rfl; (with_reducible repeat (first | refine Qg ?_ _ | refine Qh ?_ | refine Qf ?_ _)); refine Qr (cs := #[.int .i64 t449, .int .i64 0, .int .i64 0, .int .i64 0, .slice none 0 0]) ?_ 1 _ rfl; (with_reducible repeat (first | refine Qg ?_ _ | refine Qh ?_ | refine Qf ?_ _)); refine Qr (cs := #[.int .i64 0, .int .i64 0, .int .i64 0, .int .i64 0, .slice none 0 0]) ?_ 0 _ rfl; (iterate 5 ((with_reducible repeat (first | refine Qg ?_ _ | refine Qh ?_ | refine Qf ?_ _)); refine blk_far ?_ NB457_456.out _)); (with_reducible repeat (first | refine Qg ?_ _ | refine Qh ?_ | refine Qf ?_ _)); exact BK457.out) k_ hk_.2.1)⟩)) (Qv (Bb3 HB.out GE435.out GE456.out GE457.out))); replace HO_436004 := Qa (Kd.N_elder' (by (with_reducible repeat (first | apply Kd.N_alloc | apply Kd.N_drewN | apply Kd.N_drew)); exact (Xd (Xd (Zo (p := ⟨gb457, 4, none⟩) (Zo (p := ⟨gb457, 3, none⟩) (Zo (p := ⟨gb457, 2, none⟩) (Zo (p := ⟨gb457, 1, none⟩) (Zo (p := ⟨gb457, 0, none⟩) (Zo (p := ⟨gb456, 4, none⟩) (Zo (p := ⟨gb456, 3, none⟩) (Zo (p := ⟨gb456, 2, none⟩) (Zo (p := ⟨gb456, 1, none⟩) (Zo (p := ⟨gb456, 0, none⟩) (Xd (Xd HO_436004.out (fun k_ hk => (⟨hk, hk.1.2⟩ : _ ∧ k_ ≠ gb456))) (fun k_ hk => (⟨hk, hk.1.2⟩ : _ ∧ k_ ≠ gb457))) (fun _ hk => hk.1.2) (.int .i64 t442)) (fun _ hk => hk.1.2) (.int .i64 t443)) (fun _ hk => hk.1.2) (.int .i64 t444)) (fun _ hk => hk.1.2) (.int .i64 t445)) (fun _ hk => hk.1.2) (.slice Ao51 t446.length co51)) (fun _ hk => hk.2) (.int .i64 t449)) (fun _ hk => hk.2) (.int .i64 t450)) (fun _ hk => hk.2) (.int .i64 t451)) (fun _ hk => hk.2) (.int .i64 t452)) (fun _ hk => hk.2) (.slice Ao54 t453.length co54)) (fun _ h_ => h_.1)) (fun _ h_ => h_.1))) (Kd.N_base (by first | exact ho0 | exact Kd.R_N ho0)) hb); replace HO448 := Qa (Kd.N_elder' (by (with_reducible repeat (first | apply Kd.N_alloc | apply Kd.N_drewN | apply Kd.N_drew)); exact (Xd (Xd (Zo (p := ⟨gb457, 4, none⟩) (Zo (p := ⟨gb457, 3, none⟩) (Zo (p := ⟨gb457, 2, none⟩) (Zo (p := ⟨gb457, 1, none⟩) (Zo (p := ⟨gb457, 0, none⟩) (Zo (p := ⟨gb456, 4, none⟩) (Zo (p := ⟨gb456, 3, none⟩) (Zo (p := ⟨gb456, 2, none⟩) (Zo (p := ⟨gb456, 1, none⟩) (Zo (p := ⟨gb456, 0, none⟩) (Xd (Xd HO448.out (fun k_ hk => (⟨hk, hk.1.2⟩ : _ ∧ k_ ≠ gb456))) (fun k_ hk => (⟨hk, hk.1.2⟩ : _ ∧ k_ ≠ gb457))) (fun _ hk => hk.1.2) (.int .i64 t442)) (fun _ hk => hk.1.2) (.int .i64 t443)) (fun _ hk => hk.1.2) (.int .i64 t444)) (fun _ hk => hk.1.2) (.int .i64 t445)) (fun _ hk => hk.1.2) (.slice Ao51 t446.length co51)) (fun _ hk => hk.2) (.int .i64 t449)) (fun _ hk => hk.2) (.int .i64 t450)) (fun _ hk => hk.2) (.int .i64 t451)) (fun _ hk => hk.2) (.int .i64 t452)) (fun _ hk => hk.2) (.slice Ao54 t453.length co54)) (fun _ h_ => h_.1)) (fun _ h_ => h_.1))) (Kd.N_base (by first | exact ho0 | exact Kd.R_N ho0)) hb); replace HO455 := Qa (Kd.N_elder' (by (with_reducible repeat (first | apply Kd.N_alloc | apply Kd.N_drewN | apply Kd.N_drew)); exact (Xd (Xd (Zo (p := ⟨gb457, 4, none⟩) (Zo (p := ⟨gb457, 3, none⟩) (Zo (p := ⟨gb457, 2, none⟩) (Zo (p := ⟨gb457, 1, none⟩) (Zo (p := ⟨gb457, 0, none⟩) (Zo (p := ⟨gb456, 4, none⟩) (Zo (p := ⟨gb456, 3, none⟩) (Zo (p := ⟨gb456, 2, none⟩) (Zo (p := ⟨gb456, 1, none⟩) (Zo (p := ⟨gb456, 0, none⟩) (Xd (Xd HO455.out (fun k_ hk => (⟨hk, hk.1.2⟩ : _ ∧ k_ ≠ gb456))) (fun k_ hk => (⟨hk, hk.1.2⟩ : _ ∧ k_ ≠ gb457))) (fun _ hk => hk.1.2) (.int .i64 t442)) (fun _ hk => hk.1.2) (.int .i64 t443)) (fun _ hk => hk.1.2) (.int .i64 t444)) (fun _ hk => hk.1.2) (.int .i64 t445)) (fun _ hk => hk.1.2) (.slice Ao51 t446.length co51)) (fun _ hk => hk.2) (.int .i64 t449)) (fun _ hk => hk.2) (.int .i64 t450)) (fun _ hk => hk.2) (.int .i64 t451)) (fun _ hk => hk.2) (.int .i64 t452)) (fun _ hk => hk.2) (.slice Ao54 t453.length co54)) (fun _ h_ => h_.1)) (fun _ h_ => h_.1))) (Kd.N_base (by first | exact ho0 | exact Kd.R_N ho0)) hb); replace BK435 := Qa (Qy (g := gb435) (o := .cells #[.int .i64 t428, .int .i64 t429, .int .i64 t430, .int .i64 t431, .slice Ao8 t432.length co8] 32 (0, 0)) (by (iterate 5 ((with_reducible repeat (first | refine Qg ?_ _ | refine Qh ?_ | refine Qf ?_ _)); refine blk_far ?_ NB435_457.out _)); (iterate 5 ((with_reducible repeat (first | refine Qg ?_ _ | refine Qh ?_ | refine Qf ?_ _)); refine blk_far ?_ NB435_456.out _)); (with_reducible repeat (first | refine Qg ?_ _ | refine Qh ?_ | refine Qf ?_ _)); exact BK435.out) hb); replace BK456 := Qa (Qy (g := gb456) (o := .cells #[.int .i64 t442, .int .i64 t443, .int .i64 t444, .int .i64 t445, .slice Ao51 t446.length co51] 32 (0, 0)) (by (iterate 5 ((with_reducible repeat (first | refine Qg ?_ _ | refine Qh ?_ | refine Qf ?_ _)); refine blk_far ?_ NB456_457.out _)); (with_reducible repeat (first | refine Qg ?_ _ | refine Qh ?_ | refine Qf ?_ _)); refine Qr (cs := #[.int .i64 t442, .int .i64 t443, .int .i64 t444, .int .i64 t445, .slice none 0 0]) ?_ 4 _ rfl; (with_reducible repeat (first | refine Qg ?_ _ | refine Qh ?_ | refine Qf ?_ _)); refine Qr (cs := #[.int .i64 t442, .int .i64 t443, .int .i64 t444, .int .i64 0, .slice none 0 0]) ?_ 3 _ rfl; (with_reducible repeat (first | refine Qg ?_ _ | refine Qh ?_ | refine Qf ?_ _)); refine Qr (cs := #[.int .i64 t442, .int .i64 t443, .int .i64 0, .int .i64 0, .slice none 0 0]) ?_ 2 _ rfl; (with_reducible repeat (first | refine Qg ?_ _ | refine Qh ?_ | refine Qf ?_ _)); refine Qr (cs := #[.int .i64 t442, .int .i64 0, .int .i64 0, .int .i64 0, .slice none 0 0]) ?_ 1 _ rfl; (with_reducible repeat (first | refine Qg ?_ _ | refine Qh ?_ | refine Qf ?_ _)); refine Qr (cs := #[.int .i64 0, .int .i64 0, .int .i64 0, .int .i64 0, .slice none 0 0]) ?_ 0 _ rfl; (with_reducible repeat (first | refine Qg ?_ _ | refine Qh ?_ | refine Qf ?_ _)); exact BK456.out) hb); replace BK457 := Qa (Qy (g := gb457) (o := .cells #[.int .i64 t449, .int .i64 t450, .int .i64 t451, .int .i64 t452, .slice Ao54 t453.length co54] 32 (0, 0)) (by (with_reducible repeat (first | refine Qg ?_ _ | refine Qh ?_ | refine Qf ?_ _)); refine Qr (cs := #[.int .i64 t449, .int .i64 t450, .int .i64 t451, .int .i64 t452, .slice none 0 0]) ?_ 4 _ rfl; (with_reducible repeat (first | refine Qg ?_ _ | refine Qh ?_ | refine Qf ?_ _)); refine Qr (cs := #[.int .i64 t449, .int .i64 t450, .int .i64 t451, .int .i64 0, .slice none 0 0]) ?_ 3 _ rfl; (with_reducible repeat (first | refine Qg ?_ _ | refine Qh ?_ | refine Qf ?_ _)); refine Qr (cs := #[.int .i64 t449, .int .i64 t450, .int .i64 0, .int .i64 0, .slice none 0 0]) ?_ 2 _ rfl; (with_reducible repeat (first | refine Qg ?_ _ | refine Qh ?_ | refine Qf ?_ _)); refine Qr (cs := #[.int .i64 t449, .int .i64 0, .int .i64 0, .int .i64 0, .slice none 0 0]) ?_ 1 _ rfl; (with_reducible repeat (first | refine Qg ?_ _ | refine Qh ?_ | refine Qf ?_ _)); refine Qr (cs := #[.int .i64 0, .int .i64 0, .int .i64 0, .int .i64 0, .slice none 0 0]) ?_ 0 _ rfl; (iterate 5 ((with_reducible repeat (first | refine Qg ?_ _ | refine Qh ?_ | refine Qf ?_ _)); refine blk_far ?_ NB457_456.out _)); (with_reducible repeat (first | refine Qg ?_ _ | refine Qh ?_ | refine Qf ?_ _)); exact BK457.out) hb); replace HB := Qa (Zc (Bb3 HB.out GE435.out GE456.out GE457.out) hb); (try clear hb); (try clear hb2); (try clear hk); (try clear hi); (try clear ho0)) | ((with_reducible refine gate_dst (N := 10) rfl ?_); refine box_event ?hg (N := 10) ?hd (cs := #[.int .i64 0, .int .i64 0, .int .i64 0, .int .i64 0, .slice none 0 0]) (t := 32) ?hr ?_; (case hd => rfl); (case hg => rfl); (case hr => first | (go_simp; done) | (go_simp; rfl)); intro gb465 hg w56 hbox hb; replace HO_436004 := Qa (Xr (Kd.N_elderB (Bn HO_436004.out) gb465 (Nat.le_of_eq hg.symm)) hb); replace HO448 := Qa (Xr (Kd.N_elderB (Bn HO448.out) gb465 (Nat.le_of_eq hg.symm)) hb); replace HO455 := Qa (Xr (Kd.N_elderB (Bn HO455.out) gb465 (Nat.le_of_eq hg.symm)) hb); replace HO464 := Qa (Xr (Kd.N_elderB (Bn HO464.out) gb465 (Nat.le_of_eq hg.symm)) hb); have BK465 := Qa (hbox); have GW465 := Qa ((by rw [hg]; exact (Qv (Bb3 HB.out GE435.out GE456.out GE457.out)) : w.heap.size ≤ gb465)); have GE465 := Qa ((by rw [hg]; exact (Qv (Bb3 HB.out GE435.out GE456.out GE457.out)) : w.heap.size ≤ gb465)); replace HB := Qa (Zc (Bb3 HB.out GE435.out GE456.out GE457.out) hb); have NB435_465 := Qa ((by rw [hg]; exact Zp (blk_lt (g := gb435) (o := .cells #[.int .i64 t428, .int .i64 t429, .int .i64 t430, .int .i64 t431, .slice Ao8 t432.length co8] 32 (0, 0)) (Ba BK435.out)) : gb435 ≠ gb465)); have NB465_435 := Qa ((by rw [hg]; exact Zy (blk_lt (g := gb435) (o := .cells #[.int .i64 t428, .int .i64 t429, .int .i64 t430, .int .i64 t431, .slice Ao8 t432.length co8] 32 (0, 0)) (Ba BK435.out)) : gb465 ≠ gb435)); replace BK435 := Qa (Qy (g := gb435) (o := .cells #[.int .i64 t428, .int .i64 t429, .int .i64 t430, .int .i64 t431, .slice Ao8 t432.length co8] 32 (0, 0)) (Ba BK435.out) hb); have NB456_465 := Qa ((by rw [hg]; exact Zp (blk_lt (g := gb456) (o := .cells #[.int .i64 t442, .int .i64 t443, .int .i64 t444, .int .i64 t445, .slice Ao51 t446.length co51] 32 (0, 0)) (Ba BK456.out)) : gb456 ≠ gb465)); have NB465_456 := Qa ((by rw [hg]; exact Zy (blk_lt (g := gb456) (o := .cells #[.int .i64 t442, .int .i64 t443, .int .i64 t444, .int .i64 t445, .slice Ao51 t446.length co51] 32 (0, 0)) (Ba BK456.out)) : gb465 ≠ gb456)); replace BK456 := Qa (Qy (g := gb456) (o := .cells #[.int .i64 t442, .int .i64 t443, .int .i64 t444, .int .i64 t445, .slice Ao51 t446.length co51] 32 (0, 0)) (Ba BK456.out) hb); have NB457_465 := Qa ((by rw [hg]; exact Zp (blk_lt (g := gb457) (o := .cells #[.int .i64 t449, .int .i64 t450, .int .i64 t451, .int .i64 t452, .slice Ao54 t453.length co54] 32 (0, 0)) (Ba BK457.out)) : gb457 ≠ gb465)); have NB465_457 := Qa ((by rw [hg]; exact Zy (blk_lt (g := gb457) (o := .cells #[.int .i64 t449, .int .i64 t450, .int .i64 t451, .int .i64 t452, .slice Ao54 t453.length co54] 32 (0, 0)) (Ba BK457.out)) : gb465 ≠ gb457)); replace BK457 := Qa (Qy (g := gb457) (o := .cells #[.int .i64 t449, .int .i64 t450, .int .i64 t451, .int .i64 t452, .slice Ao54 t453.length co54] 32 (0, 0)) (Ba BK457.out) hb); clear hb hbox hg; have hnb57 := NB465_435.out; have hnc57 := NB435_465.out; have hnb58 := NB465_456.out; have hnc58 := NB456_465.out; have hnb59 := NB465_457.out; have hnc59 := NB457_465.out; have q60_0 : w56.cell? ⟨gb465, 0, none⟩ = some (.int .i64 0) := (Qb BK465.out 0).trans rfl; have q60_1 : w56.cell? ⟨gb465, 1, none⟩ = some (.int .i64 0) := (Qb BK465.out 1).trans rfl; have q60_2 : w56.cell? ⟨gb465, 2, none⟩ = some (.int .i64 0) := (Qb BK465.out 2).trans rfl; have q60_3 : w56.cell? ⟨gb465, 3, none⟩ = some (.int .i64 0) := (Qb BK465.out 3).trans rfl; have q60_4 : w56.cell? ⟨gb465, 4, none⟩ = some (.slice none 0 0) := (Qb BK465.out 4).trans rfl; have u60_0 := Qc BK465.out 0; have u60_1 := Qc BK465.out 1; have u60_2 := Qc BK465.out 2; have u60_3 := Qc BK465.out 3; have u60_4 := Qc BK465.out 4; obtain ⟨Ao61, co61, eo61⟩ := Kd.N_slice HO464.out; subst eo61) | ((with_reducible refine Zf (f := 35) rfl ?_); refine goesL_ (some 56) rfl rfl Try.func35 (by kernel_rfl) rfl #[.slice A0 l0.length c0] rfl (by (try simp only [Qm, Qt, Zb]); first | done | rfl | (simp only [Qn, Qo]; rfl)) ?_; (with_reducible refine (spec_DrawArityOf.calls k1 _ _ l0 t466 _ ?side1 ?side2 A27.out).mono ?_); (case side1 => exact Xo HR0.out (Bb4 HB.out GE435.out GE456.out GE457.out GE465.out)); (case side2 => exact HC0.out); rintro e w62 ⟨rfl, hb⟩; refine ⟨_, rfl, ?_⟩; replace HO_436004 := Qa (Xr (by (with_reducible repeat (first | apply Kd.N_alloc | apply Kd.N_drewN | apply Kd.N_drew)); exact (Xd (Zo (p := ⟨gb465, 4, none⟩) (Zo (p := ⟨gb465, 3, none⟩) (Zo (p := ⟨gb465, 2, none⟩) (Zo (p := ⟨gb465, 1, none⟩) (Zo (p := ⟨gb465, 0, none⟩) (Xd HO_436004.out (fun k_ hk => (⟨hk, hk.2⟩ : _ ∧ k_ ≠ gb465))) (fun _ hk => hk.2) (.int .i64 t458)) (fun _ hk => hk.2) (.int .i64 t459)) (fun _ hk => hk.2) (.int .i64 t460)) (fun _ hk => hk.2) (.int .i64 t461)) (fun _ hk => hk.2) (.slice Ao61 t462.length co61)) (fun _ h_ => h_.1))) hb); replace HO448 := Qa (Xr (by (with_reducible repeat (first | apply Kd.N_alloc | apply Kd.N_drewN | apply Kd.N_drew)); exact (Xd (Zo (p := ⟨gb465, 4, none⟩) (Zo (p := ⟨gb465, 3, none⟩) (Zo (p := ⟨gb465, 2, none⟩) (Zo (p := ⟨gb465, 1, none⟩) (Zo (p := ⟨gb465, 0, none⟩) (Xd HO448.out (fun k_ hk => (⟨hk, hk.2⟩ : _ ∧ k_ ≠ gb465))) (fun _ hk => hk.2) (.int .i64 t458)) (fun _ hk => hk.2) (.int .i64 t459)) (fun _ hk => hk.2) (.int .i64 t460)) (fun _ hk => hk.2) (.int .i64 t461)) (fun _ hk => hk.2) (.slice Ao61 t462.length co61)) (fun _ h_ => h_.1))) hb); replace HO455 := Qa (Xr (by (with_reducible repeat (first | apply Kd.N_alloc | apply Kd.N_drewN | apply Kd.N_drew)); exact (Xd (Zo (p := ⟨gb465, 4, none⟩) (Zo (p := ⟨gb465, 3, none⟩) (Zo (p := ⟨gb465, 2, none⟩) (Zo (p := ⟨gb465, 1, none⟩) (Zo (p := ⟨gb465, 0, none⟩) (Xd HO455.out (fun k_ hk => (⟨hk, hk.2⟩ : _ ∧ k_ ≠ gb465))) (fun _ hk => hk.2) (.int .i64 t458)) (fun _ hk => hk.2) (.int .i64 t459)) (fun _ hk => hk.2) (.int .i64 t460)) (fun _ hk => hk.2) (.int .i64 t461)) (fun _ hk => hk.2) (.slice Ao61 t462.length co61)) (fun _ h_ => h_.1))) hb); replace HO464 := Qa (Xr (by (with_reducible repeat (first | apply Kd.N_alloc | apply Kd.N_drewN | apply Kd.N_drew)); exact (Xd (Zo (p := ⟨gb465, 4, none⟩) (Zo (p := ⟨gb465, 3, none⟩) (Zo (p := ⟨gb465, 2, none⟩) (Zo (p := ⟨gb465, 1, none⟩) (Zo (p := ⟨gb465, 0, none⟩) (Xd HO464.out (fun k_ hk => (⟨hk, hk.2⟩ : _ ∧ k_ ≠ gb465))) (fun _ hk => hk.2) (.int .i64 t458)) (fun _ hk => hk.2) (.int .i64 t459)) (fun _ hk => hk.2) (.int .i64 t460)) (fun _ hk => hk.2) (.int .i64 t461)) (fun _ hk => hk.2) (.slice Ao61 t462.length co61)) (fun _ h_ => h_.1))) hb); replace BK435 := Qa (Qy (g := gb435) (o := .cells #[.int .i64 t428, .int .i64 t429, .int .i64 t430, .int .i64 t431, .slice Ao8 t432.length co8] 32 (0, 0)) (by (iterate 5 ((with_reducible repeat (first | refine Qg ?_ _ | refine Qh ?_ | refine Qf ?_ _)); refine blk_far ?_ NB435_465.out _)); (with_reducible repeat (first | refine Qg ?_ _ | refine Qh ?_ | refine Qf ?_ _)); exact BK435.out) hb); replace BK456 := Qa (Qy (g := gb456) (o := .cells #[.int .i64 t442, .int .i64 t443, .int .i64 t444, .int .i64 t445, .slice Ao51 t446.length co51] 32 (0, 0)) (by (iterate 5 ((with_reducible repeat (first | refine Qg ?_ _ | refine Qh ?_ | refine Qf ?_ _)); refine blk_far ?_ NB456_465.out _)); (with_reducible repeat (first | refine Qg ?_ _ | refine Qh ?_ | refine Qf ?_ _)); exact BK456.out) hb); replace BK457 := Qa (Qy (g := gb457) (o := .cells #[.int .i64 t449, .int .i64 t450, .int .i64 t451, .int .i64 t452, .slice Ao54 t453.length co54] 32 (0, 0)) (by (iterate 5 ((with_reducible repeat (first | refine Qg ?_ _ | refine Qh ?_ | refine Qf ?_ _)); refine blk_far ?_ NB457_465.out _)); (with_reducible repeat (first | refine Qg ?_ _ | refine Qh ?_ | refine Qf ?_ _)); exact BK457.out) hb); replace BK465 := Qa (Qy (g := gb465) (o := .cells #[.int .i64 t458, .int .i64 t459, .int .i64 t460, .int .i64 t461, .slice Ao61 t462.length co61] 32 (0, 0)) (by (with_reducible repeat (first | refine Qg ?_ _ | refine Qh ?_ | refine Qf ?_ _)); refine Qr (cs := #[.int .i64 t458, .int .i64 t459, .int .i64 t460, .int .i64 t461, .slice none 0 0]) ?_ 4 _ rfl; (with_reducible repeat (first | refine Qg ?_ _ | refine Qh ?_ | refine Qf ?_ _)); refine Qr (cs := #[.int .i64 t458, .int .i64 t459, .int .i64 t460, .int .i64 0, .slice none 0 0]) ?_ 3 _ rfl; (with_reducible repeat (first | refine Qg ?_ _ | refine Qh ?_ | refine Qf ?_ _)); refine Qr (cs := #[.int .i64 t458, .int .i64 t459, .int .i64 0, .int .i64 0, .slice none 0 0]) ?_ 2 _ rfl; (with_reducible repeat (first | refine Qg ?_ _ | refine Qh ?_ | refine Qf ?_ _)); refine Qr (cs := #[.int .i64 t458, .int .i64 0, .int .i64 0, .int .i64 0, .slice none 0 0]) ?_ 1 _ rfl; (with_reducible repeat (first | refine Qg ?_ _ | refine Qh ?_ | refine Qf ?_ _)); refine Qr (cs := #[.int .i64 0, .int .i64 0, .int .i64 0, .int .i64 0, .slice none 0 0]) ?_ 0 _ rfl; (with_reducible repeat (first | refine Qg ?_ _ | refine Qh ?_ | refine Qf ?_ _)); exact BK465.out) hb); replace HB := Qa (Zc (Bb4 HB.out GE435.out GE456.out GE457.out GE465.out) hb); (try clear hb); (try clear hb2); (try clear hk); (try clear hi)))
          replace HO_436004 := Qa (Kd.N_drew HO_436004.out)
          replace HO448 := Qa (Kd.N_drew HO448.out)
          replace HO455 := Qa (Kd.N_drew HO455.out)
          replace HO464 := Qa (Kd.N_drew HO464.out)
          replace BK435 := Qa (Qh BK435.out)
          replace BK456 := Qa (Qh BK456.out)
          replace BK457 := Qa (Qh BK457.out)
          replace BK465 := Qa (Qh BK465.out)
          replace HB := Qa (below_drew1 HB.out)
          refine start_ (n := 44) (S := fun w' => w'.cell? ⟨gb435, 0, none⟩ = some (.int .i64 t428) ∧ w'.cell? ⟨gb435, 1, none⟩ = some (.int .i64 t429) ∧ w'.cell? ⟨gb435, 2, none⟩ = some (.int .i64 t430) ∧ w'.cell? ⟨gb435, 3, none⟩ = some (.int .i64 t431) ∧ w'.cell? ⟨gb435, 4, none⟩ = some (.slice Ao8 t432.length co8) ∧ w'.cell? ⟨gb456, 0, none⟩ = some (.int .i64 t442) ∧ w'.cell? ⟨gb456, 1, none⟩ = some (.int .i64 t443) ∧ w'.cell? ⟨gb456, 2, none⟩ = some (.int .i64 t444) ∧ w'.cell? ⟨gb456, 3, none⟩ = some (.int .i64 t445) ∧ w'.cell? ⟨gb456, 4, none⟩ = some (.slice Ao51 t446.length co51) ∧ w'.cell? ⟨gb457, 0, none⟩ = some (.int .i64 t449) ∧ w'.cell? ⟨gb457, 1, none⟩ = some (.int .i64 t450) ∧ w'.cell? ⟨gb457, 2, none⟩ = some (.int .i64 t451) ∧ w'.cell? ⟨gb457, 3, none⟩ = some (.int .i64 t452) ∧ w'.cell? ⟨gb457, 4, none⟩ = some (.slice Ao54 t453.length co54) ∧ w'.cell? ⟨gb465, 0, none⟩ = some (.int .i64 t458) ∧ w'.cell? ⟨gb465, 1, none⟩ = some (.int .i64 t459) ∧ w'.cell? ⟨gb465, 2, none⟩ = some (.int .i64 t460) ∧ w'.cell? ⟨gb465, 3, none⟩ = some (.int .i64 t461) ∧ w'.cell? ⟨gb465, 4, none⟩ = some (.slice Ao61 t462.length co61)) (ds := []) #[false, false, false, false, false, false, false, false, false, false, false, false, false, false, false, false, false, false, false, false, false, false, false, false, false, false, false, false, false, false, false, false, false, false, false, false, false, false, false, false, false, false, false, false] (by kernel_rfl) rfl rfl ⟨(Qb BK435.out 0).trans rfl, (Qb BK435.out 1).trans rfl, (Qb BK435.out 2).trans rfl, (Qb BK435.out 3).trans rfl, (Qb BK435.out 4).trans rfl, (Qb BK456.out 0).trans rfl, (Qb BK456.out 1).trans rfl, (Qb BK456.out 2).trans rfl, (Qb BK456.out 3).trans rfl, (Qb BK456.out 4).trans rfl, (Qb BK457.out 0).trans rfl, (Qb BK457.out 1).trans rfl, (Qb BK457.out 2).trans rfl, (Qb BK457.out 3).trans rfl, (Qb BK457.out 4).trans rfl, (Qb BK465.out 0).trans rfl, (Qb BK465.out 1).trans rfl, (Qb BK465.out 2).trans rfl, (Qb BK465.out 3).trans rfl, (Qb BK465.out 4).trans rfl⟩ (fun hHeld => ?_); refine with_tabW laws_FnFormulas.tab15 laws_FnFormulas.bits15 (fun HT_ HW_ => ?_)
          generalize w62.drew = w63 at HO_436004 HO448 HO455 HO464 BK435 BK456 BK457 BK465 HB hHeld ⊢
          refine pure_ (i := 2) (N := some 59) (v := ?_) (a' := ?_) #[false, false, true, false, false, false, false, false, false, false, false, false, false, false, false, false, false, false, false, false, false, false, false, false, false, false, false, false, false, false, false, false, false, false, false, false, false, false, false, false, false, false, false, false] rfl rfl (any_of HT_.out (by kernel_rfl)) (fun _ _ _ h => h) (Xt ⟨by rfl, ?_⟩) ?_ ?_
          rotate_left
          ·intro w'
           go_simp
           with_reducible rfl
          rotate_left
          ·simp only [Zg, Qe, Qj, Qk, Xk, Xn]
           rfl
          refine take_ (i := 0) (N := some 57) (v := ?_) (a' := ?_) #[true, false, true, false, false, false, false, false, false, false, false, false, false, false, false, false, false, false, false, false, false, false, false, false, false, false, false, false, false, false, false, false, false, false, false, false, false, false, false, false, false, false, false, false] rfl rfl (take_ofW HT_.out HW_.out (by kernel_rfl)) (fun _ _ _ h => h) (Xt ⟨by rfl, ?_⟩) hHeld ?_ ?_
          rotate_left
          ·rintro w' ⟨s0, s1, s2, s3, s4, s5, s6, s7, s8, s9, s10, s11, s12, s13, s14, s15, s16, s17, s18, s19⟩
           go_simp
           with_reducible rfl
          rotate_left
          ·simp only [Zg, Qe, Qj, Qk, Xk, Xn]
           rfl
          refine one_ (i := 1) (N := some 58) #[true, true, true, false, false, false, false, false, false, false, false, false, false, false, false, false, false, false, false, false, false, false, false, false, false, false, false, false, false, false, false, false, false, false, false, false, false, false, false, false, false, false, false, false] rfl rfl (one_of HT_.out (by kernel_rfl)) (by decide) (fun K hK => ?_)
          refine goes_ Try.func31 (by kernel_rfl) rfl #[.agg #[.int .i64 t428, .int .i64 t429, .int .i64 t430, .int .i64 t431, .slice Ao8 t432.length co8]] (by rfl) rfl rfl (by (try simp only [Qm, Qt, Zb]); first | done | rfl | (simp only [Qn, Qo]; rfl)) ?_
          with_reducible refine (impl_SizeOf.calls k1 t428 t429 t430 t431 _ _ t432 t467 _ ?side1 ?side2 A28.out).mono ?_
          (case side1 => repeat (first | exact (Kd.N_reads' HO_436004.out).2.2 | (with_reducible refine Zw ?_ _) | (with_reducible refine Zx ?_ _) | (with_reducible refine Xb ?_)))
          (case side2 => exact (Kd.N_reads' HO_436004.out).2.1)
          rintro e w64 ⟨rfl, hb⟩
          refine ⟨_, rfl, ?_⟩
          replace HO_436004 := Qa (Xr (Bn HO_436004.out) hb)
          replace HO448 := Qa (Xr (Bn HO448.out) hb)
          replace HO455 := Qa (Xr (Bn HO455.out) hb)
          replace HO464 := Qa (Xr (Bn HO464.out) hb)
          replace BK435 := Qa (Qy (g := gb435) (o := .cells #[.int .i64 t428, .int .i64 t429, .int .i64 t430, .int .i64 t431, .slice Ao8 t432.length co8] 32 (0, 0)) (Ba BK435.out) hb)
          replace BK456 := Qa (Qy (g := gb456) (o := .cells #[.int .i64 t442, .int .i64 t443, .int .i64 t444, .int .i64 t445, .slice Ao51 t446.length co51] 32 (0, 0)) (Ba BK456.out) hb)
          replace BK457 := Qa (Qy (g := gb457) (o := .cells #[.int .i64 t449, .int .i64 t450, .int .i64 t451, .int .i64 t452, .slice Ao54 t453.length co54] 32 (0, 0)) (Ba BK457.out) hb)
          replace BK465 := Qa (Qy (g := gb465) (o := .cells #[.int .i64 t458, .int .i64 t459, .int .i64 t460, .int .i64 t461, .slice Ao61 t462.length co61] 32 (0, 0)) (Ba BK465.out) hb)
          replace HB := Qa (Zc (Bb4 HB.out GE435.out GE456.out GE457.out GE465.out) hb)
          (try clear hb)
          (try clear hb2)
          (try clear hk)
          (try clear hi)
          refine hK.out _ _ ⟨(Qb BK435.out 0).trans rfl, (Qb BK435.out 1).trans rfl, (Qb BK435.out 2).trans rfl, (Qb BK435.out 3).trans rfl, (Qb BK435.out 4).trans rfl, (Qb BK456.out 0).trans rfl, (Qb BK456.out 1).trans rfl, (Qb BK456.out 2).trans rfl, (Qb BK456.out 3).trans rfl, (Qb BK456.out 4).trans rfl, (Qb BK457.out 0).trans rfl, (Qb BK457.out 1).trans rfl, (Qb BK457.out 2).trans rfl, (Qb BK457.out 3).trans rfl, (Qb BK457.out 4).trans rfl, (Qb BK465.out 0).trans rfl, (Qb BK465.out 1).trans rfl, (Qb BK465.out 2).trans rfl, (Qb BK465.out 3).trans rfl, (Qb BK465.out 4).trans rfl⟩ (fun hHeld => ?_)
          clear hK K
          refine norm_ (a' := ?_) ?_ ?_
          rotate_left
          ·show Zg _ (some 58) _ = _
           simp only [Zg, Qe, Qj, Qk, Xk, Xn]
           rfl
          refine pure_ (i := 3) (N := some 60) (v := ?_) (a' := ?_) #[true, true, true, true, false, false, false, false, false, false, false, false, false, false, false, false, false, false, false, false, false, false, false, false, false, false, false, false, false, false, false, false, false, false, false, false, false, false, false, false, false, false, false, false] rfl rfl (any_of HT_.out (by kernel_rfl)) (fun _ _ _ h => h) (Xt ⟨by rfl, ?_⟩) ?_ ?_
          rotate_left
          ·intro w'
           go_simp
           with_reducible rfl
          rotate_left
          ·simp only [Zg, Qe, Qj, Qk, Xk, Xn]
           rfl
          refine pure_ (i := 4) (N := some 61) (v := ?_) (a' := ?_) #[true, true, true, true, true, false, false, false, false, false, false, false, false, false, false, false, false, false, false, false, false, false, false, false, false, false, false, false, false, false, false, false, false, false, false, false, false, false, false, false, false, false, false, false] rfl rfl (any_of HT_.out (by kernel_rfl)) (fun _ _ _ h => h) (Xt ⟨by rfl, ?_⟩) ?_ ?_
          rotate_left
          ·intro w'
           go_simp
           with_reducible rfl
          rotate_left
          ·simp only [Zg, Qe, Qj, Qk, Xk, Xn]
           rfl
          refine pure_ (i := 7) (N := some 64) (v := ?_) (a' := ?_) #[true, true, true, true, true, false, false, true, false, false, false, false, false, false, false, false, false, false, false, false, false, false, false, false, false, false, false, false, false, false, false, false, false, false, false, false, false, false, false, false, false, false, false, false] rfl rfl (any_of HT_.out (by kernel_rfl)) (fun _ _ _ h => h) (Xt ⟨by rfl, ?_⟩) ?_ ?_
          rotate_left
          ·intro w'
           go_simp
           with_reducible rfl
          rotate_left
          ·simp only [Zg, Qe, Qj, Qk, Xk, Xn]
           rfl
          refine pure_ (i := 8) (N := some 65) (v := ?_) (a' := ?_) #[true, true, true, true, true, false, false, true, true, false, false, false, false, false, false, false, false, false, false, false, false, false, false, false, false, false, false, false, false, false, false, false, false, false, false, false, false, false, false, false, false, false, false, false] rfl rfl (any_of HT_.out (by kernel_rfl)) (fun _ _ _ h => h) (Xt ⟨by rfl, ?_⟩) ?_ ?_
          rotate_left
          ·intro w'
           go_simp
           with_reducible rfl
          rotate_left
          ·simp only [Zg, Qe, Qj, Qk, Xk, Xn]
           rfl
          refine take_ (i := 5) (N := some 62) (v := ?_) (a' := ?_) #[true, true, true, true, true, true, false, true, true, false, false, false, false, false, false, false, false, false, false, false, false, false, false, false, false, false, false, false, false, false, false, false, false, false, false, false, false, false, false, false, false, false, false, false] rfl rfl (take_ofW HT_.out HW_.out (by kernel_rfl)) (fun _ _ _ h => h) (Xt ⟨by rfl, ?_⟩) hHeld ?_ ?_
          rotate_left
          ·rintro w' ⟨s0, s1, s2, s3, s4, s5, s6, s7, s8, s9, s10, s11, s12, s13, s14, s15, s16, s17, s18, s19⟩
           go_simp
           with_reducible rfl
          rotate_left
          ·simp only [Zg, Qe, Qj, Qk, Xk, Xn]
           rfl
          refine one_ (i := 6) (N := some 63) #[true, true, true, true, true, true, true, true, true, false, false, false, false, false, false, false, false, false, false, false, false, false, false, false, false, false, false, false, false, false, false, false, false, false, false, false, false, false, false, false, false, false, false, false] rfl rfl (one_of HT_.out (by kernel_rfl)) (by decide) (fun K hK => ?_)
          refine goes_ Try.func32 (by kernel_rfl) rfl #[.agg #[.int .i64 t428, .int .i64 t429, .int .i64 t430, .int .i64 t431, .slice Ao8 t432.length co8]] (by rfl) rfl rfl (by (try simp only [Qm, Qt, Zb]); first | done | rfl | (simp only [Qn, Qo]; rfl)) ?_
          with_reducible refine (impl_DepthOf.calls k1 t428 t429 t430 t431 _ _ t432 t468 _ ?side1 ?side2 A30.out).mono ?_
          (case side1 => repeat (first | exact (Kd.N_reads' HO_436004.out).2.2 | (with_reducible refine Zw ?_ _) | (with_reducible refine Zx ?_ _) | (with_reducible refine Xb ?_)))
          (case side2 => exact (Kd.N_reads' HO_436004.out).2.1)
          rintro e w65 ⟨rfl, hb⟩
          refine ⟨_, rfl, ?_⟩
          replace HO_436004 := Qa (Xr (Bn HO_436004.out) hb)
          replace HO448 := Qa (Xr (Bn HO448.out) hb)
          replace HO455 := Qa (Xr (Bn HO455.out) hb)
          replace HO464 := Qa (Xr (Bn HO464.out) hb)
          replace BK435 := Qa (Qy (g := gb435) (o := .cells #[.int .i64 t428, .int .i64 t429, .int .i64 t430, .int .i64 t431, .slice Ao8 t432.length co8] 32 (0, 0)) (Ba BK435.out) hb)
          replace BK456 := Qa (Qy (g := gb456) (o := .cells #[.int .i64 t442, .int .i64 t443, .int .i64 t444, .int .i64 t445, .slice Ao51 t446.length co51] 32 (0, 0)) (Ba BK456.out) hb)
          replace BK457 := Qa (Qy (g := gb457) (o := .cells #[.int .i64 t449, .int .i64 t450, .int .i64 t451, .int .i64 t452, .slice Ao54 t453.length co54] 32 (0, 0)) (Ba BK457.out) hb)
          replace BK465 := Qa (Qy (g := gb465) (o := .cells #[.int .i64 t458, .int .i64 t459, .int .i64 t460, .int .i64 t461, .slice Ao61 t462.length co61] 32 (0, 0)) (Ba BK465.out) hb)
          replace HB := Qa (Zc (Bb4 HB.out GE435.out GE456.out GE457.out GE465.out) hb)
          (try clear hb)
          (try clear hb2)
          (try clear hk)
          (try clear hi)
          refine hK.out _ _ ⟨(Qb BK435.out 0).trans rfl, (Qb BK435.out 1).trans rfl, (Qb BK435.out 2).trans rfl, (Qb BK435.out 3).trans rfl, (Qb BK435.out 4).trans rfl, (Qb BK456.out 0).trans rfl, (Qb BK456.out 1).trans rfl, (Qb BK456.out 2).trans rfl, (Qb BK456.out 3).trans rfl, (Qb BK456.out 4).trans rfl, (Qb BK457.out 0).trans rfl, (Qb BK457.out 1).trans rfl, (Qb BK457.out 2).trans rfl, (Qb BK457.out 3).trans rfl, (Qb BK457.out 4).trans rfl, (Qb BK465.out 0).trans rfl, (Qb BK465.out 1).trans rfl, (Qb BK465.out 2).trans rfl, (Qb BK465.out 3).trans rfl, (Qb BK465.out 4).trans rfl⟩ (fun hHeld => ?_)
          clear hK K
          refine norm_ (a' := ?_) ?_ ?_
          rotate_left
          ·show Zg _ (some 63) _ = _
           simp only [Zg, Qe, Qj, Qk, Xk, Xn]
           rfl
          refine pure_ (i := 9) (N := some 66) (v := ?_) (a' := ?_) #[true, true, true, true, true, true, true, true, true, true, false, false, false, false, false, false, false, false, false, false, false, false, false, false, false, false, false, false, false, false, false, false, false, false, false, false, false, false, false, false, false, false, false, false] rfl rfl (any_of HT_.out (by kernel_rfl)) (fun _ _ _ h => h) (Xt ⟨by rfl, ?_⟩) ?_ ?_
          rotate_left
          ·intro w'
           go_simp
           with_reducible rfl
          rotate_left
          ·simp only [Zg, Qe, Qj, Qk, Xk, Xn]
           rfl
          refine pure_ (i := 10) (N := some 67) (v := ?_) (a' := ?_) #[true, true, true, true, true, true, true, true, true, true, true, false, false, false, false, false, false, false, false, false, false, false, false, false, false, false, false, false, false, false, false, false, false, false, false, false, false, false, false, false, false, false, false, false] rfl rfl (any_of HT_.out (by kernel_rfl)) (fun _ _ _ h => h) (Xt ⟨by rfl, ?_⟩) ?_ ?_
          rotate_left
          ·intro w'
           go_simp
           with_reducible rfl
          rotate_left
          ·simp only [Zg, Qe, Qj, Qk, Xk, Xn]
           rfl
          refine pure_ (i := 11) (N := some 68) (v := ?_) (a' := ?_) #[true, true, true, true, true, true, true, true, true, true, true, true, false, false, false, false, false, false, false, false, false, false, false, false, false, false, false, false, false, false, false, false, false, false, false, false, false, false, false, false, false, false, false, false] rfl rfl (any_of HT_.out (by kernel_rfl)) (fun _ _ _ h => h) (Xt ⟨by rfl, ?_⟩) ?_ ?_
          rotate_left
          ·intro w'
           go_simp
           with_reducible rfl
          rotate_left
          ·simp only [Zg, Qe, Qj, Qk, Xk, Xn]
           rfl
          refine pure_ (i := 12) (N := some 69) (v := ?_) (a' := ?_) #[true, true, true, true, true, true, true, true, true, true, true, true, true, false, false, false, false, false, false, false, false, false, false, false, false, false, false, false, false, false, false, false, false, false, false, false, false, false, false, false, false, false, false, false] rfl rfl (any_of HT_.out (by kernel_rfl)) (fun _ _ _ h => h) (Xt ⟨by rfl, ?_⟩) ?_ ?_
          rotate_left
          ·intro w'
           go_simp
           with_reducible rfl
          rotate_left
          ·simp only [Zg, Qe, Qj, Qk, Xk, Xn]
           rfl
          refine pure_ (i := 15) (N := some 72) (v := ?_) (a' := ?_) #[true, true, true, true, true, true, true, true, true, true, true, true, true, false, false, true, false, false, false, false, false, false, false, false, false, false, false, false, false, false, false, false, false, false, false, false, false, false, false, false, false, false, false, false] rfl rfl (any_of HT_.out (by kernel_rfl)) (fun _ _ _ h => h) (Xt ⟨by rfl, ?_⟩) ?_ ?_
          rotate_left
          ·intro w'
           go_simp
           with_reducible rfl
          rotate_left
          ·simp only [Zg, Qe, Qj, Qk, Xk, Xn]
           rfl
          refine take_ (i := 13) (N := some 70) (v := ?_) (a' := ?_) #[true, true, true, true, true, true, true, true, true, true, true, true, true, true, false, true, false, false, false, false, false, false, false, false, false, false, false, false, false, false, false, false, false, false, false, false, false, false, false, false, false, false, false, false] rfl rfl (take_ofW HT_.out HW_.out (by kernel_rfl)) (fun _ _ _ h => h) (Xt ⟨by rfl, ?_⟩) hHeld ?_ ?_
          rotate_left
          ·rintro w' ⟨s0, s1, s2, s3, s4, s5, s6, s7, s8, s9, s10, s11, s12, s13, s14, s15, s16, s17, s18, s19⟩
           go_simp
           with_reducible rfl
          rotate_left
          ·simp only [Zg, Qe, Qj, Qk, Xk, Xn]
           rfl
          refine take_ (i := 16) (N := some 73) (v := ?_) (a' := ?_) #[true, true, true, true, true, true, true, true, true, true, true, true, true, true, false, true, true, false, false, false, false, false, false, false, false, false, false, false, false, false, false, false, false, false, false, false, false, false, false, false, false, false, false, false] rfl rfl (take_ofW HT_.out HW_.out (by kernel_rfl)) (fun _ _ _ h => h) (Xt ⟨by rfl, ?_⟩) hHeld ?_ ?_
          rotate_left
          ·rintro w' ⟨s0, s1, s2, s3, s4, s5, s6, s7, s8, s9, s10, s11, s12, s13, s14, s15, s16, s17, s18, s19⟩
           go_simp
           with_reducible rfl
          rotate_left
          ·simp only [Zg, Qe, Qj, Qk, Xk, Xn]
           rfl
          refine one_ (i := 14) (N := some 71) #[true, true, true, true, true, true, true, true, true, true, true, true, true, true, true, true, true, false, false, false, false, false, false, false, false, false, false, false, false, false, false, false, false, false, false, false, false, false, false, false, false, false, false, false] rfl rfl (one_of HT_.out (by kernel_rfl)) (by decide) (fun K hK => ?_)
          refine goes_ Try.func36 (by kernel_rfl) rfl #[.int .i64 t427, .agg #[.int .i64 t428, .int .i64 t429, .int .i64 t430, .int .i64 t431, .slice Ao8 t432.length co8]] (by rfl) rfl rfl (by (try simp only [Qm, Qt, Zb]); first | done | rfl | (simp only [Qn, Qo]; rfl)) ?_
          with_reducible refine (impl_IsFormula.calls k1 t427 t428 t429 t430 t431 _ _ t432 t469 _ ?side1 ?side2 A32.out).mono ?_
          (case side1 => repeat (first | exact (Kd.N_reads' HO_436004.out).2.2 | (with_reducible refine Zw ?_ _) | (with_reducible refine Zx ?_ _) | (with_reducible refine Xb ?_)))
          (case side2 => exact (Kd.N_reads' HO_436004.out).2.1)
          rintro e w66 ⟨rfl, hb⟩
          refine ⟨_, rfl, ?_⟩
          replace HO_436004 := Qa (Xr (Bn HO_436004.out) hb)
          replace HO448 := Qa (Xr (Bn HO448.out) hb)
          replace HO455 := Qa (Xr (Bn HO455.out) hb)
          replace HO464 := Qa (Xr (Bn HO464.out) hb)
          replace BK435 := Qa (Qy (g := gb435) (o := .cells #[.int .i64 t428, .int .i64 t429, .int .i64 t430, .int .i64 t431, .slice Ao8 t432.length co8] 32 (0, 0)) (Ba BK435.out) hb)
          replace BK456 := Qa (Qy (g := gb456) (o := .cells #[.int .i64 t442, .int .i64 t443, .int .i64 t444, .int .i64 t445, .slice Ao51 t446.length co51] 32 (0, 0)) (Ba BK456.out) hb)
          replace BK457 := Qa (Qy (g := gb457) (o := .cells #[.int .i64 t449, .int .i64 t450, .int .i64 t451, .int .i64 t452, .slice Ao54 t453.length co54] 32 (0, 0)) (Ba BK457.out) hb)
          replace BK465 := Qa (Qy (g := gb465) (o := .cells #[.int .i64 t458, .int .i64 t459, .int .i64 t460, .int .i64 t461, .slice Ao61 t462.length co61] 32 (0, 0)) (Ba BK465.out) hb)
          replace HB := Qa (Zc (Bb4 HB.out GE435.out GE456.out GE457.out GE465.out) hb)
          (try clear hb)
          (try clear hb2)
          (try clear hk)
          (try clear hi)
          refine hK.out _ _ ⟨(Qb BK435.out 0).trans rfl, (Qb BK435.out 1).trans rfl, (Qb BK435.out 2).trans rfl, (Qb BK435.out 3).trans rfl, (Qb BK435.out 4).trans rfl, (Qb BK456.out 0).trans rfl, (Qb BK456.out 1).trans rfl, (Qb BK456.out 2).trans rfl, (Qb BK456.out 3).trans rfl, (Qb BK456.out 4).trans rfl, (Qb BK457.out 0).trans rfl, (Qb BK457.out 1).trans rfl, (Qb BK457.out 2).trans rfl, (Qb BK457.out 3).trans rfl, (Qb BK457.out 4).trans rfl, (Qb BK465.out 0).trans rfl, (Qb BK465.out 1).trans rfl, (Qb BK465.out 2).trans rfl, (Qb BK465.out 3).trans rfl, (Qb BK465.out 4).trans rfl⟩ (fun hHeld => ?_)
          clear hK K
          refine norm_ (a' := ?_) ?_ ?_
          rotate_left
          ·show Zg _ (some 71) _ = _
           simp only [Zg, Qe, Qj, Qk, Xk, Xn]
           rfl
          refine one_ (i := 17) (N := some 74) #[true, true, true, true, true, true, true, true, true, true, true, true, true, true, true, true, true, true, false, false, false, false, false, false, false, false, false, false, false, false, false, false, false, false, false, false, false, false, false, false, false, false, false, false] rfl rfl (one_of HT_.out (by kernel_rfl)) (by decide) (fun K hK => ?_)
          refine goes_ Try.func37 (by kernel_rfl) rfl #[.int .i64 t427, .agg #[.int .i64 t428, .int .i64 t429, .int .i64 t430, .int .i64 t431, .slice Ao8 t432.length co8]] (by rfl) rfl rfl (by (try simp only [Qm, Qt, Zb]); first | done | rfl | (simp only [Qn, Qo]; rfl)) ?_
          with_reducible refine (spec_IsFormula.calls k1 t427 t428 t429 t430 t431 _ _ t432 t470 _ ?side1 ?side2 A33.out).mono ?_
          (case side1 => repeat (first | exact (Kd.N_reads' HO_436004.out).2.2 | (with_reducible refine Zw ?_ _) | (with_reducible refine Zx ?_ _) | (with_reducible refine Xb ?_)))
          (case side2 => exact (Kd.N_reads' HO_436004.out).2.1)
          rintro e w67 ⟨rfl, hb⟩
          refine ⟨_, rfl, ?_⟩
          replace HO_436004 := Qa (Xr (Bn HO_436004.out) hb)
          replace HO448 := Qa (Xr (Bn HO448.out) hb)
          replace HO455 := Qa (Xr (Bn HO455.out) hb)
          replace HO464 := Qa (Xr (Bn HO464.out) hb)
          replace BK435 := Qa (Qy (g := gb435) (o := .cells #[.int .i64 t428, .int .i64 t429, .int .i64 t430, .int .i64 t431, .slice Ao8 t432.length co8] 32 (0, 0)) (Ba BK435.out) hb)
          replace BK456 := Qa (Qy (g := gb456) (o := .cells #[.int .i64 t442, .int .i64 t443, .int .i64 t444, .int .i64 t445, .slice Ao51 t446.length co51] 32 (0, 0)) (Ba BK456.out) hb)
          replace BK457 := Qa (Qy (g := gb457) (o := .cells #[.int .i64 t449, .int .i64 t450, .int .i64 t451, .int .i64 t452, .slice Ao54 t453.length co54] 32 (0, 0)) (Ba BK457.out) hb)
          replace BK465 := Qa (Qy (g := gb465) (o := .cells #[.int .i64 t458, .int .i64 t459, .int .i64 t460, .int .i64 t461, .slice Ao61 t462.length co61] 32 (0, 0)) (Ba BK465.out) hb)
          replace HB := Qa (Zc (Bb4 HB.out GE435.out GE456.out GE457.out GE465.out) hb)
          (try clear hb)
          (try clear hb2)
          (try clear hk)
          (try clear hi)
          refine hK.out _ _ ⟨(Qb BK435.out 0).trans rfl, (Qb BK435.out 1).trans rfl, (Qb BK435.out 2).trans rfl, (Qb BK435.out 3).trans rfl, (Qb BK435.out 4).trans rfl, (Qb BK456.out 0).trans rfl, (Qb BK456.out 1).trans rfl, (Qb BK456.out 2).trans rfl, (Qb BK456.out 3).trans rfl, (Qb BK456.out 4).trans rfl, (Qb BK457.out 0).trans rfl, (Qb BK457.out 1).trans rfl, (Qb BK457.out 2).trans rfl, (Qb BK457.out 3).trans rfl, (Qb BK457.out 4).trans rfl, (Qb BK465.out 0).trans rfl, (Qb BK465.out 1).trans rfl, (Qb BK465.out 2).trans rfl, (Qb BK465.out 3).trans rfl, (Qb BK465.out 4).trans rfl⟩ (fun hHeld => ?_)
          clear hK K
          refine norm_ (a' := ?_) ?_ ?_
          rotate_left
          ·show Zg _ (some 74) _ = _
           simp only [Zg, Qe, Qj, Qk, Xk, Xn]
           rfl
          refine pure_ (i := 18) (N := some 75) (v := ?_) (a' := ?_) #[true, true, true, true, true, true, true, true, true, true, true, true, true, true, true, true, true, true, true, false, false, false, false, false, false, false, false, false, false, false, false, false, false, false, false, false, false, false, false, false, false, false, false, false] rfl rfl (any_of HT_.out (by kernel_rfl)) (fun _ _ _ h => h) (Xt ⟨by rfl, ?_⟩) ?_ ?_
          rotate_left
          ·intro w'
           go_simp
           with_reducible rfl
          rotate_left
          ·simp only [Zg, Qe, Qj, Qk, Xk, Xn]
           rfl
          refine pure_ (i := 19) (N := some 76) (v := ?_) (a' := ?_) #[true, true, true, true, true, true, true, true, true, true, true, true, true, true, true, true, true, true, true, true, false, false, false, false, false, false, false, false, false, false, false, false, false, false, false, false, false, false, false, false, false, false, false, false] rfl rfl (any_of HT_.out (by kernel_rfl)) (fun _ _ _ h => h) (Xt ⟨by rfl, ?_⟩) ?_ ?_
          rotate_left
          ·intro w'
           go_simp
           with_reducible rfl
          rotate_left
          ·simp only [Zg, Qe, Qj, Qk, Xk, Xn]
           rfl
          refine pure_ (i := 20) (N := some 77) (v := ?_) (a' := ?_) #[true, true, true, true, true, true, true, true, true, true, true, true, true, true, true, true, true, true, true, true, true, false, false, false, false, false, false, false, false, false, false, false, false, false, false, false, false, false, false, false, false, false, false, false] rfl rfl (any_of HT_.out (by kernel_rfl)) (fun _ _ _ h => h) (Xt ⟨by rfl, ?_⟩) ?_ ?_
          rotate_left
          ·intro w'
           go_simp
           with_reducible rfl
          rotate_left
          ·simp only [Zg, Qe, Qj, Qk, Xk, Xn]
           rfl
          refine take_ (i := 21) (N := some 78) (v := ?_) (a' := ?_) #[true, true, true, true, true, true, true, true, true, true, true, true, true, true, true, true, true, true, true, true, true, true, false, false, false, false, false, false, false, false, false, false, false, false, false, false, false, false, false, false, false, false, false, false] rfl rfl (take_ofW HT_.out HW_.out (by kernel_rfl)) (fun _ _ _ h => h) (Xt ⟨by rfl, ?_⟩) hHeld ?_ ?_
          rotate_left
          ·rintro w' ⟨s0, s1, s2, s3, s4, s5, s6, s7, s8, s9, s10, s11, s12, s13, s14, s15, s16, s17, s18, s19⟩
           go_simp
           with_reducible rfl
          rotate_left
          ·simp only [Zg, Qe, Qj, Qk, Xk, Xn]
           rfl
          refine take_ (i := 22) (N := some 79) (v := ?_) (a' := ?_) #[true, true, true, true, true, true, true, true, true, true, true, true, true, true, true, true, true, true, true, true, true, true, true, false, false, false, false, false, false, false, false, false, false, false, false, false, false, false, false, false, false, false, false, false] rfl rfl (take_ofW HT_.out HW_.out (by kernel_rfl)) (fun _ _ _ h => h) (Xt ⟨by rfl, ?_⟩) hHeld ?_ ?_
          rotate_left
          ·rintro w' ⟨s0, s1, s2, s3, s4, s5, s6, s7, s8, s9, s10, s11, s12, s13, s14, s15, s16, s17, s18, s19⟩
           go_simp
           with_reducible rfl
          rotate_left
          ·simp only [Zg, Qe, Qj, Qk, Xk, Xn]
           rfl
          refine take_ (i := 24) (N := some 81) (v := ?_) (a' := ?_) #[true, true, true, true, true, true, true, true, true, true, true, true, true, true, true, true, true, true, true, true, true, true, true, false, true, false, false, false, false, false, false, false, false, false, false, false, false, false, false, false, false, false, false, false] rfl rfl (take_ofW HT_.out HW_.out (by kernel_rfl)) (fun _ _ _ h => h) (Xt ⟨by rfl, ?_⟩) hHeld ?_ ?_
          rotate_left
          ·rintro w' ⟨s0, s1, s2, s3, s4, s5, s6, s7, s8, s9, s10, s11, s12, s13, s14, s15, s16, s17, s18, s19⟩
           go_simp
           with_reducible rfl
          rotate_left
          ·simp only [Zg, Qe, Qj, Qk, Xk, Xn]
           rfl
          refine take_ (i := 25) (N := some 82) (v := ?_) (a' := ?_) #[true, true, true, true, true, true, true, true, true, true, true, true, true, true, true, true, true, true, true, true, true, true, true, false, true, true, false, false, false, false, false, false, false, false, false, false, false, false, false, false, false, false, false, false] rfl rfl (take_ofW HT_.out HW_.out (by kernel_rfl)) (fun _ _ _ h => h) (Xt ⟨by rfl, ?_⟩) hHeld ?_ ?_
          rotate_left
          ·rintro w' ⟨s0, s1, s2, s3, s4, s5, s6, s7, s8, s9, s10, s11, s12, s13, s14, s15, s16, s17, s18, s19⟩
           go_simp
           with_reducible rfl
          rotate_left
          ·simp only [Zg, Qe, Qj, Qk, Xk, Xn]
           rfl
          refine one_ (i := 23) (N := some 80) #[true, true, true, true, true, true, true, true, true, true, true, true, true, true, true, true, true, true, true, true, true, true, true, true, true, true, false, false, false, false, false, false, false, false, false, false, false, false, false, false, false, false, false, false] rfl rfl (one_of HT_.out (by kernel_rfl)) (by decide) (fun K hK => ?_)
          refine goes_ Try.func19 (by kernel_rfl) rfl #[.agg #[.int .i64 t442, .int .i64 t443, .int .i64 t444, .int .i64 t445, .slice Ao51 t446.length co51], .agg #[.int .i64 t449, .int .i64 t450, .int .i64 t451, .int .i64 t452, .slice Ao54 t453.length co54]] (by rfl) rfl rfl (by (try simp only [Qm, Qt, Zb]); first | done | rfl | (simp only [Qn, Qo]; rfl)) ?_
          with_reducible refine (impl_EqualFormula.calls k1 t442 t443 t444 t445 _ _ t446 t449 t450 t451 t452 _ _ t453 t471 _ ?side1 ?side2 ?side3 ?side4 A35.out).mono ?_
          (case side1 => repeat (first | exact (Kd.N_reads' HO448.out).2.2 | (with_reducible refine Zw ?_ _) | (with_reducible refine Zx ?_ _) | (with_reducible refine Xb ?_)))
          (case side2 => exact (Kd.N_reads' HO448.out).2.1)
          (case side3 => repeat (first | exact (Kd.N_reads' HO455.out).2.2 | (with_reducible refine Zw ?_ _) | (with_reducible refine Zx ?_ _) | (with_reducible refine Xb ?_)))
          (case side4 => exact (Kd.N_reads' HO455.out).2.1)
          rintro e w68 ⟨rfl, hb⟩
          refine ⟨_, rfl, ?_⟩
          replace HO_436004 := Qa (Xr (Bn HO_436004.out) hb)
          replace HO448 := Qa (Xr (Bn HO448.out) hb)
          replace HO455 := Qa (Xr (Bn HO455.out) hb)
          replace HO464 := Qa (Xr (Bn HO464.out) hb)
          replace BK435 := Qa (Qy (g := gb435) (o := .cells #[.int .i64 t428, .int .i64 t429, .int .i64 t430, .int .i64 t431, .slice Ao8 t432.length co8] 32 (0, 0)) (Ba BK435.out) hb)
          replace BK456 := Qa (Qy (g := gb456) (o := .cells #[.int .i64 t442, .int .i64 t443, .int .i64 t444, .int .i64 t445, .slice Ao51 t446.length co51] 32 (0, 0)) (Ba BK456.out) hb)
          replace BK457 := Qa (Qy (g := gb457) (o := .cells #[.int .i64 t449, .int .i64 t450, .int .i64 t451, .int .i64 t452, .slice Ao54 t453.length co54] 32 (0, 0)) (Ba BK457.out) hb)
          replace BK465 := Qa (Qy (g := gb465) (o := .cells #[.int .i64 t458, .int .i64 t459, .int .i64 t460, .int .i64 t461, .slice Ao61 t462.length co61] 32 (0, 0)) (Ba BK465.out) hb)
          replace HB := Qa (Zc (Bb4 HB.out GE435.out GE456.out GE457.out GE465.out) hb)
          (try clear hb)
          (try clear hb2)
          (try clear hk)
          (try clear hi)
          refine hK.out _ _ ⟨(Qb BK435.out 0).trans rfl, (Qb BK435.out 1).trans rfl, (Qb BK435.out 2).trans rfl, (Qb BK435.out 3).trans rfl, (Qb BK435.out 4).trans rfl, (Qb BK456.out 0).trans rfl, (Qb BK456.out 1).trans rfl, (Qb BK456.out 2).trans rfl, (Qb BK456.out 3).trans rfl, (Qb BK456.out 4).trans rfl, (Qb BK457.out 0).trans rfl, (Qb BK457.out 1).trans rfl, (Qb BK457.out 2).trans rfl, (Qb BK457.out 3).trans rfl, (Qb BK457.out 4).trans rfl, (Qb BK465.out 0).trans rfl, (Qb BK465.out 1).trans rfl, (Qb BK465.out 2).trans rfl, (Qb BK465.out 3).trans rfl, (Qb BK465.out 4).trans rfl⟩ (fun hHeld => ?_)
          clear hK K
          refine norm_ (a' := ?_) ?_ ?_
          rotate_left
          ·show Zg _ (some 80) _ = _
           simp only [Zg, Qe, Qj, Qk, Xk, Xn]
           rfl
          refine one_ (i := 26) (N := some 83) #[true, true, true, true, true, true, true, true, true, true, true, true, true, true, true, true, true, true, true, true, true, true, true, true, true, true, true, false, false, false, false, false, false, false, false, false, false, false, false, false, false, false, false, false] rfl rfl (one_of HT_.out (by kernel_rfl)) (by decide) (fun K hK => ?_)
          refine goes_ Try.func38 (by kernel_rfl) rfl #[.agg #[.int .i64 t442, .int .i64 t443, .int .i64 t444, .int .i64 t445, .slice Ao51 t446.length co51], .agg #[.int .i64 t449, .int .i64 t450, .int .i64 t451, .int .i64 t452, .slice Ao54 t453.length co54]] (by rfl) rfl rfl (by (try simp only [Qm, Qt, Zb]); first | done | rfl | (simp only [Qn, Qo]; rfl)) ?_
          with_reducible refine (spec_EqualFormula.calls k1 t442 t443 t444 t445 _ _ t446 t449 t450 t451 t452 _ _ t453 t472 _ ?side1 ?side2 ?side3 ?side4 A36.out).mono ?_
          (case side1 => repeat (first | exact (Kd.N_reads' HO448.out).2.2 | (with_reducible refine Zw ?_ _) | (with_reducible refine Zx ?_ _) | (with_reducible refine Xb ?_)))
          (case side2 => exact (Kd.N_reads' HO448.out).2.1)
          (case side3 => repeat (first | exact (Kd.N_reads' HO455.out).2.2 | (with_reducible refine Zw ?_ _) | (with_reducible refine Zx ?_ _) | (with_reducible refine Xb ?_)))
          (case side4 => exact (Kd.N_reads' HO455.out).2.1)
          rintro e w69 ⟨rfl, hb⟩
          refine ⟨_, rfl, ?_⟩
          replace HO_436004 := Qa (Xr (Bn HO_436004.out) hb)
          replace HO448 := Qa (Xr (Bn HO448.out) hb)
          replace HO455 := Qa (Xr (Bn HO455.out) hb)
          replace HO464 := Qa (Xr (Bn HO464.out) hb)
          replace BK435 := Qa (Qy (g := gb435) (o := .cells #[.int .i64 t428, .int .i64 t429, .int .i64 t430, .int .i64 t431, .slice Ao8 t432.length co8] 32 (0, 0)) (Ba BK435.out) hb)
          replace BK456 := Qa (Qy (g := gb456) (o := .cells #[.int .i64 t442, .int .i64 t443, .int .i64 t444, .int .i64 t445, .slice Ao51 t446.length co51] 32 (0, 0)) (Ba BK456.out) hb)
          replace BK457 := Qa (Qy (g := gb457) (o := .cells #[.int .i64 t449, .int .i64 t450, .int .i64 t451, .int .i64 t452, .slice Ao54 t453.length co54] 32 (0, 0)) (Ba BK457.out) hb)
          replace BK465 := Qa (Qy (g := gb465) (o := .cells #[.int .i64 t458, .int .i64 t459, .int .i64 t460, .int .i64 t461, .slice Ao61 t462.length co61] 32 (0, 0)) (Ba BK465.out) hb)
          replace HB := Qa (Zc (Bb4 HB.out GE435.out GE456.out GE457.out GE465.out) hb)
          (try clear hb)
          (try clear hb2)
          (try clear hk)
          (try clear hi)
          refine hK.out _ _ ⟨(Qb BK435.out 0).trans rfl, (Qb BK435.out 1).trans rfl, (Qb BK435.out 2).trans rfl, (Qb BK435.out 3).trans rfl, (Qb BK435.out 4).trans rfl, (Qb BK456.out 0).trans rfl, (Qb BK456.out 1).trans rfl, (Qb BK456.out 2).trans rfl, (Qb BK456.out 3).trans rfl, (Qb BK456.out 4).trans rfl, (Qb BK457.out 0).trans rfl, (Qb BK457.out 1).trans rfl, (Qb BK457.out 2).trans rfl, (Qb BK457.out 3).trans rfl, (Qb BK457.out 4).trans rfl, (Qb BK465.out 0).trans rfl, (Qb BK465.out 1).trans rfl, (Qb BK465.out 2).trans rfl, (Qb BK465.out 3).trans rfl, (Qb BK465.out 4).trans rfl⟩ (fun hHeld => ?_)
          clear hK K
          refine norm_ (a' := ?_) ?_ ?_
          rotate_left
          ·show Zg _ (some 83) _ = _
           simp only [Zg, Qe, Qj, Qk, Xk, Xn]
           rfl
          refine pure_ (i := 27) (N := some 84) (v := ?_) (a' := ?_) #[true, true, true, true, true, true, true, true, true, true, true, true, true, true, true, true, true, true, true, true, true, true, true, true, true, true, true, true, false, false, false, false, false, false, false, false, false, false, false, false, false, false, false, false] rfl rfl (any_of HT_.out (by kernel_rfl)) (fun _ _ _ h => h) (Xt ⟨by rfl, ?_⟩) ?_ ?_
          rotate_left
          ·intro w'
           go_simp
           with_reducible rfl
          rotate_left
          ·simp only [Zg, Qe, Qj, Qk, Xk, Xn]
           rfl
          refine pure_ (i := 28) (N := some 85) (v := ?_) (a' := ?_) #[true, true, true, true, true, true, true, true, true, true, true, true, true, true, true, true, true, true, true, true, true, true, true, true, true, true, true, true, true, false, false, false, false, false, false, false, false, false, false, false, false, false, false, false] rfl rfl (any_of HT_.out (by kernel_rfl)) (fun _ _ _ h => h) (Xt ⟨by rfl, ?_⟩) ?_ ?_
          rotate_left
          ·intro w'
           go_simp
           with_reducible rfl
          rotate_left
          ·simp only [Zg, Qe, Qj, Qk, Xk, Xn]
           rfl
          refine pure_ (i := 29) (N := some 86) (v := ?_) (a' := ?_) #[true, true, true, true, true, true, true, true, true, true, true, true, true, true, true, true, true, true, true, true, true, true, true, true, true, true, true, true, true, true, false, false, false, false, false, false, false, false, false, false, false, false, false, false] rfl rfl (any_of HT_.out (by kernel_rfl)) (fun _ _ _ h => h) (Xt ⟨by rfl, ?_⟩) ?_ ?_
          rotate_left
          ·intro w'
           go_simp
           with_reducible rfl
          rotate_left
          ·simp only [Zg, Qe, Qj, Qk, Xk, Xn]
           rfl
          refine take_ (i := 30) (N := some 87) (v := ?_) (a' := ?_) #[true, true, true, true, true, true, true, true, true, true, true, true, true, true, true, true, true, true, true, true, true, true, true, true, true, true, true, true, true, true, true, false, false, false, false, false, false, false, false, false, false, false, false, false] rfl rfl (take_ofW HT_.out HW_.out (by kernel_rfl)) (fun _ _ _ h => h) (Xt ⟨by rfl, ?_⟩) hHeld ?_ ?_
          rotate_left
          ·rintro w' ⟨s0, s1, s2, s3, s4, s5, s6, s7, s8, s9, s10, s11, s12, s13, s14, s15, s16, s17, s18, s19⟩
           go_simp
           with_reducible rfl
          rotate_left
          ·simp only [Zg, Qe, Qj, Qk, Xk, Xn]
           rfl
          refine take_ (i := 32) (N := some 89) (v := ?_) (a' := ?_) #[true, true, true, true, true, true, true, true, true, true, true, true, true, true, true, true, true, true, true, true, true, true, true, true, true, true, true, true, true, true, true, false, true, false, false, false, false, false, false, false, false, false, false, false] rfl rfl (take_ofW HT_.out HW_.out (by kernel_rfl)) (fun _ _ _ h => h) (Xt ⟨by rfl, ?_⟩) hHeld ?_ ?_
          rotate_left
          ·rintro w' ⟨s0, s1, s2, s3, s4, s5, s6, s7, s8, s9, s10, s11, s12, s13, s14, s15, s16, s17, s18, s19⟩
           go_simp
           with_reducible rfl
          rotate_left
          ·simp only [Zg, Qe, Qj, Qk, Xk, Xn]
           rfl
          refine one_ (i := 31) (N := some 88) #[true, true, true, true, true, true, true, true, true, true, true, true, true, true, true, true, true, true, true, true, true, true, true, true, true, true, true, true, true, true, true, true, true, false, false, false, false, false, false, false, false, false, false, false] rfl rfl (one_of HT_.out (by kernel_rfl)) (by decide) (fun K hK => ?_)
          refine goes_ Try.func26 (by kernel_rfl) rfl #[.agg #[.int .i64 t458, .int .i64 t459, .int .i64 t460, .int .i64 t461, .slice Ao61 t462.length co61]] (by rfl) rfl rfl (by (try simp only [Qm, Qt, Zb]); first | done | rfl | (simp only [Qn, Qo]; rfl)) ?_
          with_reducible refine (impl_FreeLogic.calls k1 t458 t459 t460 t461 _ _ t462 t473 _ ?side1 ?side2 A38.out).mono ?_
          (case side1 => repeat (first | exact (Kd.N_reads' HO464.out).2.2 | (with_reducible refine Zw ?_ _) | (with_reducible refine Zx ?_ _) | (with_reducible refine Xb ?_)))
          (case side2 => exact (Kd.N_reads' HO464.out).2.1)
          rintro e w70 ⟨v474, rfl, ho0, hb⟩
          refine ⟨_, rfl, ?_⟩
          replace HO_436004 := Qa (Kd.N_elder' (Bn HO_436004.out) (Kd.R_base ho0) hb)
          replace HO448 := Qa (Kd.N_elder' (Bn HO448.out) (Kd.R_base ho0) hb)
          replace HO455 := Qa (Kd.N_elder' (Bn HO455.out) (Kd.R_base ho0) hb)
          replace HO464 := Qa (Kd.N_elder' (Bn HO464.out) (Kd.R_base ho0) hb)
          have HO475 := Qa (Kd.R_lower ho0 (Qv (Bb4 HB.out GE435.out GE456.out GE457.out GE465.out)))
          replace BK435 := Qa (Qy (g := gb435) (o := .cells #[.int .i64 t428, .int .i64 t429, .int .i64 t430, .int .i64 t431, .slice Ao8 t432.length co8] 32 (0, 0)) (Ba BK435.out) hb)
          replace BK456 := Qa (Qy (g := gb456) (o := .cells #[.int .i64 t442, .int .i64 t443, .int .i64 t444, .int .i64 t445, .slice Ao51 t446.length co51] 32 (0, 0)) (Ba BK456.out) hb)
          replace BK457 := Qa (Qy (g := gb457) (o := .cells #[.int .i64 t449, .int .i64 t450, .int .i64 t451, .int .i64 t452, .slice Ao54 t453.length co54] 32 (0, 0)) (Ba BK457.out) hb)
          replace BK465 := Qa (Qy (g := gb465) (o := .cells #[.int .i64 t458, .int .i64 t459, .int .i64 t460, .int .i64 t461, .slice Ao61 t462.length co61] 32 (0, 0)) (Ba BK465.out) hb)
          replace HB := Qa (Zc (Bb4 HB.out GE435.out GE456.out GE457.out GE465.out) hb)
          (try clear hb)
          (try clear hb2)
          (try clear hk)
          (try clear hi)
          (try clear ho0)
          refine hK.out _ _ ⟨(Qb BK435.out 0).trans rfl, (Qb BK435.out 1).trans rfl, (Qb BK435.out 2).trans rfl, (Qb BK435.out 3).trans rfl, (Qb BK435.out 4).trans rfl, (Qb BK456.out 0).trans rfl, (Qb BK456.out 1).trans rfl, (Qb BK456.out 2).trans rfl, (Qb BK456.out 3).trans rfl, (Qb BK456.out 4).trans rfl, (Qb BK457.out 0).trans rfl, (Qb BK457.out 1).trans rfl, (Qb BK457.out 2).trans rfl, (Qb BK457.out 3).trans rfl, (Qb BK457.out 4).trans rfl, (Qb BK465.out 0).trans rfl, (Qb BK465.out 1).trans rfl, (Qb BK465.out 2).trans rfl, (Qb BK465.out 3).trans rfl, (Qb BK465.out 4).trans rfl⟩ (fun hHeld => ?_)
          clear hK K
          refine norm_ (a' := ?_) ?_ ?_
          rotate_left
          ·show Zg _ (some 88) _ = _
           simp only [Zg, Qe, Qj, Qk, Xk, Xn]
           rfl
          refine one_ (i := 33) (N := some 90) #[true, true, true, true, true, true, true, true, true, true, true, true, true, true, true, true, true, true, true, true, true, true, true, true, true, true, true, true, true, true, true, true, true, true, false, false, false, false, false, false, false, false, false, false] rfl rfl (one_of HT_.out (by kernel_rfl)) (by decide) (fun K hK => ?_)
          refine goes_ Try.func25 (by kernel_rfl) rfl #[.agg #[.int .i64 t458, .int .i64 t459, .int .i64 t460, .int .i64 t461, .slice Ao61 t462.length co61]] (by rfl) rfl rfl (by (try simp only [Qm, Qt, Zb]); first | done | rfl | (simp only [Qn, Qo]; rfl)) ?_
          with_reducible refine (spec_FreeLogic.calls k1 t458 t459 t460 t461 _ _ t462 t476 _ ?side1 ?side2 A39.out).mono ?_
          (case side1 => repeat (first | exact (Kd.N_reads' HO464.out).2.2 | (with_reducible refine Zw ?_ _) | (with_reducible refine Zx ?_ _) | (with_reducible refine Xb ?_)))
          (case side2 => exact (Kd.N_reads' HO464.out).2.1)
          rintro e w71 ⟨v477, rfl, ho0, hb⟩
          refine ⟨_, rfl, ?_⟩
          replace HO_436004 := Qa (Kd.N_elder' (Bn HO_436004.out) (Kd.R_base ho0) hb)
          replace HO448 := Qa (Kd.N_elder' (Bn HO448.out) (Kd.R_base ho0) hb)
          replace HO455 := Qa (Kd.N_elder' (Bn HO455.out) (Kd.R_base ho0) hb)
          replace HO464 := Qa (Kd.N_elder' (Bn HO464.out) (Kd.R_base ho0) hb)
          have HO478 := Qa (Kd.R_lower (Kd.R_new' ho0 (Kd.R_lt (Br HO475.out))) (Qv (Bb4 HB.out GE435.out GE456.out GE457.out GE465.out)))
          replace HO475 := Qa (Kd.R_elder' (Br HO475.out) (Kd.R_base ho0) hb)
          replace BK435 := Qa (Qy (g := gb435) (o := .cells #[.int .i64 t428, .int .i64 t429, .int .i64 t430, .int .i64 t431, .slice Ao8 t432.length co8] 32 (0, 0)) (Ba BK435.out) hb)
          replace BK456 := Qa (Qy (g := gb456) (o := .cells #[.int .i64 t442, .int .i64 t443, .int .i64 t444, .int .i64 t445, .slice Ao51 t446.length co51] 32 (0, 0)) (Ba BK456.out) hb)
          replace BK457 := Qa (Qy (g := gb457) (o := .cells #[.int .i64 t449, .int .i64 t450, .int .i64 t451, .int .i64 t452, .slice Ao54 t453.length co54] 32 (0, 0)) (Ba BK457.out) hb)
          replace BK465 := Qa (Qy (g := gb465) (o := .cells #[.int .i64 t458, .int .i64 t459, .int .i64 t460, .int .i64 t461, .slice Ao61 t462.length co61] 32 (0, 0)) (Ba BK465.out) hb)
          replace HB := Qa (Zc (Bb4 HB.out GE435.out GE456.out GE457.out GE465.out) hb)
          (try clear hb)
          (try clear hb2)
          (try clear hk)
          (try clear hi)
          (try clear ho0)
          obtain ⟨Ao72, co72, eo72⟩ := Kd.R_slice HO475.out
          (first | subst eo72 | (injection eo72 with f1_ f2_ f3_; have f4_ := f1_.symm; have f5_ := f3_.symm; clear f1_ f2_ f3_; subst f4_; subst f5_))
          obtain ⟨Ao73, co73, eo73⟩ := Kd.R_slice HO478.out
          (first | subst eo73 | (injection eo73 with f1_ f2_ f3_; have f4_ := f1_.symm; have f5_ := f3_.symm; clear f1_ f2_ f3_; subst f4_; subst f5_))
          refine hK.out _ _ ⟨(Qb BK435.out 0).trans rfl, (Qb BK435.out 1).trans rfl, (Qb BK435.out 2).trans rfl, (Qb BK435.out 3).trans rfl, (Qb BK435.out 4).trans rfl, (Qb BK456.out 0).trans rfl, (Qb BK456.out 1).trans rfl, (Qb BK456.out 2).trans rfl, (Qb BK456.out 3).trans rfl, (Qb BK456.out 4).trans rfl, (Qb BK457.out 0).trans rfl, (Qb BK457.out 1).trans rfl, (Qb BK457.out 2).trans rfl, (Qb BK457.out 3).trans rfl, (Qb BK457.out 4).trans rfl, (Qb BK465.out 0).trans rfl, (Qb BK465.out 1).trans rfl, (Qb BK465.out 2).trans rfl, (Qb BK465.out 3).trans rfl, (Qb BK465.out 4).trans rfl⟩ (fun hHeld => ?_)
          clear hK K
          refine norm_ (a' := ?_) ?_ ?_
          rotate_left
          ·show Zg _ (some 90) _ = _
           simp only [Zg, Qe, Qj, Qk, Xk, Xn]
           rfl
          refine one_ (i := 34) (N := some 91) #[true, true, true, true, true, true, true, true, true, true, true, true, true, true, true, true, true, true, true, true, true, true, true, true, true, true, true, true, true, true, true, true, true, true, true, false, false, false, false, false, false, false, false, false] rfl rfl (one_of HT_.out (by kernel_rfl)) (by decide) (fun K hK => ?_)
          refine goes_ Try.func39 (by kernel_rfl) rfl #[.slice Ao72 t473.length co72, .slice Ao73 t476.length co73] (by rfl) rfl rfl (by (try simp only [Qm, Qt, Zb]); first | done | rfl | (simp only [Qn, Qo]; rfl)) ?_
          with_reducible refine (laws_sameInts.calls k1 _ _ t473 _ _ t476 true _ ?side1 ?side2 ?side3 ?side4 A40.out).mono ?_
          (case side1 => repeat (first | exact (Kd.R_reads' HO475.out).2.2 | (with_reducible refine Zw ?_ _) | (with_reducible refine Zx ?_ _) | (with_reducible refine Xb ?_)))
          (case side2 => exact (Kd.R_reads' HO475.out).2.1)
          (case side3 => repeat (first | exact (Kd.R_reads' HO478.out).2.2 | (with_reducible refine Zw ?_ _) | (with_reducible refine Zx ?_ _) | (with_reducible refine Xb ?_)))
          (case side4 => exact (Kd.R_reads' HO478.out).2.1)
          rintro e w' ⟨rfl, ⟨nd, rfl⟩⟩
          refine ⟨_, rfl, ?_⟩
          refine hK.out _ _ ⟨(Qb BK435.out 0).trans rfl, (Qb BK435.out 1).trans rfl, (Qb BK435.out 2).trans rfl, (Qb BK435.out 3).trans rfl, (Qb BK435.out 4).trans rfl, (Qb BK456.out 0).trans rfl, (Qb BK456.out 1).trans rfl, (Qb BK456.out 2).trans rfl, (Qb BK456.out 3).trans rfl, (Qb BK456.out 4).trans rfl, (Qb BK457.out 0).trans rfl, (Qb BK457.out 1).trans rfl, (Qb BK457.out 2).trans rfl, (Qb BK457.out 3).trans rfl, (Qb BK457.out 4).trans rfl, (Qb BK465.out 0).trans rfl, (Qb BK465.out 1).trans rfl, (Qb BK465.out 2).trans rfl, (Qb BK465.out 3).trans rfl, (Qb BK465.out 4).trans rfl⟩ (fun hHeld => ?_)
          clear hK K
          refine norm_ (a' := ?_) ?_ ?_
          rotate_left
          ·show Zg _ (some 91) _ = _
           simp only [Zg, Qe, Qj, Qk, Xk, Xn]
           rfl
          refine pure_ (i := 35) (N := some 92) (v := ?_) (a' := ?_) #[true, true, true, true, true, true, true, true, true, true, true, true, true, true, true, true, true, true, true, true, true, true, true, true, true, true, true, true, true, true, true, true, true, true, true, true, false, false, false, false, false, false, false, false] rfl rfl (any_of HT_.out (by kernel_rfl)) (fun _ _ _ h => h) (Xt ⟨by rfl, ?_⟩) ?_ ?_
          rotate_left
          ·intro w'
           go_simp
           with_reducible rfl
          rotate_left
          ·simp only [Zg, Qe, Qj, Qk, Xk, Xn]
           rfl
          refine pure_ (i := 36) (N := some 93) (v := ?_) (a' := ?_) #[true, true, true, true, true, true, true, true, true, true, true, true, true, true, true, true, true, true, true, true, true, true, true, true, true, true, true, true, true, true, true, true, true, true, true, true, true, false, false, false, false, false, false, false] rfl rfl (any_of HT_.out (by kernel_rfl)) (fun _ _ _ h => h) (Xt ⟨by rfl, ?_⟩) ?_ ?_
          rotate_left
          ·intro w'
           go_simp
           with_reducible rfl
          rotate_left
          ·simp only [Zg, Qe, Qj, Qk, Xk, Xn]
           rfl
          refine pure_ (i := 37) (N := some 94) (v := ?_) (a' := ?_) #[true, true, true, true, true, true, true, true, true, true, true, true, true, true, true, true, true, true, true, true, true, true, true, true, true, true, true, true, true, true, true, true, true, true, true, true, true, true, false, false, false, false, false, false] rfl rfl (any_of HT_.out (by kernel_rfl)) (fun _ _ _ h => h) (Xt ⟨by rfl, ?_⟩) ?_ ?_
          rotate_left
          ·intro w'
           go_simp
           with_reducible rfl
          rotate_left
          ·simp only [Zg, Qe, Qj, Qk, Xk, Xn]
           rfl
          refine pure_ (i := 39) (N := some 96) (v := ?_) (a' := ?_) #[true, true, true, true, true, true, true, true, true, true, true, true, true, true, true, true, true, true, true, true, true, true, true, true, true, true, true, true, true, true, true, true, true, true, true, true, true, true, false, true, false, false, false, false] rfl rfl (any_of HT_.out (by kernel_rfl)) (fun _ _ _ h => h) (Xt ⟨by rfl, ?_⟩) ?_ ?_
          rotate_left
          ·intro w'
           go_simp
           with_reducible rfl
          rotate_left
          ·simp only [Zg, Qe, Qj, Qk, Xk, Xn]
           rfl
          refine one_ (i := 38) (N := some 95) #[true, true, true, true, true, true, true, true, true, true, true, true, true, true, true, true, true, true, true, true, true, true, true, true, true, true, true, true, true, true, true, true, true, true, true, true, true, true, true, true, false, false, false, false] rfl rfl (one_of HT_.out (by kernel_rfl)) (by decide) (fun K hK => ?_)
          refine goes_ Try.func40 (by kernel_rfl) rfl #[.int .i64 t466] (by rfl) rfl rfl (by (try simp only [Qm, Qt, Zb]); first | done | rfl | (simp only [Qn, Qo]; rfl)) ?_
          with_reducible refine (impl_ArityOf.calls k1 t466 t480 _ A42.out).mono ?_
          rintro e w' ⟨rfl, ⟨nd, rfl⟩⟩
          refine ⟨_, rfl, ?_⟩
          refine hK.out _ _ ⟨(Qb BK435.out 0).trans rfl, (Qb BK435.out 1).trans rfl, (Qb BK435.out 2).trans rfl, (Qb BK435.out 3).trans rfl, (Qb BK435.out 4).trans rfl, (Qb BK456.out 0).trans rfl, (Qb BK456.out 1).trans rfl, (Qb BK456.out 2).trans rfl, (Qb BK456.out 3).trans rfl, (Qb BK456.out 4).trans rfl, (Qb BK457.out 0).trans rfl, (Qb BK457.out 1).trans rfl, (Qb BK457.out 2).trans rfl, (Qb BK457.out 3).trans rfl, (Qb BK457.out 4).trans rfl, (Qb BK465.out 0).trans rfl, (Qb BK465.out 1).trans rfl, (Qb BK465.out 2).trans rfl, (Qb BK465.out 3).trans rfl, (Qb BK465.out 4).trans rfl⟩ (fun hHeld => ?_)
          clear hK K
          refine norm_ (a' := ?_) ?_ ?_
          rotate_left
          ·show Zg _ (some 95) _ = _
           simp only [Zg, Qe, Qj, Qk, Xk, Xn]
           rfl
          refine one_ (i := 40) (N := some 97) #[true, true, true, true, true, true, true, true, true, true, true, true, true, true, true, true, true, true, true, true, true, true, true, true, true, true, true, true, true, true, true, true, true, true, true, true, true, true, true, true, true, false, false, false] rfl rfl (one_of HT_.out (by kernel_rfl)) (by decide) (fun K hK => ?_)
          refine goes_ Try.func41 (by kernel_rfl) rfl #[.int .i64 t466] (by rfl) rfl rfl (by (try simp only [Qm, Qt, Zb]); first | done | rfl | (simp only [Qn, Qo]; rfl)) ?_
          with_reducible refine (spec_ArityOf.calls k1 t466 t481 _ A43.out).mono ?_
          rintro e w' ⟨rfl, ⟨nd, rfl⟩⟩
          refine ⟨_, rfl, ?_⟩
          refine hK.out _ _ ⟨(Qb BK435.out 0).trans rfl, (Qb BK435.out 1).trans rfl, (Qb BK435.out 2).trans rfl, (Qb BK435.out 3).trans rfl, (Qb BK435.out 4).trans rfl, (Qb BK456.out 0).trans rfl, (Qb BK456.out 1).trans rfl, (Qb BK456.out 2).trans rfl, (Qb BK456.out 3).trans rfl, (Qb BK456.out 4).trans rfl, (Qb BK457.out 0).trans rfl, (Qb BK457.out 1).trans rfl, (Qb BK457.out 2).trans rfl, (Qb BK457.out 3).trans rfl, (Qb BK457.out 4).trans rfl, (Qb BK465.out 0).trans rfl, (Qb BK465.out 1).trans rfl, (Qb BK465.out 2).trans rfl, (Qb BK465.out 3).trans rfl, (Qb BK465.out 4).trans rfl⟩ (fun hHeld => ?_)
          clear hK K
          refine norm_ (a' := ?_) ?_ ?_
          rotate_left
          ·show Zg _ (some 97) _ = _
           simp only [Zg, Qe, Qj, Qk, Xk, Xn]
           rfl
          refine pure_ (i := 41) (N := some 98) (v := ?_) (a' := ?_) #[true, true, true, true, true, true, true, true, true, true, true, true, true, true, true, true, true, true, true, true, true, true, true, true, true, true, true, true, true, true, true, true, true, true, true, true, true, true, true, true, true, true, false, false] rfl rfl (any_of HT_.out (by kernel_rfl)) (fun _ _ _ h => h) (Xt ⟨by rfl, ?_⟩) ?_ ?_
          rotate_left
          ·intro w'
           go_simp
           with_reducible rfl
          rotate_left
          ·simp only [Zg, Qe, Qj, Qk, Xk, Xn]
           rfl
          refine pure_ (i := 42) (N := some 99) (v := ?_) (a' := ?_) #[true, true, true, true, true, true, true, true, true, true, true, true, true, true, true, true, true, true, true, true, true, true, true, true, true, true, true, true, true, true, true, true, true, true, true, true, true, true, true, true, true, true, true, false] rfl rfl (any_of HT_.out (by kernel_rfl)) (fun _ _ _ h => h) (Xt ⟨by rfl, ?_⟩) ?_ ?_
          rotate_left
          ·intro w'
           go_simp
           with_reducible rfl
          rotate_left
          ·simp only [Zg, Qe, Qj, Qk, Xk, Xn]
           rfl
          refine pure_ (i := 43) (N := some 2) (v := ?_) (a' := ?_) #[true, true, true, true, true, true, true, true, true, true, true, true, true, true, true, true, true, true, true, true, true, true, true, true, true, true, true, true, true, true, true, true, true, true, true, true, true, true, true, true, true, true, true, true] rfl rfl (any_of HT_.out (by kernel_rfl)) (fun _ _ _ h => h) (Xt ⟨by rfl, ?_⟩) ?_ ?_
          rotate_left
          ·intro w'
           go_simp
           with_reducible rfl
          rotate_left
          ·simp only [Zg, Qe, Qj, Qk, Xk, Xn]
           rfl
          refine done_ (done_of HT_.out (by kernel_rfl)) ?_
          try go_wp2
          go_ret
          exact ⟨by first | rfl | (simp [errW_none, errW_some] <;> rfl) | (simp [*, errW_none, errW_some] <;> rfl), by repeat (first | (with_reducible first | exact HB.out | apply below_alloc | apply pw_below_drewN | apply below_drew1 | refine below_set ?_ GE435.out | refine below_set ?_ GE456.out | refine below_set ?_ GE457.out | refine below_set ?_ GE465.out) | exact HB.out)⟩
         ·replace c41 := Bool.eq_false_iff.mpr c41
          subst c41
          have H1 : (some false) = some r := by rw [if_neg (show ¬ (false = true) by decide)] at H; exact H
          clear H
          have H := H1
          clear H1
          obtain rfl := Qs H
          exact absurd hrt.out (by decide)
        ·rw [if_neg c37] at H
         have c37b0 : (t471 == t472) = false := by simpa using c37
         (try (have c37b1 : decide (t471 = t472) = false := by simpa using c37))
         (try (have c37b2 : (t471 == t472) = false := by simpa using c37))
         (try (have c37b3 : ¬ (t471 = t472) := by simpa using c37))
         clear c37
         obtain rfl := Qs H
         exact absurd hrt.out (by decide)
       ·rw [if_neg c34] at H
        have c34b0 : (t469 == t470) = false := by simpa using c34
        (try (have c34b1 : decide (t469 = t470) = false := by simpa using c34))
        (try (have c34b2 : (t469 == t470) = false := by simpa using c34))
        (try (have c34b3 : ¬ (t469 = t470) := by simpa using c34))
        clear c34
        obtain rfl := Qs H
        exact absurd hrt.out (by decide)
      ·rw [if_neg c31] at H
       have c31b0 : (t468 == (Qq (x6_1 + 1))) = false := beq_eq_false_iff_ne.mpr c31
       have c31b1 : (t468 != (Qq (x6_1 + 1))) = true := bne_iff_ne.mpr c31
       obtain rfl := Qs H
       exact absurd hrt.out (by decide)
     ·rw [if_neg c29] at H
      have c29b0 : (t467 == x5_1) = false := beq_eq_false_iff_ne.mpr c29
      have c29b1 : (t467 != x5_1) = true := bne_iff_ne.mpr c29
      obtain rfl := Qs H
      exact absurd hrt.out (by decide)
def laws_FnFormulas.Pure : Prop := ∀ (l0 : List Int), (l0.length ≤ maxLen ∧ ∀ x_ ∈ l0, (Lit.int .u8 x_).wf = true) → ∃ k, laws_FnFormulas.f k l0 = some true
end Go.Proofs.Ytoljagpjejpmpaa.PFnFormulas
