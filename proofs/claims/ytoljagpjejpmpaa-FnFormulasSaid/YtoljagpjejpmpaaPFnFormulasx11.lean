-- Laid by wip/tools/xprint.py (a program of this session over the kit's print). Not trusted: Lean checks it.
import Derived.Test.YtoljagpjejpmpaaXAuto
import Derived.Test.YtoljagpjejpmpaaPFnFormulasx0
import Derived.Test.YtoljagpjejpmpaaPFnFormulasx9
import Derived.Test.YtoljagpjejpmpaaPFnFormulasx10
namespace Go.Proofs.Ytoljagpjejpmpaa.PFnFormulas
open Go.RowKit Go.Proofs.YtoljagpjejpmpaaW.PrintWords Go.Proofs.YtoljagpjejpmpaaW.PrintLast Go.Proofs.YtoljagpjejpmpaaW.PrintMore
open Go.Proofs.YtoljagpjejpmpaaW.PrintWords.Aside0 renaming mk → Qa
open Go.Proofs.YtoljagpjejpmpaaW.PrintWords renaming blk_cell → Qb, blk_frozen → Qc, below_step → Zc
open Option renaming bind_eq_some_iff → Qi
open List renaming map_toArray → Qm, length_drop → Qn, length_take → Qo
open Option.some renaming inj → Qs
attribute [local go_sem] max2_int min2_int max_two min_two max_three min_three max_four min_four
set_option linter.unusedVariables false
set_option linter.unusedSimpArgs false
def spec_IsFormula.f (k : Nat) (a0 : Int) (a1_0 : Int) (a1_1 : Int) (a1_2 : Int) (a1_3 : Int) (l1_4 : List (S32)) : Option (Bool) := (spec_l10Left.f k a1_0 a1_1 a1_2 a1_3 l1_4 40).bind fun t416 => (if t416 ≥ 0 then ((spec_DepthOf.f k a1_0 a1_1 a1_2 a1_3 l1_4).bind fun t417 => (if t417 ≤ 12 then ((spec_l10Form.f k a0 a1_0 a1_1 a1_2 a1_3 l1_4).bind fun t418 => (some t418)) else (some false))) else (some false))
theorem spec_IsFormula.mono : ∀ a0 a1 a2 a3 a4 a5 k, LeO (spec_IsFormula.f k a0 a1 a2 a3 a4 a5) (spec_IsFormula.f (k + 1) a0 a1 a2 a3 a4 a5) := by
 intro a0 a1 a2 a3 a4 a5 k
 unfold spec_IsFormula.f
 repeat' first
   | (with_reducible exact spec_DepthOf.mono _ _ _ _ _ _)
   | (with_reducible exact spec_l10Form.mono _ _ _ _ _ _ _)
   | (with_reducible exact spec_l10Left.mono _ _ _ _ _ _ _)
   | (with_reducible exact LeO.refl _)
   | (with_reducible exact LeO.none _)
   | (with_reducible refine LeO.ite ?_ ?_)
   | (with_reducible refine LeO.bind ?_ (fun _ => ?_))
   | exact spec_DepthOf.mono _ _ _ _ _ _
   | exact spec_l10Form.mono _ _ _ _ _ _ _
   | exact spec_l10Left.mono _ _ _ _ _ _ _
   | exact LeO.none _
   | refine LeO.ite ?_ ?_
   | refine LeO.bind ?_ (fun _ => ?_)
set_option maxHeartbeats 8000000 in
set_option maxRecDepth 100000 in
theorem spec_IsFormula.calls (k : Nat) (a0 : Int) (a1_0 : Int) (a1_1 : Int) (a1_2 : Int) (a1_3 : Int) (A1_4 : Option Addr) (c1_4 : Nat) (l1_4 : List (S32)) (r : Bool) (w : World) (hr1_4 : Kd.C k32 w A1_4 l1_4.length l1_4) (hc1_4 : l1_4.length ≤ c1_4) (h : spec_IsFormula.f k a0 a1_0 a1_1 a1_2 a1_3 l1_4 = some r) :
  Calls Try.prog 37 #[.int .i64 a0, .agg #[.int .i64 a1_0, .int .i64 a1_1, .int .i64 a1_2, .int .i64 a1_3, .slice A1_4 l1_4.length c1_4]] w fun e w' => e = .returned (.bool r) ∧ Below w.heap.size w w' := by
 have hu32 := Try.underlying32
 have HR1_4 := Qa hr1_4
 have HC1_4 := Qa hc1_4
 clear hr1_4 hc1_4
 have HB := Qa (Below.refl w.heap.size w)
 have H : ((spec_l10Left.f k a1_0 a1_1 a1_2 a1_3 l1_4 40).bind fun t416 => (if t416 ≥ 0 then ((spec_DepthOf.f k a1_0 a1_1 a1_2 a1_3 l1_4).bind fun t417 => (if t417 ≤ 12 then ((spec_l10Form.f k a0 a1_0 a1_1 a1_2 a1_3 l1_4).bind fun t418 => (some t418)) else (some false))) else (some false))) = some r := h
 clear h
 replace H := Qi.mp H
 obtain ⟨t416, A30, H⟩ := H
 replace H : (if t416 ≥ 0 then ((spec_DepthOf.f k a1_0 a1_1 a1_2 a1_3 l1_4).bind fun t417 => (if t417 ≤ 12 then ((spec_l10Form.f k a0 a1_0 a1_1 a1_2 a1_3 l1_4).bind fun t418 => (some t418)) else (some false))) else (some false)) = some r := H
 have A3 := Qa A30
 clear A30
 by_cases c4 : t416 ≥ 0
 ·rw [if_pos c4] at H
  have c4b0 : decide (0 ≤ t416) = true := decide_eq_true c4
  clear c4
  replace H := Qi.mp H
  obtain ⟨t417, A50, H⟩ := H
  replace H : (if t417 ≤ 12 then ((spec_l10Form.f k a0 a1_0 a1_1 a1_2 a1_3 l1_4).bind fun t418 => (some t418)) else (some false)) = some r := H
  have A5 := Qa A50
  clear A50
  by_cases c6 : t417 ≤ 12
  ·rw [if_pos c6] at H
   have c6b0 : decide (t417 ≤ 12) = true := decide_eq_true c6
   clear c6
   replace H := Qi.mp H
   obtain ⟨t418, A70, H⟩ := H
   replace H : (some t418) = some r := H
   have A7 := Qa A70
   clear A70
   obtain rfl := Qs H
   go_enter Try.func37, Try.ntmps37
   go_wp2_with (first | ((with_reducible refine gate_dst (N := 3) rfl ?_); refine box_event ?hg (N := 3) ?hd (cs := #[.int .i64 a1_0, .int .i64 a1_1, .int .i64 a1_2, .int .i64 a1_3, .slice A1_4 l1_4.length c1_4]) (t := 32) ?hr ?_; (case hd => rfl); (case hg => rfl); (case hr => first | (go_simp; done) | (go_simp; rfl)); intro gb415 hg w8 hbox hb; have BK415 := Qa (hbox); have GW415 := Qa ((by rw [hg]; exact (below_size (Bb0 HB.out)) : w.heap.size ≤ gb415)); have GE415 := Qa ((by rw [hg]; exact (below_size (Bb0 HB.out)) : w.heap.size ≤ gb415)); replace HB := Qa (Zc (Bb0 HB.out) hb); clear hb hbox hg; have q9_0 : w8.cell? ⟨gb415, 0, none⟩ = some (.int .i64 a1_0) := (Qb BK415.out 0).trans rfl; have q9_1 : w8.cell? ⟨gb415, 1, none⟩ = some (.int .i64 a1_1) := (Qb BK415.out 1).trans rfl; have q9_2 : w8.cell? ⟨gb415, 2, none⟩ = some (.int .i64 a1_2) := (Qb BK415.out 2).trans rfl; have q9_3 : w8.cell? ⟨gb415, 3, none⟩ = some (.int .i64 a1_3) := (Qb BK415.out 3).trans rfl; have q9_4 : w8.cell? ⟨gb415, 4, none⟩ = some (.slice A1_4 l1_4.length c1_4) := (Qb BK415.out 4).trans rfl; have u9_0 := Qc BK415.out 0; have u9_1 := Qc BK415.out 1; have u9_2 := Qc BK415.out 2; have u9_3 := Qc BK415.out 3; have u9_4 := Qc BK415.out 4) | ((with_reducible refine gate_callee (f := 74) rfl ?_); refine goesL_ (some 6) rfl rfl Try.func74 (by kernel_rfl) rfl #[.agg #[.int .i64 a1_0, .int .i64 a1_1, .int .i64 a1_2, .int .i64 a1_3, .slice A1_4 l1_4.length c1_4], .int .i64 40] rfl (by (try simp only [Qm, List.map_cons, List.map_nil]); first | done | rfl | (simp only [Qn, Qo]; rfl)) ?_; (with_reducible refine (spec_l10Left.calls k a1_0 a1_1 a1_2 a1_3 _ _ l1_4 40 t416 _ ?side1 ?side2 A3.out).mono ?_); (case side1 => repeat (first | exact (Kd.C_below HR1_4.out HB.out) | (with_reducible refine Kd.C_alloc ?_ _) | (with_reducible refine Kd.C_drewN ?_ _) | (with_reducible refine Kd.C_drew ?_))); (case side2 => exact HC1_4.out); rintro e w10 ⟨rfl, hb⟩; refine ⟨_, rfl, ?_⟩; replace BK415 := Qa (blk_below (g := gb415) (o := .cells #[.int .i64 a1_0, .int .i64 a1_1, .int .i64 a1_2, .int .i64 a1_3, .slice A1_4 l1_4.length c1_4] 32 (0, 0)) (Ba BK415.out) hb); replace HB := Qa (Zc (Bb1 HB.out GE415.out) hb); (try clear hb); (try clear hb2); (try clear hk); (try clear hi); have q11_0 : w10.cell? ⟨gb415, 0, none⟩ = some (.int .i64 a1_0) := (Qb BK415.out 0).trans rfl; have q11_1 : w10.cell? ⟨gb415, 1, none⟩ = some (.int .i64 a1_1) := (Qb BK415.out 1).trans rfl; have q11_2 : w10.cell? ⟨gb415, 2, none⟩ = some (.int .i64 a1_2) := (Qb BK415.out 2).trans rfl; have q11_3 : w10.cell? ⟨gb415, 3, none⟩ = some (.int .i64 a1_3) := (Qb BK415.out 3).trans rfl; have q11_4 : w10.cell? ⟨gb415, 4, none⟩ = some (.slice A1_4 l1_4.length c1_4) := (Qb BK415.out 4).trans rfl; have u11_0 := Qc BK415.out 0; have u11_1 := Qc BK415.out 1; have u11_2 := Qc BK415.out 2; have u11_3 := Qc BK415.out 3; have u11_4 := Qc BK415.out 4) | (go_at_call 75; (with_reducible refine (spec_DepthOf.calls k a1_0 a1_1 a1_2 a1_3 _ _ l1_4 t417 _ ?side1 ?side2 A5.out).mono ?_); (case side1 => repeat (first | exact (Kd.C_below HR1_4.out HB.out) | (with_reducible refine Kd.C_alloc ?_ _) | (with_reducible refine Kd.C_drewN ?_ _) | (with_reducible refine Kd.C_drew ?_))); (case side2 => exact HC1_4.out); rintro e w12 ⟨rfl, hb⟩; replace BK415 := Qa (blk_below (g := gb415) (o := .cells #[.int .i64 a1_0, .int .i64 a1_1, .int .i64 a1_2, .int .i64 a1_3, .slice A1_4 l1_4.length c1_4] 32 (0, 0)) (Ba BK415.out) hb); replace HB := Qa (Zc (Bb1 HB.out GE415.out) hb); (try clear hb); (try clear hb2); (try clear hk); (try clear hi); have q13_0 : w12.cell? ⟨gb415, 0, none⟩ = some (.int .i64 a1_0) := (Qb BK415.out 0).trans rfl; have q13_1 : w12.cell? ⟨gb415, 1, none⟩ = some (.int .i64 a1_1) := (Qb BK415.out 1).trans rfl; have q13_2 : w12.cell? ⟨gb415, 2, none⟩ = some (.int .i64 a1_2) := (Qb BK415.out 2).trans rfl; have q13_3 : w12.cell? ⟨gb415, 3, none⟩ = some (.int .i64 a1_3) := (Qb BK415.out 3).trans rfl; have q13_4 : w12.cell? ⟨gb415, 4, none⟩ = some (.slice A1_4 l1_4.length c1_4) := (Qb BK415.out 4).trans rfl; have u13_0 := Qc BK415.out 0; have u13_1 := Qc BK415.out 1; have u13_2 := Qc BK415.out 2; have u13_3 := Qc BK415.out 3; have u13_4 := Qc BK415.out 4) | (go_at_call 76; (with_reducible refine (spec_l10Form.calls k a0 a1_0 a1_1 a1_2 a1_3 _ _ l1_4 t418 _ ?side1 ?side2 A7.out).mono ?_); (case side1 => repeat (first | exact (Kd.C_below HR1_4.out HB.out) | (with_reducible refine Kd.C_alloc ?_ _) | (with_reducible refine Kd.C_drewN ?_ _) | (with_reducible refine Kd.C_drew ?_))); (case side2 => exact HC1_4.out); rintro e w14 ⟨rfl, hb⟩; replace BK415 := Qa (blk_below (g := gb415) (o := .cells #[.int .i64 a1_0, .int .i64 a1_1, .int .i64 a1_2, .int .i64 a1_3, .slice A1_4 l1_4.length c1_4] 32 (0, 0)) (Ba BK415.out) hb); replace HB := Qa (Zc (Bb1 HB.out GE415.out) hb); (try clear hb); (try clear hb2); (try clear hk); (try clear hi)))
   go_ret
   exact ⟨by first | rfl | (simp [errW_none, errW_some] <;> rfl) | (simp [*, errW_none, errW_some] <;> rfl), by repeat (first | (with_reducible first | exact HB.out | apply below_alloc | apply pw_below_drewN | apply below_drew1 | refine below_set ?_ GE415.out) | exact HB.out)⟩
  ·rw [if_neg c6] at H
   have c6b0 : decide (t417 ≤ 12) = false := decide_eq_false c6
   clear c6
   obtain rfl := Qs H
   go_enter Try.func37, Try.ntmps37
   go_wp2_with (first | ((with_reducible refine gate_dst (N := 3) rfl ?_); refine box_event ?hg (N := 3) ?hd (cs := #[.int .i64 a1_0, .int .i64 a1_1, .int .i64 a1_2, .int .i64 a1_3, .slice A1_4 l1_4.length c1_4]) (t := 32) ?hr ?_; (case hd => rfl); (case hg => rfl); (case hr => first | (go_simp; done) | (go_simp; rfl)); intro gb415 hg w15 hbox hb; have BK415 := Qa (hbox); have GW415 := Qa ((by rw [hg]; exact (below_size (Bb0 HB.out)) : w.heap.size ≤ gb415)); have GE415 := Qa ((by rw [hg]; exact (below_size (Bb0 HB.out)) : w.heap.size ≤ gb415)); replace HB := Qa (Zc (Bb0 HB.out) hb); clear hb hbox hg; have q16_0 : w15.cell? ⟨gb415, 0, none⟩ = some (.int .i64 a1_0) := (Qb BK415.out 0).trans rfl; have q16_1 : w15.cell? ⟨gb415, 1, none⟩ = some (.int .i64 a1_1) := (Qb BK415.out 1).trans rfl; have q16_2 : w15.cell? ⟨gb415, 2, none⟩ = some (.int .i64 a1_2) := (Qb BK415.out 2).trans rfl; have q16_3 : w15.cell? ⟨gb415, 3, none⟩ = some (.int .i64 a1_3) := (Qb BK415.out 3).trans rfl; have q16_4 : w15.cell? ⟨gb415, 4, none⟩ = some (.slice A1_4 l1_4.length c1_4) := (Qb BK415.out 4).trans rfl; have u16_0 := Qc BK415.out 0; have u16_1 := Qc BK415.out 1; have u16_2 := Qc BK415.out 2; have u16_3 := Qc BK415.out 3; have u16_4 := Qc BK415.out 4) | ((with_reducible refine gate_callee (f := 74) rfl ?_); refine goesL_ (some 6) rfl rfl Try.func74 (by kernel_rfl) rfl #[.agg #[.int .i64 a1_0, .int .i64 a1_1, .int .i64 a1_2, .int .i64 a1_3, .slice A1_4 l1_4.length c1_4], .int .i64 40] rfl (by (try simp only [Qm, List.map_cons, List.map_nil]); first | done | rfl | (simp only [Qn, Qo]; rfl)) ?_; (with_reducible refine (spec_l10Left.calls k a1_0 a1_1 a1_2 a1_3 _ _ l1_4 40 t416 _ ?side1 ?side2 A3.out).mono ?_); (case side1 => repeat (first | exact (Kd.C_below HR1_4.out HB.out) | (with_reducible refine Kd.C_alloc ?_ _) | (with_reducible refine Kd.C_drewN ?_ _) | (with_reducible refine Kd.C_drew ?_))); (case side2 => exact HC1_4.out); rintro e w17 ⟨rfl, hb⟩; refine ⟨_, rfl, ?_⟩; replace BK415 := Qa (blk_below (g := gb415) (o := .cells #[.int .i64 a1_0, .int .i64 a1_1, .int .i64 a1_2, .int .i64 a1_3, .slice A1_4 l1_4.length c1_4] 32 (0, 0)) (Ba BK415.out) hb); replace HB := Qa (Zc (Bb1 HB.out GE415.out) hb); (try clear hb); (try clear hb2); (try clear hk); (try clear hi); have q18_0 : w17.cell? ⟨gb415, 0, none⟩ = some (.int .i64 a1_0) := (Qb BK415.out 0).trans rfl; have q18_1 : w17.cell? ⟨gb415, 1, none⟩ = some (.int .i64 a1_1) := (Qb BK415.out 1).trans rfl; have q18_2 : w17.cell? ⟨gb415, 2, none⟩ = some (.int .i64 a1_2) := (Qb BK415.out 2).trans rfl; have q18_3 : w17.cell? ⟨gb415, 3, none⟩ = some (.int .i64 a1_3) := (Qb BK415.out 3).trans rfl; have q18_4 : w17.cell? ⟨gb415, 4, none⟩ = some (.slice A1_4 l1_4.length c1_4) := (Qb BK415.out 4).trans rfl; have u18_0 := Qc BK415.out 0; have u18_1 := Qc BK415.out 1; have u18_2 := Qc BK415.out 2; have u18_3 := Qc BK415.out 3; have u18_4 := Qc BK415.out 4) | (go_at_call 75; (with_reducible refine (spec_DepthOf.calls k a1_0 a1_1 a1_2 a1_3 _ _ l1_4 t417 _ ?side1 ?side2 A5.out).mono ?_); (case side1 => repeat (first | exact (Kd.C_below HR1_4.out HB.out) | (with_reducible refine Kd.C_alloc ?_ _) | (with_reducible refine Kd.C_drewN ?_ _) | (with_reducible refine Kd.C_drew ?_))); (case side2 => exact HC1_4.out); rintro e w19 ⟨rfl, hb⟩; replace BK415 := Qa (blk_below (g := gb415) (o := .cells #[.int .i64 a1_0, .int .i64 a1_1, .int .i64 a1_2, .int .i64 a1_3, .slice A1_4 l1_4.length c1_4] 32 (0, 0)) (Ba BK415.out) hb); replace HB := Qa (Zc (Bb1 HB.out GE415.out) hb); (try clear hb); (try clear hb2); (try clear hk); (try clear hi)))
   go_ret
   exact ⟨by first | rfl | (simp [errW_none, errW_some] <;> rfl) | (simp [*, errW_none, errW_some] <;> rfl), by repeat (first | (with_reducible first | exact HB.out | apply below_alloc | apply pw_below_drewN | apply below_drew1 | refine below_set ?_ GE415.out) | exact HB.out)⟩
 ·rw [if_neg c4] at H
  have c4b0 : decide (0 ≤ t416) = false := decide_eq_false c4
  clear c4
  obtain rfl := Qs H
  go_enter Try.func37, Try.ntmps37
  go_wp2_with (first | ((with_reducible refine gate_dst (N := 3) rfl ?_); refine box_event ?hg (N := 3) ?hd (cs := #[.int .i64 a1_0, .int .i64 a1_1, .int .i64 a1_2, .int .i64 a1_3, .slice A1_4 l1_4.length c1_4]) (t := 32) ?hr ?_; (case hd => rfl); (case hg => rfl); (case hr => first | (go_simp; done) | (go_simp; rfl)); intro gb415 hg w20 hbox hb; have BK415 := Qa (hbox); have GW415 := Qa ((by rw [hg]; exact (below_size (Bb0 HB.out)) : w.heap.size ≤ gb415)); have GE415 := Qa ((by rw [hg]; exact (below_size (Bb0 HB.out)) : w.heap.size ≤ gb415)); replace HB := Qa (Zc (Bb0 HB.out) hb); clear hb hbox hg; have q21_0 : w20.cell? ⟨gb415, 0, none⟩ = some (.int .i64 a1_0) := (Qb BK415.out 0).trans rfl; have q21_1 : w20.cell? ⟨gb415, 1, none⟩ = some (.int .i64 a1_1) := (Qb BK415.out 1).trans rfl; have q21_2 : w20.cell? ⟨gb415, 2, none⟩ = some (.int .i64 a1_2) := (Qb BK415.out 2).trans rfl; have q21_3 : w20.cell? ⟨gb415, 3, none⟩ = some (.int .i64 a1_3) := (Qb BK415.out 3).trans rfl; have q21_4 : w20.cell? ⟨gb415, 4, none⟩ = some (.slice A1_4 l1_4.length c1_4) := (Qb BK415.out 4).trans rfl; have u21_0 := Qc BK415.out 0; have u21_1 := Qc BK415.out 1; have u21_2 := Qc BK415.out 2; have u21_3 := Qc BK415.out 3; have u21_4 := Qc BK415.out 4) | ((with_reducible refine gate_callee (f := 74) rfl ?_); refine goesL_ (some 6) rfl rfl Try.func74 (by kernel_rfl) rfl #[.agg #[.int .i64 a1_0, .int .i64 a1_1, .int .i64 a1_2, .int .i64 a1_3, .slice A1_4 l1_4.length c1_4], .int .i64 40] rfl (by (try simp only [Qm, List.map_cons, List.map_nil]); first | done | rfl | (simp only [Qn, Qo]; rfl)) ?_; (with_reducible refine (spec_l10Left.calls k a1_0 a1_1 a1_2 a1_3 _ _ l1_4 40 t416 _ ?side1 ?side2 A3.out).mono ?_); (case side1 => repeat (first | exact (Kd.C_below HR1_4.out HB.out) | (with_reducible refine Kd.C_alloc ?_ _) | (with_reducible refine Kd.C_drewN ?_ _) | (with_reducible refine Kd.C_drew ?_))); (case side2 => exact HC1_4.out); rintro e w22 ⟨rfl, hb⟩; refine ⟨_, rfl, ?_⟩; replace BK415 := Qa (blk_below (g := gb415) (o := .cells #[.int .i64 a1_0, .int .i64 a1_1, .int .i64 a1_2, .int .i64 a1_3, .slice A1_4 l1_4.length c1_4] 32 (0, 0)) (Ba BK415.out) hb); replace HB := Qa (Zc (Bb1 HB.out GE415.out) hb); (try clear hb); (try clear hb2); (try clear hk); (try clear hi)))
  go_ret
  exact ⟨by first | rfl | (simp [errW_none, errW_some] <;> rfl) | (simp [*, errW_none, errW_some] <;> rfl), by repeat (first | (with_reducible first | exact HB.out | apply below_alloc | apply pw_below_drewN | apply below_drew1 | refine below_set ?_ GE415.out) | exact HB.out)⟩
end Go.Proofs.Ytoljagpjejpmpaa.PFnFormulas
