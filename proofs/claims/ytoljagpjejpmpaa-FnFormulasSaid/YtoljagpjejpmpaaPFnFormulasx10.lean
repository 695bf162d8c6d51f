-- Laid by wip/tools/xprint.py (a program of this session over the kit's print). Not trusted: Lean checks it.
import Derived.Test.YtoljagpjejpmpaaXAuto
import Derived.Test.YtoljagpjejpmpaaPFnFormulasx0
import Derived.Test.YtoljagpjejpmpaaPFnFormulasx1
import Derived.Test.YtoljagpjejpmpaaPFnFormulasx4
namespace Go.Proofs.Ytoljagpjejpmpaa.PFnFormulas
open Go.RowKit Go.Proofs.YtoljagpjejpmpaaW.PrintWords Go.Proofs.YtoljagpjejpmpaaW.PrintLast Go.Proofs.YtoljagpjejpmpaaW.PrintMore
open Go.Proofs.YtoljagpjejpmpaaW.PrintWords.Aside0 renaming mk → Qa
open Go.Proofs.YtoljagpjejpmpaaW.PrintWords renaming blk_cell → Qb, blk_frozen → Qc, below_step → Zc
open Go.World renaming block_lt_of_cell? → Qd, drewN_drewN → Zs
open Option renaming bind_eq_some_iff → Qi
open Option.some renaming inj → Qs
open Bool renaming eq_iff_iff → Qx, eq_false_iff → Xe
open Nat renaming le_refl → Zv
attribute [local go_sem] max2_int min2_int max_two min_two max_three min_three max_four min_four
set_option linter.unusedVariables false
set_option linter.unusedSimpArgs false
mutual
def spec_l10Form.l0 : Nat → Int → Int → Int → Int → Int → Int → List (S32) → Option (Bool)
 | 0, _, _, _, _, _, _, _ => none
 | k + 1, x0, x5, x409000, x409001, x409002, x409003, x409004 => if x5 < (x409004.length : Int) then (if 0 ≤ x5 then ((spec_l10Form.f k x0 ((rd_T32 x409004 x5).f0) ((rd_T32 x409004 x5).f1) ((rd_T32 x409004 x5).f2) ((rd_T32 x409004 x5).f3) ((rd_T32 x409004 x5).f4)).bind fun t410 => (if t410 = true then (spec_l10Form.l0 k x0 (wrap64 (x5 + 1)) x409000 x409001 x409002 x409003 x409004) else (some false))) else (none)) else ((spec_l10Uses.f k x409000).bind fun t411 => (if x409000 = 2 then (spec_l10Form.j1 k x0 t411 true x409000 x409001 x409002 x409003 x409004) else (spec_l10Form.j1 k x0 t411 (x409000 == 3) x409000 x409001 x409002 x409003 x409004)))
def spec_l10Form.j1 : Nat → Int → Int → Bool → Int → Int → Int → Int → List (S32) → Option (Bool)
 | 0, _, _, _, _, _, _, _, _ => none
 | k + 1, x0, x6, x7, x409000, x409001, x409002, x409003, x409004 => if x6 < 1 then (if x409002 = 0 then (if x6 < 2 then (if x409003 = 0 then (if x7 = true then (if x409001 < 0 then (spec_l10Form.j2 k true x409000 x409001 x409002 x409003 x409004) else (spec_l10Form.j2 k (decide (x409001 ≥ x0)) x409000 x409001 x409002 x409003 x409004)) else (if x409001 = 0 then (spec_l10Form.j2 k false x409000 x409001 x409002 x409003 x409004) else (spec_l10Form.j2 k true x409000 x409001 x409002 x409003 x409004))) else (spec_l10Form.j2 k true x409000 x409001 x409002 x409003 x409004)) else (if x7 = true then (if x409001 < 0 then (spec_l10Form.j2 k true x409000 x409001 x409002 x409003 x409004) else (spec_l10Form.j2 k (decide (x409001 ≥ x0)) x409000 x409001 x409002 x409003 x409004)) else (if x409001 = 0 then (spec_l10Form.j2 k false x409000 x409001 x409002 x409003 x409004) else (spec_l10Form.j2 k true x409000 x409001 x409002 x409003 x409004)))) else (spec_l10Form.j2 k true x409000 x409001 x409002 x409003 x409004)) else (if x6 < 2 then (if x409003 = 0 then (if x7 = true then (if x409001 < 0 then (spec_l10Form.j2 k true x409000 x409001 x409002 x409003 x409004) else (spec_l10Form.j2 k (decide (x409001 ≥ x0)) x409000 x409001 x409002 x409003 x409004)) else (if x409001 = 0 then (spec_l10Form.j2 k false x409000 x409001 x409002 x409003 x409004) else (spec_l10Form.j2 k true x409000 x409001 x409002 x409003 x409004))) else (spec_l10Form.j2 k true x409000 x409001 x409002 x409003 x409004)) else (if x7 = true then (if x409001 < 0 then (spec_l10Form.j2 k true x409000 x409001 x409002 x409003 x409004) else (spec_l10Form.j2 k (decide (x409001 ≥ x0)) x409000 x409001 x409002 x409003 x409004)) else (if x409001 = 0 then (spec_l10Form.j2 k false x409000 x409001 x409002 x409003 x409004) else (spec_l10Form.j2 k true x409000 x409001 x409002 x409003 x409004))))
def spec_l10Form.j2 : Nat → Bool → Int → Int → Int → Int → List (S32) → Option (Bool)
 | 0, _, _, _, _, _, _ => none
 | k + 1, x72, x409000, x409001, x409002, x409003, x409004 => if x72 = true then (some false) else ((spec_l1In.f x409002 0 3).bind fun t412 => (if t412 = true then ((spec_l1In.f x409003 0 3).bind fun t413 => (if t413 = true then ((spec_ArityOf.f k x409000).bind fun t414 => (some ((x409004.length : Int) == t414))) else (some false))) else (some false)))
def spec_l10Form.f : Nat → Int → Int → Int → Int → Int → List (S32) → Option (Bool)
 | 0, _, _, _, _, _, _ => none
 | k + 1, a0, a1_0, a1_1, a1_2, a1_3, l1_4 => spec_l10Form.l0 k a0 0 a1_0 a1_1 a1_2 a1_3 l1_4
end
theorem spec_l10Form.mono_l : ∀ k, (∀ y0 y1 y2 y3 y4 y5, LeO (spec_l10Form.f k y0 y1 y2 y3 y4 y5) (spec_l10Form.f (k + 1) y0 y1 y2 y3 y4 y5)) ∧ (∀ y0 y1 y2 y3 y4 y5 y6, LeO (spec_l10Form.l0 k y0 y1 y2 y3 y4 y5 y6) (spec_l10Form.l0 (k + 1) y0 y1 y2 y3 y4 y5 y6)) ∧ (∀ y0 y1 y2 y3 y4 y5 y6 y7, LeO (spec_l10Form.j1 k y0 y1 y2 y3 y4 y5 y6 y7) (spec_l10Form.j1 (k + 1) y0 y1 y2 y3 y4 y5 y6 y7)) ∧ (∀ y0 y1 y2 y3 y4 y5, LeO (spec_l10Form.j2 k y0 y1 y2 y3 y4 y5) (spec_l10Form.j2 (k + 1) y0 y1 y2 y3 y4 y5))
 | 0 => ⟨fun _ _ _ _ _ _ r h => by simp [spec_l10Form.f] at h, fun _ _ _ _ _ _ _ r h => by simp [spec_l10Form.l0] at h, fun _ _ _ _ _ _ _ _ r h => by simp [spec_l10Form.j1] at h, fun _ _ _ _ _ _ r h => by simp [spec_l10Form.j2] at h⟩
 | k + 1 => by
  obtain ⟨ih0, ih1, ih2, ih3⟩ := spec_l10Form.mono_l k
  refine ⟨?_, ?_, ?_, ?_⟩
  ·intro y0 y1 y2 y3 y4 y5
   unfold spec_l10Form.f
   repeat' first
   | (with_reducible exact ih0 _ _ _ _ _ _)
   | (with_reducible exact ih1 _ _ _ _ _ _ _)
   | (with_reducible exact ih2 _ _ _ _ _ _ _ _)
   | (with_reducible exact ih3 _ _ _ _ _ _)
   | (with_reducible exact spec_ArityOf.mono _ _)
   | (with_reducible exact spec_l10Uses.mono _ _)
   | (with_reducible exact LeO.refl _)
   | (with_reducible exact LeO.none _)
   | (with_reducible refine LeO.ite ?_ ?_)
   | (with_reducible refine LeO.bind ?_ (fun _ => ?_))
   | exact ih0 _ _ _ _ _ _
   | exact ih1 _ _ _ _ _ _ _
   | exact ih2 _ _ _ _ _ _ _ _
   | exact ih3 _ _ _ _ _ _
   | exact spec_ArityOf.mono _ _
   | exact spec_l10Uses.mono _ _
   | exact LeO.none _
   | refine LeO.ite ?_ ?_
   | refine LeO.bind ?_ (fun _ => ?_)
  ·intro y0 y1 y2 y3 y4 y5 y6
   unfold spec_l10Form.l0
   repeat' first
   | (with_reducible exact ih0 _ _ _ _ _ _)
   | (with_reducible exact ih1 _ _ _ _ _ _ _)
   | (with_reducible exact ih2 _ _ _ _ _ _ _ _)
   | (with_reducible exact ih3 _ _ _ _ _ _)
   | (with_reducible exact spec_ArityOf.mono _ _)
   | (with_reducible exact spec_l10Uses.mono _ _)
   | (with_reducible exact LeO.refl _)
   | (with_reducible exact LeO.none _)
   | (with_reducible refine LeO.ite ?_ ?_)
   | (with_reducible refine LeO.bind ?_ (fun _ => ?_))
   | exact ih0 _ _ _ _ _ _
   | exact ih1 _ _ _ _ _ _ _
   | exact ih2 _ _ _ _ _ _ _ _
   | exact ih3 _ _ _ _ _ _
   | exact spec_ArityOf.mono _ _
   | exact spec_l10Uses.mono _ _
   | exact LeO.none _
   | refine LeO.ite ?_ ?_
   | refine LeO.bind ?_ (fun _ => ?_)
  ·intro y0 y1 y2 y3 y4 y5 y6 y7
   unfold spec_l10Form.j1
   repeat' first
   | (with_reducible exact ih0 _ _ _ _ _ _)
   | (with_reducible exact ih1 _ _ _ _ _ _ _)
   | (with_reducible exact ih2 _ _ _ _ _ _ _ _)
   | (with_reducible exact ih3 _ _ _ _ _ _)
   | (with_reducible exact spec_ArityOf.mono _ _)
   | (with_reducible exact spec_l10Uses.mono _ _)
   | (with_reducible exact LeO.refl _)
   | (with_reducible exact LeO.none _)
   | (with_reducible refine LeO.ite ?_ ?_)
   | (with_reducible refine LeO.bind ?_ (fun _ => ?_))
   | exact ih0 _ _ _ _ _ _
   | exact ih1 _ _ _ _ _ _ _
   | exact ih2 _ _ _ _ _ _ _ _
   | exact ih3 _ _ _ _ _ _
   | exact spec_ArityOf.mono _ _
   | exact spec_l10Uses.mono _ _
   | exact LeO.none _
   | refine LeO.ite ?_ ?_
   | refine LeO.bind ?_ (fun _ => ?_)
  ·intro y0 y1 y2 y3 y4 y5
   unfold spec_l10Form.j2
   repeat' first
   | (with_reducible exact ih0 _ _ _ _ _ _)
   | (with_reducible exact ih1 _ _ _ _ _ _ _)
   | (with_reducible exact ih2 _ _ _ _ _ _ _ _)
   | (with_reducible exact ih3 _ _ _ _ _ _)
   | (with_reducible exact spec_ArityOf.mono _ _)
   | (with_reducible exact spec_l10Uses.mono _ _)
   | (with_reducible exact LeO.refl _)
   | (with_reducible exact LeO.none _)
   | (with_reducible refine LeO.ite ?_ ?_)
   | (with_reducible refine LeO.bind ?_ (fun _ => ?_))
   | exact ih0 _ _ _ _ _ _
   | exact ih1 _ _ _ _ _ _ _
   | exact ih2 _ _ _ _ _ _ _ _
   | exact ih3 _ _ _ _ _ _
   | exact spec_ArityOf.mono _ _
   | exact spec_l10Uses.mono _ _
   | exact LeO.none _
   | refine LeO.ite ?_ ?_
   | refine LeO.bind ?_ (fun _ => ?_)
theorem spec_l10Form.mono : ∀ a0 a1 a2 a3 a4 a5 k, LeO (spec_l10Form.f k a0 a1 a2 a3 a4 a5) (spec_l10Form.f (k + 1) a0 a1 a2 a3 a4 a5) := by
 intro a0 a1 a2 a3 a4 a5 k
 obtain ⟨ih0, ih1, ih2, ih3⟩ := spec_l10Form.mono_l k
 exact ih0 a0 a1 a2 a3 a4 a5
set_option maxHeartbeats 8000000 in
set_option maxRecDepth 100000 in
theorem spec_l10Form.calls (k : Nat) : ∀ (a0 : Int) (a1_0 : Int) (a1_1 : Int) (a1_2 : Int) (a1_3 : Int) (A1_4 : Option Addr) (c1_4 : Nat) (l1_4 : List (S32)) (r : Bool) (w : World) (hr1_4 : Kd.C k32 w A1_4 l1_4.length l1_4) (hc1_4 : l1_4.length ≤ c1_4) (h : spec_l10Form.f k a0 a1_0 a1_1 a1_2 a1_3 l1_4 = some r),
  Calls Try.prog 76 #[.int .i64 a0, .agg #[.int .i64 a1_0, .int .i64 a1_1, .int .i64 a1_2, .int .i64 a1_3, .slice A1_4 l1_4.length c1_4]] w fun e w' => e = .returned (.bool r) ∧ Below w.heap.size w w' := by
 induction k using Nat.strongRecOn with
 | _ k ih =>
 intro a0 a1_0 a1_1 a1_2 a1_3 A1_4 c1_4 l1_4 r w hr1_4 hc1_4 h
 cases k with
 | zero => exact absurd h (by simp [spec_l10Form.f])
 | succ k =>
 simp only [spec_l10Form.f] at h
 have hu32 := Try.underlying32
 have HR1_4 := Qa hr1_4
 have HC1_4 := Qa hc1_4
 clear hr1_4 hc1_4
 have HB := Qa (Below.refl w.heap.size w)
 have H : (spec_l10Form.l0 k a0 0 a1_0 a1_1 a1_2 a1_3 l1_4) = some r := h
 clear h
 have H' := Qa H
 clear H
 go_enter Try.func76, Try.ntmps76
 go_wp2_with (first | ((with_reducible refine gate_dst (N := 3) rfl ?_); (try (refine gate_guard (by rfl) ?_; dsimp only)); refine box_event ?hg (N := 3) ?hd (cs := #[.int .i64 a1_0, .int .i64 a1_1, .int .i64 a1_2, .int .i64 a1_3, .slice A1_4 l1_4.length c1_4]) (t := 32) ?hr ?_; (case hd => rfl); (case hg => rfl); (case hr => first | (go_simp; done) | (go_simp; rfl)); intro gb408 hg w3 hbox hb; have BK408 := Qa (hbox); have GW408 := Qa ((by rw [hg]; exact (below_size (Bb0 HB.out)) : w.heap.size ≤ gb408)); have GE408 := Qa ((by rw [hg]; exact (below_size (Bb0 HB.out)) : w.heap.size ≤ gb408)); replace HB := Qa (Zc (Bb0 HB.out) hb); clear hb hbox hg))
 repeat (go_quiet (first | ((with_reducible refine gate_dst (N := 3) rfl ?_); (try (refine gate_guard (by rfl) ?_; dsimp only)); refine box_event ?hg (N := 3) ?hd (cs := #[.int .i64 a1_0, .int .i64 a1_1, .int .i64 a1_2, .int .i64 a1_3, .slice A1_4 l1_4.length c1_4]) (t := 32) ?hr ?_; (case hd => rfl); (case hg => rfl); (case hr => first | (go_simp; done) | (go_simp; rfl)); intro gb408 hg w3 hbox hb; have BK408 := Qa (hbox); have GW408 := Qa ((by rw [hg]; exact (below_size (Bb0 HB.out)) : w.heap.size ≤ gb408)); have GE408 := Qa ((by rw [hg]; exact (below_size (Bb0 HB.out)) : w.heap.size ≤ gb408)); replace HB := Qa (Zc (Bb0 HB.out) hb); clear hb hbox hg)); try go_wp2_with (first | ((with_reducible refine gate_dst (N := 3) rfl ?_); (try (refine gate_guard (by rfl) ?_; dsimp only)); refine box_event ?hg (N := 3) ?hd (cs := #[.int .i64 a1_0, .int .i64 a1_1, .int .i64 a1_2, .int .i64 a1_3, .slice A1_4 l1_4.length c1_4]) (t := 32) ?hr ?_; (case hd => rfl); (case hg => rfl); (case hr => first | (go_simp; done) | (go_simp; rfl)); intro gb408 hg w3 hbox hb; have BK408 := Qa (hbox); have GW408 := Qa ((by rw [hg]; exact (below_size (Bb0 HB.out)) : w.heap.size ≤ gb408)); have GE408 := Qa ((by rw [hg]; exact (below_size (Bb0 HB.out)) : w.heap.size ≤ gb408)); replace HB := Qa (Zc (Bb0 HB.out) hb); clear hb hbox hg)))
 go_loopg [5] k (fun kq v5 w' => ∃ (x5_1 : Int), v5 = .int .i64 x5_1 ∧ Aside0 (spec_l10Form.l0 kq a0 x5_1 a1_0 a1_1 a1_2 a1_3 l1_4 = some r) ∧ Aside0 (kq ≤ k) ∧ Aside0 (w'.heap[gb408]? = some (.cells #[.int .i64 a1_0, .int .i64 a1_1, .int .i64 a1_2, .int .i64 a1_3, (.slice A1_4 l1_4.length c1_4)] 32 (0, 0))) ∧ Aside0 (Below w.heap.size w w'))
 case atStart => exact ⟨(0), (by first | rfl | (simp; done) | (simp [*]; done) | (simp; rw [Qx]; simp; done)), H', ⟨Nat.le_refl _⟩, ⟨Ba BK408.out⟩, ⟨Bb1 HB.out GE408.out⟩⟩
 case round =>
  clear H'
  try clear c1
  try clear p2
  obtain ⟨x5_1, rfl, HA, HK1, BK408, HB⟩ := hrel
  cases gk with
  | zero => exact absurd HA.out (by simp [spec_l10Form.l0])
  | succ k1 =>
   have H := HA.out
   clear HA
   simp only [spec_l10Form.l0] at H
   by_cases c4 : x5_1 < (l1_4.length : Int)
   ·rw [if_pos c4] at H
    have c4b0 : decide (x5_1 < (l1_4.length : Int)) = true := decide_eq_true c4
    clear c4
    by_cases c5 : 0 ≤ x5_1
    ·rw [if_pos c5] at H
     have c5b0 : decide (0 ≤ x5_1) = true := decide_eq_true c5
     clear c5
     replace H := Qi.mp H
     obtain ⟨t410, A60, H⟩ := H
     replace H : (if t410 = true then (spec_l10Form.l0 k1 a0 (wrap64 (x5_1 + 1)) a1_0 a1_1 a1_2 a1_3 l1_4) else (some false)) = some r := H
     have A6 := Qa A60
     clear A60
     by_cases c7 : t410 = true
     ·subst c7
      have H1 : (spec_l10Form.l0 k1 a0 (wrap64 (x5_1 + 1)) a1_0 a1_1 a1_2 a1_3 l1_4) = some r := by rw [if_pos rfl] at H; exact H
      clear H
      have H := H1
      clear H1
      have H' := Qa H
      clear H
      have q8_0 : wr.cell? ⟨gb408, 0, none⟩ = some (.int .i64 a1_0) := (Qb BK408.out 0).trans rfl
      have q8_1 : wr.cell? ⟨gb408, 1, none⟩ = some (.int .i64 a1_1) := (Qb BK408.out 1).trans rfl
      have q8_2 : wr.cell? ⟨gb408, 2, none⟩ = some (.int .i64 a1_2) := (Qb BK408.out 2).trans rfl
      have q8_3 : wr.cell? ⟨gb408, 3, none⟩ = some (.int .i64 a1_3) := (Qb BK408.out 3).trans rfl
      have q8_4 : wr.cell? ⟨gb408, 4, none⟩ = some (.slice A1_4 l1_4.length c1_4) := (Qb BK408.out 4).trans rfl
      have u8_0 := Qc BK408.out 0
      have u8_1 := Qc BK408.out 1
      have u8_2 := Qc BK408.out 2
      have u8_3 := Qc BK408.out 3
      have u8_4 := Qc BK408.out 4
      have p409 : 0 ≤ (x5_1 : Int) := of_decide_eq_true (by first | (with_reducible assumption) | assumption)
      have q409 : x5_1 < (l1_4.length : Int) := of_decide_eq_true (by first | (with_reducible assumption) | assumption)
      obtain ⟨ad409, A409_4, c409_4, e409, hx409_0, hx409_1, hx409_2, hx409_3, hx409_4, hl409_4, hi409_4⟩ := at_T32 HR1_4.out x5_1 p409 q409
      cases e409
      replace hx409_0 := (HB.out.cell (Qd w _ hx409_0)).trans hx409_0
      replace hx409_1 := (HB.out.cell (Qd w _ hx409_1)).trans hx409_1
      replace hx409_2 := (HB.out.cell (Qd w _ hx409_2)).trans hx409_2
      replace hx409_3 := (HB.out.cell (Qd w _ hx409_3)).trans hx409_3
      replace hx409_4 := (HB.out.cell (Qd w _ hx409_4)).trans hx409_4
      have HR409_4 := Qa hi409_4
      have HC409_4 := Qa hl409_4
      clear hi409_4 hl409_4
      replace p409 := eq_true p409
      replace q409 := eq_true q409
      go_wp2_with (first | (go_at_call 76; (with_reducible refine (ih k1 (by have := HK1.out; omega) a0 ((rd_T32 l1_4 x5_1).f0) ((rd_T32 l1_4 x5_1).f1) ((rd_T32 l1_4 x5_1).f2) ((rd_T32 l1_4 x5_1).f3) _ _ ((rd_T32 l1_4 x5_1).f4) true _ ?side1 ?side2 A6.out).mono ?_); (case side1 => repeat (first | exact (Kd.C_below HR409_4.out HB.out) | (with_reducible refine Kd.C_alloc ?_ _) | (with_reducible refine Kd.C_drewN ?_ _) | (with_reducible refine Kd.C_drew ?_))); (case side2 => exact HC409_4.out); rintro e w9 ⟨rfl, hb⟩; replace BK408 := Qa (blk_below (g := gb408) (o := .cells #[.int .i64 a1_0, .int .i64 a1_1, .int .i64 a1_2, .int .i64 a1_3, .slice (some ad409) l1_4.length c1_4] 32 (0, 0)) (Ba BK408.out) hb); replace HB := Qa (Zc (Bb1 HB.out GE408.out) hb); (try clear hb); (try clear hb2); (try clear hk); (try clear hi)))
      repeat (go_quiet (first | (go_at_call 76; (with_reducible refine (ih k1 (by have := HK1.out; omega) a0 ((rd_T32 l1_4 x5_1).f0) ((rd_T32 l1_4 x5_1).f1) ((rd_T32 l1_4 x5_1).f2) ((rd_T32 l1_4 x5_1).f3) _ _ ((rd_T32 l1_4 x5_1).f4) true _ ?side1 ?side2 A6.out).mono ?_); (case side1 => repeat (first | exact (Kd.C_below HR409_4.out HB.out) | (with_reducible refine Kd.C_alloc ?_ _) | (with_reducible refine Kd.C_drewN ?_ _) | (with_reducible refine Kd.C_drew ?_))); (case side2 => exact HC409_4.out); rintro e w9 ⟨rfl, hb⟩; replace BK408 := Qa (blk_below (g := gb408) (o := .cells #[.int .i64 a1_0, .int .i64 a1_1, .int .i64 a1_2, .int .i64 a1_3, .slice (some ad409) l1_4.length c1_4] 32 (0, 0)) (Ba BK408.out) hb); replace HB := Qa (Zc (Bb1 HB.out GE408.out) hb); (try clear hb); (try clear hb2); (try clear hk); (try clear hi))); try go_wp2_with (first | (go_at_call 76; (with_reducible refine (ih k1 (by have := HK1.out; omega) a0 ((rd_T32 l1_4 x5_1).f0) ((rd_T32 l1_4 x5_1).f1) ((rd_T32 l1_4 x5_1).f2) ((rd_T32 l1_4 x5_1).f3) _ _ ((rd_T32 l1_4 x5_1).f4) true _ ?side1 ?side2 A6.out).mono ?_); (case side1 => repeat (first | exact (Kd.C_below HR409_4.out HB.out) | (with_reducible refine Kd.C_alloc ?_ _) | (with_reducible refine Kd.C_drewN ?_ _) | (with_reducible refine Kd.C_drew ?_))); (case side2 => exact HC409_4.out); rintro e w9 ⟨rfl, hb⟩; replace BK408 := Qa (blk_below (g := gb408) (o := .cells #[.int .i64 a1_0, .int .i64 a1_1, .int .i64 a1_2, .int .i64 a1_3, .slice (some ad409) l1_4.length c1_4] 32 (0, 0)) (Ba BK408.out) hb); replace HB := Qa (Zc (Bb1 HB.out GE408.out) hb); (try clear hb); (try clear hb2); (try clear hk); (try clear hi))))
      go_roundg k1
      case measure => have := HK1.out; omega
      case rel => exact ⟨(wrap64 (x5_1 + 1)), (by first | rfl | (simp; done) | (simp [*]; done) | (simp; rw [Qx]; simp; done)), H', ⟨by have := HK1.out; omega⟩, ⟨Ba BK408.out⟩, ⟨Bb1 HB.out GE408.out⟩⟩
     ·replace c7 := Xe.mpr c7
      subst c7
      have H1 : (some false) = some r := by rw [if_neg (show ¬ (false = true) by decide)] at H; exact H
      clear H
      have H := H1
      clear H1
      obtain rfl := Qs H
      have q10_0 : wr.cell? ⟨gb408, 0, none⟩ = some (.int .i64 a1_0) := (Qb BK408.out 0).trans rfl
      have q10_1 : wr.cell? ⟨gb408, 1, none⟩ = some (.int .i64 a1_1) := (Qb BK408.out 1).trans rfl
      have q10_2 : wr.cell? ⟨gb408, 2, none⟩ = some (.int .i64 a1_2) := (Qb BK408.out 2).trans rfl
      have q10_3 : wr.cell? ⟨gb408, 3, none⟩ = some (.int .i64 a1_3) := (Qb BK408.out 3).trans rfl
      have q10_4 : wr.cell? ⟨gb408, 4, none⟩ = some (.slice A1_4 l1_4.length c1_4) := (Qb BK408.out 4).trans rfl
      have u10_0 := Qc BK408.out 0
      have u10_1 := Qc BK408.out 1
      have u10_2 := Qc BK408.out 2
      have u10_3 := Qc BK408.out 3
      have u10_4 := Qc BK408.out 4
      have p409 : 0 ≤ (x5_1 : Int) := of_decide_eq_true (by first | (with_reducible assumption) | assumption)
      have q409 : x5_1 < (l1_4.length : Int) := of_decide_eq_true (by first | (with_reducible assumption) | assumption)
      obtain ⟨ad409, A409_4, c409_4, e409, hx409_0, hx409_1, hx409_2, hx409_3, hx409_4, hl409_4, hi409_4⟩ := at_T32 HR1_4.out x5_1 p409 q409
      cases e409
      replace hx409_0 := (HB.out.cell (Qd w _ hx409_0)).trans hx409_0
      replace hx409_1 := (HB.out.cell (Qd w _ hx409_1)).trans hx409_1
      replace hx409_2 := (HB.out.cell (Qd w _ hx409_2)).trans hx409_2
      replace hx409_3 := (HB.out.cell (Qd w _ hx409_3)).trans hx409_3
      replace hx409_4 := (HB.out.cell (Qd w _ hx409_4)).trans hx409_4
      have HR409_4 := Qa hi409_4
      have HC409_4 := Qa hl409_4
      clear hi409_4 hl409_4
      replace p409 := eq_true p409
      replace q409 := eq_true q409
      go_wp2_with (first | (go_at_call 76; (with_reducible refine (ih k1 (by have := HK1.out; omega) a0 ((rd_T32 l1_4 x5_1).f0) ((rd_T32 l1_4 x5_1).f1) ((rd_T32 l1_4 x5_1).f2) ((rd_T32 l1_4 x5_1).f3) _ _ ((rd_T32 l1_4 x5_1).f4) false _ ?side1 ?side2 A6.out).mono ?_); (case side1 => repeat (first | exact (Kd.C_below HR409_4.out HB.out) | (with_reducible refine Kd.C_alloc ?_ _) | (with_reducible refine Kd.C_drewN ?_ _) | (with_reducible refine Kd.C_drew ?_))); (case side2 => exact HC409_4.out); rintro e w11 ⟨rfl, hb⟩; replace BK408 := Qa (blk_below (g := gb408) (o := .cells #[.int .i64 a1_0, .int .i64 a1_1, .int .i64 a1_2, .int .i64 a1_3, .slice (some ad409) l1_4.length c1_4] 32 (0, 0)) (Ba BK408.out) hb); replace HB := Qa (Zc (Bb1 HB.out GE408.out) hb); (try clear hb); (try clear hb2); (try clear hk); (try clear hi)))
      repeat (go_quiet (first | (go_at_call 76; (with_reducible refine (ih k1 (by have := HK1.out; omega) a0 ((rd_T32 l1_4 x5_1).f0) ((rd_T32 l1_4 x5_1).f1) ((rd_T32 l1_4 x5_1).f2) ((rd_T32 l1_4 x5_1).f3) _ _ ((rd_T32 l1_4 x5_1).f4) false _ ?side1 ?side2 A6.out).mono ?_); (case side1 => repeat (first | exact (Kd.C_below HR409_4.out HB.out) | (with_reducible refine Kd.C_alloc ?_ _) | (with_reducible refine Kd.C_drewN ?_ _) | (with_reducible refine Kd.C_drew ?_))); (case side2 => exact HC409_4.out); rintro e w11 ⟨rfl, hb⟩; replace BK408 := Qa (blk_below (g := gb408) (o := .cells #[.int .i64 a1_0, .int .i64 a1_1, .int .i64 a1_2, .int .i64 a1_3, .slice (some ad409) l1_4.length c1_4] 32 (0, 0)) (Ba BK408.out) hb); replace HB := Qa (Zc (Bb1 HB.out GE408.out) hb); (try clear hb); (try clear hb2); (try clear hk); (try clear hi))); try go_wp2_with (first | (go_at_call 76; (with_reducible refine (ih k1 (by have := HK1.out; omega) a0 ((rd_T32 l1_4 x5_1).f0) ((rd_T32 l1_4 x5_1).f1) ((rd_T32 l1_4 x5_1).f2) ((rd_T32 l1_4 x5_1).f3) _ _ ((rd_T32 l1_4 x5_1).f4) false _ ?side1 ?side2 A6.out).mono ?_); (case side1 => repeat (first | exact (Kd.C_below HR409_4.out HB.out) | (with_reducible refine Kd.C_alloc ?_ _) | (with_reducible refine Kd.C_drewN ?_ _) | (with_reducible refine Kd.C_drew ?_))); (case side2 => exact HC409_4.out); rintro e w11 ⟨rfl, hb⟩; replace BK408 := Qa (blk_below (g := gb408) (o := .cells #[.int .i64 a1_0, .int .i64 a1_1, .int .i64 a1_2, .int .i64 a1_3, .slice (some ad409) l1_4.length c1_4] 32 (0, 0)) (Ba BK408.out) hb); replace HB := Qa (Zc (Bb1 HB.out GE408.out) hb); (try clear hb); (try clear hb2); (try clear hk); (try clear hi))))
      go_ret
      exact ⟨by first | rfl | (simp [errW_none, errW_some] <;> rfl) | (simp [*, errW_none, errW_some] <;> rfl), by repeat (first | (with_reducible first | exact HB.out | apply below_alloc | apply pw_below_drewN | apply below_drew1 | refine below_set ?_ GE408.out) | exact HB.out)⟩
    ·rw [if_neg c5] at H
     exact absurd H (by simp)
   ·rw [if_neg c4] at H
    have c4b0 : decide (x5_1 < (l1_4.length : Int)) = false := decide_eq_false c4
    clear c4
    replace H := Qi.mp H
    obtain ⟨t411, A120, H⟩ := H
    replace H : (if a1_0 = 2 then (spec_l10Form.j1 k1 a0 t411 true a1_0 a1_1 a1_2 a1_3 l1_4) else (spec_l10Form.j1 k1 a0 t411 (a1_0 == 3) a1_0 a1_1 a1_2 a1_3 l1_4)) = some r := H
    have A12 := Qa A120
    clear A120
    have HC13 := Qa H
    clear H
    have q14_0 : wr.cell? ⟨gb408, 0, none⟩ = some (.int .i64 a1_0) := (Qb BK408.out 0).trans rfl
    have q14_1 : wr.cell? ⟨gb408, 1, none⟩ = some (.int .i64 a1_1) := (Qb BK408.out 1).trans rfl
    have q14_2 : wr.cell? ⟨gb408, 2, none⟩ = some (.int .i64 a1_2) := (Qb BK408.out 2).trans rfl
    have q14_3 : wr.cell? ⟨gb408, 3, none⟩ = some (.int .i64 a1_3) := (Qb BK408.out 3).trans rfl
    have q14_4 : wr.cell? ⟨gb408, 4, none⟩ = some (.slice A1_4 l1_4.length c1_4) := (Qb BK408.out 4).trans rfl
    have u14_0 := Qc BK408.out 0
    have u14_1 := Qc BK408.out 1
    have u14_2 := Qc BK408.out 2
    have u14_3 := Qc BK408.out 3
    have u14_4 := Qc BK408.out 4
    go_upto_region 7 with (first | (go_at_call 98; (with_reducible refine (spec_l10Uses.calls k1 a1_0 t411 _ A12.out).mono ?_); rintro e w' ⟨rfl, ⟨nd, rfl⟩⟩; (try first | exact ⟨rfl, _, Zs _ _ _⟩ | exact ⟨rfl, _, Eq.trans (Zs _ _ _) (congrArg (World.drewN _) (Nat.add_assoc _ _ _))⟩)))
    repeat (go_quiet (first | (go_at_call 98; (with_reducible refine (spec_l10Uses.calls k1 a1_0 t411 _ A12.out).mono ?_); rintro e w' ⟨rfl, ⟨nd, rfl⟩⟩; (try first | exact ⟨rfl, _, Zs _ _ _⟩ | exact ⟨rfl, _, Eq.trans (Zs _ _ _) (congrArg (World.drewN _) (Nat.add_assoc _ _ _))⟩))); go_upto_region 7 with (first | (go_at_call 98; (with_reducible refine (spec_l10Uses.calls k1 a1_0 t411 _ A12.out).mono ?_); rintro e w' ⟨rfl, ⟨nd, rfl⟩⟩; (try first | exact ⟨rfl, _, Zs _ _ _⟩ | exact ⟨rfl, _, Eq.trans (Zs _ _ _) (congrArg (World.drewN _) (Nat.add_assoc _ _ _))⟩))))
    (try simp only [Act.put, List.setIfInBounds_toArray, List.set_cons_zero, List.set_cons_succ])
    go_cut [7] (fun v7 wc => ∃ (kq : Nat) (x7_12 : Bool), v7 = .bool x7_12 ∧ Aside0 (spec_l10Form.j1 kq a0 t411 x7_12 a1_0 a1_1 a1_2 a1_3 l1_4 = some r) ∧ Aside0 (kq ≤ k1) ∧ Aside0 (wc.heap[gb408]? = some (.cells #[.int .i64 a1_0, .int .i64 a1_1, .int .i64 a1_2, .int .i64 a1_3, (.slice A1_4 l1_4.length c1_4)] 32 (0, 0))) ∧ Aside0 (Below w.heap.size w wc))
    case first =>
     have H := HC13.out
     clear HC13
     by_cases c15 : a1_0 = 2
     ·rw [if_pos c15] at H
      have c15b0 : (a1_0 == 2) = true := beq_iff_eq.mpr c15
      have c15b1 : (a1_0 != 2) = false := bne_eq_false_iff_eq.mpr c15
      clear c15
      (first | rw [c15b0] | (simp only [i64_w, i32_w]; rw [c15b0]) | skip)
      have H' := Qa H
      clear H
      have q16_0 : wr.cell? ⟨gb408, 0, none⟩ = some (.int .i64 a1_0) := (Qb BK408.out 0).trans rfl
      have q16_1 : wr.cell? ⟨gb408, 1, none⟩ = some (.int .i64 a1_1) := (Qb BK408.out 1).trans rfl
      have q16_2 : wr.cell? ⟨gb408, 2, none⟩ = some (.int .i64 a1_2) := (Qb BK408.out 2).trans rfl
      have q16_3 : wr.cell? ⟨gb408, 3, none⟩ = some (.int .i64 a1_3) := (Qb BK408.out 3).trans rfl
      have q16_4 : wr.cell? ⟨gb408, 4, none⟩ = some (.slice A1_4 l1_4.length c1_4) := (Qb BK408.out 4).trans rfl
      have u16_0 := Qc BK408.out 0
      have u16_1 := Qc BK408.out 1
      have u16_2 := Qc BK408.out 2
      have u16_3 := Qc BK408.out 3
      have u16_4 := Qc BK408.out 4
      go_wp2
      repeat (go_quiet (fail); try go_wp2)
      go_meet
      case rel => exact ⟨_, (true), (by first | rfl | (simp; done) | (simp [*]; done) | (simp; rw [Qx]; simp; done)), H', ⟨by have := HK1.out; first | omega | exact Zv _⟩, ⟨Ba BK408.out⟩, ⟨Bb1 HB.out GE408.out⟩⟩
     ·rw [if_neg c15] at H
      have c15b0 : (a1_0 == 2) = false := beq_eq_false_iff_ne.mpr c15
      have c15b1 : (a1_0 != 2) = true := bne_iff_ne.mpr c15
      (first | rw [c15b0] | (simp only [i64_w, i32_w]; rw [c15b0]) | skip)
      have H' := Qa H
      clear H
      have q17_0 : wr.cell? ⟨gb408, 0, none⟩ = some (.int .i64 a1_0) := (Qb BK408.out 0).trans rfl
      have q17_1 : wr.cell? ⟨gb408, 1, none⟩ = some (.int .i64 a1_1) := (Qb BK408.out 1).trans rfl
      have q17_2 : wr.cell? ⟨gb408, 2, none⟩ = some (.int .i64 a1_2) := (Qb BK408.out 2).trans rfl
      have q17_3 : wr.cell? ⟨gb408, 3, none⟩ = some (.int .i64 a1_3) := (Qb BK408.out 3).trans rfl
      have q17_4 : wr.cell? ⟨gb408, 4, none⟩ = some (.slice A1_4 l1_4.length c1_4) := (Qb BK408.out 4).trans rfl
      have u17_0 := Qc BK408.out 0
      have u17_1 := Qc BK408.out 1
      have u17_2 := Qc BK408.out 2
      have u17_3 := Qc BK408.out 3
      have u17_4 := Qc BK408.out 4
      go_wp2
      repeat (go_quiet (fail); try go_wp2)
      go_meet
      case rel => exact ⟨_, ((a1_0 == 3)), (by first | rfl | (simp; done) | (simp [*]; done) | (simp; rw [Qx]; simp; done)), H', ⟨by have := HK1.out; first | omega | exact Zv _⟩, ⟨Ba BK408.out⟩, ⟨Bb1 HB.out GE408.out⟩⟩
    case rest =>
     clear HC13
     try clear c1
     try clear p2
     try clear c4
     try clear c4b0
     try clear p4
     try clear q4
     try clear hx4
     try clear c5
     try clear c5b0
     try clear p6
     try clear c7
     try clear c15
     try clear c15b0
     try clear c15b1
     try clear q10_0
     try clear q10_1
     try clear q10_2
     try clear q10_3
     try clear q10_4
     try clear q14_0
     try clear q14_1
     try clear q14_2
     try clear q14_3
     try clear q14_4
     try clear q16_0
     try clear q16_1
     try clear q16_2
     try clear q16_3
     try clear q16_4
     try clear q17_0
     try clear q17_1
     try clear q17_2
     try clear q17_3
     try clear q17_4
     try clear q8_0
     try clear q8_1
     try clear q8_2
     try clear q8_3
     try clear q8_4
     try clear u10_0
     try clear u10_1
     try clear u10_2
     try clear u10_3
     try clear u10_4
     try clear u14_0
     try clear u14_1
     try clear u14_2
     try clear u14_3
     try clear u14_4
     try clear u16_0
     try clear u16_1
     try clear u16_2
     try clear u16_3
     try clear u16_4
     try clear u17_0
     try clear u17_1
     try clear u17_2
     try clear u17_3
     try clear u17_4
     try clear u8_0
     try clear u8_1
     try clear u8_2
     try clear u8_3
     try clear u8_4
     try clear hx409_0
     try clear hx409_1
     try clear hx409_2
     try clear hx409_3
     try clear hx409_4
     try clear p2
     try clear p409
     try clear q409
     obtain ⟨kq, x7_12, rfl, HA, HJ12, BK408, HB⟩ := hcut
     cases kq with
     | zero => exact absurd HA.out (by simp [spec_l10Form.j1])
     | succ kj12 =>
      have H := HA.out
      clear HA
      simp only [spec_l10Form.j1] at H
      have HC18 := Qa H
      clear H
      go_upto_region 8 with (fail)
      repeat (go_quiet (fail); go_upto_region 8 with (fail))
      go_cut [72] (fun v72 wc => ∃ (kq : Nat) (x72_17 : Bool), v72 = .bool x72_17 ∧ Aside0 (spec_l10Form.j2 kq x72_17 a1_0 a1_1 a1_2 a1_3 l1_4 = some r) ∧ Aside0 (kq ≤ kj12) ∧ Aside0 (wc.heap[gb408]? = some (.cells #[.int .i64 a1_0, .int .i64 a1_1, .int .i64 a1_2, .int .i64 a1_3, (.slice A1_4 l1_4.length c1_4)] 32 (0, 0))) ∧ Aside0 (Below w.heap.size w wc))
      case first =>
       have H := HC18.out
       clear HC18
       by_cases c19 : t411 < 1
       ·rw [if_pos c19] at H
        have c19b0 : decide (t411 < 1) = true := decide_eq_true c19
        clear c19
        (first | rw [c19b0] | (simp only [i64_w, i32_w]; rw [c19b0]) | skip)
        by_cases c20 : a1_2 = 0
        ·rw [if_pos c20] at H
         have c20b0 : (a1_2 == 0) = true := beq_iff_eq.mpr c20
         have c20b1 : (a1_2 != 0) = false := bne_eq_false_iff_eq.mpr c20
         clear c20
         by_cases c21 : t411 < 2
         ·rw [if_pos c21] at H
          have c21b0 : decide (t411 < 2) = true := decide_eq_true c21
          clear c21
          by_cases c22 : a1_3 = 0
          ·rw [if_pos c22] at H
           have c22b0 : (a1_3 == 0) = true := beq_iff_eq.mpr c22
           have c22b1 : (a1_3 != 0) = false := bne_eq_false_iff_eq.mpr c22
           clear c22
           by_cases c23 : x7_12 = true
           ·subst c23
            have H1 : (if a1_1 < 0 then (spec_l10Form.j2 kj12 true a1_0 a1_1 a1_2 a1_3 l1_4) else (spec_l10Form.j2 kj12 (decide (a1_1 ≥ a0)) a1_0 a1_1 a1_2 a1_3 l1_4)) = some r := by rw [if_pos rfl] at H; exact H
            clear H
            have H := H1
            clear H1
            by_cases c24 : a1_1 < 0
            ·rw [if_pos c24] at H
             have c24b0 : decide (a1_1 < 0) = true := decide_eq_true c24
             clear c24
             have H' := Qa H
             clear H
             have q25_0 : wc.cell? ⟨gb408, 0, none⟩ = some (.int .i64 a1_0) := (Qb BK408.out 0).trans rfl
             have q25_1 : wc.cell? ⟨gb408, 1, none⟩ = some (.int .i64 a1_1) := (Qb BK408.out 1).trans rfl
             have q25_2 : wc.cell? ⟨gb408, 2, none⟩ = some (.int .i64 a1_2) := (Qb BK408.out 2).trans rfl
             have q25_3 : wc.cell? ⟨gb408, 3, none⟩ = some (.int .i64 a1_3) := (Qb BK408.out 3).trans rfl
             have q25_4 : wc.cell? ⟨gb408, 4, none⟩ = some (.slice A1_4 l1_4.length c1_4) := (Qb BK408.out 4).trans rfl
             have u25_0 := Qc BK408.out 0
             have u25_1 := Qc BK408.out 1
             have u25_2 := Qc BK408.out 2
             have u25_3 := Qc BK408.out 3
             have u25_4 := Qc BK408.out 4
             go_wp2
             repeat (go_quiet (fail); try go_wp2)
             go_meet
             case rel => exact ⟨_, (true), (by first | rfl | (simp; done) | (simp [*]; done) | (simp; rw [Qx]; simp; done)), H', ⟨by have := HK1.out; have := HJ12.out; first | omega | exact Zv _⟩, ⟨Ba BK408.out⟩, ⟨Bb1 HB.out GE408.out⟩⟩
            ·rw [if_neg c24] at H
             have c24b0 : decide (a1_1 < 0) = false := decide_eq_false c24
             clear c24
             have H' := Qa H
             clear H
             have q26_0 : wc.cell? ⟨gb408, 0, none⟩ = some (.int .i64 a1_0) := (Qb BK408.out 0).trans rfl
             have q26_1 : wc.cell? ⟨gb408, 1, none⟩ = some (.int .i64 a1_1) := (Qb BK408.out 1).trans rfl
             have q26_2 : wc.cell? ⟨gb408, 2, none⟩ = some (.int .i64 a1_2) := (Qb BK408.out 2).trans rfl
             have q26_3 : wc.cell? ⟨gb408, 3, none⟩ = some (.int .i64 a1_3) := (Qb BK408.out 3).trans rfl
             have q26_4 : wc.cell? ⟨gb408, 4, none⟩ = some (.slice A1_4 l1_4.length c1_4) := (Qb BK408.out 4).trans rfl
             have u26_0 := Qc BK408.out 0
             have u26_1 := Qc BK408.out 1
             have u26_2 := Qc BK408.out 2
             have u26_3 := Qc BK408.out 3
             have u26_4 := Qc BK408.out 4
             go_wp2
             repeat (go_quiet (fail); try go_wp2)
             go_meet
             case rel => exact ⟨_, (decide (a1_1 ≥ a0)), (by first | rfl | (simp; done) | (simp [*]; done) | (simp; rw [Qx]; simp; done)), H', ⟨by have := HK1.out; have := HJ12.out; first | omega | exact Zv _⟩, ⟨Ba BK408.out⟩, ⟨Bb1 HB.out GE408.out⟩⟩
           ·replace c23 := Xe.mpr c23
            subst c23
            have H1 : (if a1_1 = 0 then (spec_l10Form.j2 kj12 false a1_0 a1_1 a1_2 a1_3 l1_4) else (spec_l10Form.j2 kj12 true a1_0 a1_1 a1_2 a1_3 l1_4)) = some r := by rw [if_neg (show ¬ (false = true) by decide)] at H; exact H
            clear H
            have H := H1
            clear H1
            by_cases c27 : a1_1 = 0
            ·rw [if_pos c27] at H
             have c27b0 : (a1_1 == 0) = true := beq_iff_eq.mpr c27
             have c27b1 : (a1_1 != 0) = false := bne_eq_false_iff_eq.mpr c27
             clear c27
             have H' := Qa H
             clear H
             have q28_0 : wc.cell? ⟨gb408, 0, none⟩ = some (.int .i64 a1_0) := (Qb BK408.out 0).trans rfl
             have q28_1 : wc.cell? ⟨gb408, 1, none⟩ = some (.int .i64 a1_1) := (Qb BK408.out 1).trans rfl
             have q28_2 : wc.cell? ⟨gb408, 2, none⟩ = some (.int .i64 a1_2) := (Qb BK408.out 2).trans rfl
             have q28_3 : wc.cell? ⟨gb408, 3, none⟩ = some (.int .i64 a1_3) := (Qb BK408.out 3).trans rfl
             have q28_4 : wc.cell? ⟨gb408, 4, none⟩ = some (.slice A1_4 l1_4.length c1_4) := (Qb BK408.out 4).trans rfl
             have u28_0 := Qc BK408.out 0
             have u28_1 := Qc BK408.out 1
             have u28_2 := Qc BK408.out 2
             have u28_3 := Qc BK408.out 3
             have u28_4 := Qc BK408.out 4
             go_wp2
             repeat (go_quiet (fail); try go_wp2)
             go_meet
             case rel => exact ⟨_, (false), (by first | rfl | (simp; done) | (simp [*]; done) | (simp; rw [Qx]; simp; done)), H', ⟨by have := HK1.out; have := HJ12.out; first | omega | exact Zv _⟩, ⟨Ba BK408.out⟩, ⟨Bb1 HB.out GE408.out⟩⟩
            ·rw [if_neg c27] at H
             have c27b0 : (a1_1 == 0) = false := beq_eq_false_iff_ne.mpr c27
             have c27b1 : (a1_1 != 0) = true := bne_iff_ne.mpr c27
             have H' := Qa H
             clear H
             have q29_0 : wc.cell? ⟨gb408, 0, none⟩ = some (.int .i64 a1_0) := (Qb BK408.out 0).trans rfl
             have q29_1 : wc.cell? ⟨gb408, 1, none⟩ = some (.int .i64 a1_1) := (Qb BK408.out 1).trans rfl
             have q29_2 : wc.cell? ⟨gb408, 2, none⟩ = some (.int .i64 a1_2) := (Qb BK408.out 2).trans rfl
             have q29_3 : wc.cell? ⟨gb408, 3, none⟩ = some (.int .i64 a1_3) := (Qb BK408.out 3).trans rfl
             have q29_4 : wc.cell? ⟨gb408, 4, none⟩ = some (.slice A1_4 l1_4.length c1_4) := (Qb BK408.out 4).trans rfl
             have u29_0 := Qc BK408.out 0
             have u29_1 := Qc BK408.out 1
             have u29_2 := Qc BK408.out 2
             have u29_3 := Qc BK408.out 3
             have u29_4 := Qc BK408.out 4
             go_wp2
             repeat (go_quiet (fail); try go_wp2)
             go_meet
             case rel => exact ⟨_, (true), (by first | rfl | (simp; done) | (simp [*]; done) | (simp; rw [Qx]; simp; done)), H', ⟨by have := HK1.out; have := HJ12.out; first | omega | exact Zv _⟩, ⟨Ba BK408.out⟩, ⟨Bb1 HB.out GE408.out⟩⟩
          ·rw [if_neg c22] at H
           have c22b0 : (a1_3 == 0) = false := beq_eq_false_iff_ne.mpr c22
           have c22b1 : (a1_3 != 0) = true := bne_iff_ne.mpr c22
           have H' := Qa H
           clear H
           have q30_0 : wc.cell? ⟨gb408, 0, none⟩ = some (.int .i64 a1_0) := (Qb BK408.out 0).trans rfl
           have q30_1 : wc.cell? ⟨gb408, 1, none⟩ = some (.int .i64 a1_1) := (Qb BK408.out 1).trans rfl
           have q30_2 : wc.cell? ⟨gb408, 2, none⟩ = some (.int .i64 a1_2) := (Qb BK408.out 2).trans rfl
           have q30_3 : wc.cell? ⟨gb408, 3, none⟩ = some (.int .i64 a1_3) := (Qb BK408.out 3).trans rfl
           have q30_4 : wc.cell? ⟨gb408, 4, none⟩ = some (.slice A1_4 l1_4.length c1_4) := (Qb BK408.out 4).trans rfl
           have u30_0 := Qc BK408.out 0
           have u30_1 := Qc BK408.out 1
           have u30_2 := Qc BK408.out 2
           have u30_3 := Qc BK408.out 3
           have u30_4 := Qc BK408.out 4
           go_wp2
           repeat (go_quiet (fail); try go_wp2)
           go_meet
           case rel => exact ⟨_, (true), (by first | rfl | (simp; done) | (simp [*]; done) | (simp; rw [Qx]; simp; done)), H', ⟨by have := HK1.out; have := HJ12.out; first | omega | exact Zv _⟩, ⟨Ba BK408.out⟩, ⟨Bb1 HB.out GE408.out⟩⟩
         ·rw [if_neg c21] at H
          have c21b0 : decide (t411 < 2) = false := decide_eq_false c21
          clear c21
          by_cases c31 : x7_12 = true
          ·subst c31
           have H1 : (if a1_1 < 0 then (spec_l10Form.j2 kj12 true a1_0 a1_1 a1_2 a1_3 l1_4) else (spec_l10Form.j2 kj12 (decide (a1_1 ≥ a0)) a1_0 a1_1 a1_2 a1_3 l1_4)) = some r := by rw [if_pos rfl] at H; exact H
           clear H
           have H := H1
           clear H1
           by_cases c32 : a1_1 < 0
           ·rw [if_pos c32] at H
            have c32b0 : decide (a1_1 < 0) = true := decide_eq_true c32
            clear c32
            have H' := Qa H
            clear H
            have q33_0 : wc.cell? ⟨gb408, 0, none⟩ = some (.int .i64 a1_0) := (Qb BK408.out 0).trans rfl
            have q33_1 : wc.cell? ⟨gb408, 1, none⟩ = some (.int .i64 a1_1) := (Qb BK408.out 1).trans rfl
            have q33_2 : wc.cell? ⟨gb408, 2, none⟩ = some (.int .i64 a1_2) := (Qb BK408.out 2).trans rfl
            have q33_3 : wc.cell? ⟨gb408, 3, none⟩ = some (.int .i64 a1_3) := (Qb BK408.out 3).trans rfl
            have q33_4 : wc.cell? ⟨gb408, 4, none⟩ = some (.slice A1_4 l1_4.length c1_4) := (Qb BK408.out 4).trans rfl
            have u33_0 := Qc BK408.out 0
            have u33_1 := Qc BK408.out 1
            have u33_2 := Qc BK408.out 2
            have u33_3 := Qc BK408.out 3
            have u33_4 := Qc BK408.out 4
            go_wp2
            repeat (go_quiet (fail); try go_wp2)
            go_meet
            case rel => exact ⟨_, (true), (by first | rfl | (simp; done) | (simp [*]; done) | (simp; rw [Qx]; simp; done)), H', ⟨by have := HK1.out; have := HJ12.out; first | omega | exact Zv _⟩, ⟨Ba BK408.out⟩, ⟨Bb1 HB.out GE408.out⟩⟩
           ·rw [if_neg c32] at H
            have c32b0 : decide (a1_1 < 0) = false := decide_eq_false c32
            clear c32
            have H' := Qa H
            clear H
            have q34_0 : wc.cell? ⟨gb408, 0, none⟩ = some (.int .i64 a1_0) := (Qb BK408.out 0).trans rfl
            have q34_1 : wc.cell? ⟨gb408, 1, none⟩ = some (.int .i64 a1_1) := (Qb BK408.out 1).trans rfl
            have q34_2 : wc.cell? ⟨gb408, 2, none⟩ = some (.int .i64 a1_2) := (Qb BK408.out 2).trans rfl
            have q34_3 : wc.cell? ⟨gb408, 3, none⟩ = some (.int .i64 a1_3) := (Qb BK408.out 3).trans rfl
            have q34_4 : wc.cell? ⟨gb408, 4, none⟩ = some (.slice A1_4 l1_4.length c1_4) := (Qb BK408.out 4).trans rfl
            have u34_0 := Qc BK408.out 0
            have u34_1 := Qc BK408.out 1
            have u34_2 := Qc BK408.out 2
            have u34_3 := Qc BK408.out 3
            have u34_4 := Qc BK408.out 4
            go_wp2
            repeat (go_quiet (fail); try go_wp2)
            go_meet
            case rel => exact ⟨_, (decide (a1_1 ≥ a0)), (by first | rfl | (simp; done) | (simp [*]; done) | (simp; rw [Qx]; simp; done)), H', ⟨by have := HK1.out; have := HJ12.out; first | omega | exact Zv _⟩, ⟨Ba BK408.out⟩, ⟨Bb1 HB.out GE408.out⟩⟩
          ·replace c31 := Xe.mpr c31
           subst c31
           have H1 : (if a1_1 = 0 then (spec_l10Form.j2 kj12 false a1_0 a1_1 a1_2 a1_3 l1_4) else (spec_l10Form.j2 kj12 true a1_0 a1_1 a1_2 a1_3 l1_4)) = some r := by rw [if_neg (show ¬ (false = true) by decide)] at H; exact H
           clear H
           have H := H1
           clear H1
           by_cases c35 : a1_1 = 0
           ·rw [if_pos c35] at H
            have c35b0 : (a1_1 == 0) = true := beq_iff_eq.mpr c35
            have c35b1 : (a1_1 != 0) = false := bne_eq_false_iff_eq.mpr c35
            clear c35
            have H' := Qa H
            clear H
            have q36_0 : wc.cell? ⟨gb408, 0, none⟩ = some (.int .i64 a1_0) := (Qb BK408.out 0).trans rfl
            have q36_1 : wc.cell? ⟨gb408, 1, none⟩ = some (.int .i64 a1_1) := (Qb BK408.out 1).trans rfl
            have q36_2 : wc.cell? ⟨gb408, 2, none⟩ = some (.int .i64 a1_2) := (Qb BK408.out 2).trans rfl
            have q36_3 : wc.cell? ⟨gb408, 3, none⟩ = some (.int .i64 a1_3) := (Qb BK408.out 3).trans rfl
            have q36_4 : wc.cell? ⟨gb408, 4, none⟩ = some (.slice A1_4 l1_4.length c1_4) := (Qb BK408.out 4).trans rfl
            have u36_0 := Qc BK408.out 0
            have u36_1 := Qc BK408.out 1
            have u36_2 := Qc BK408.out 2
            have u36_3 := Qc BK408.out 3
            have u36_4 := Qc BK408.out 4
            go_wp2
            repeat (go_quiet (fail); try go_wp2)
            go_meet
            case rel => exact ⟨_, (false), (by first | rfl | (simp; done) | (simp [*]; done) | (simp; rw [Qx]; simp; done)), H', ⟨by have := HK1.out; have := HJ12.out; first | omega | exact Zv _⟩, ⟨Ba BK408.out⟩, ⟨Bb1 HB.out GE408.out⟩⟩
           ·rw [if_neg c35] at H
            have c35b0 : (a1_1 == 0) = false := beq_eq_false_iff_ne.mpr c35
            have c35b1 : (a1_1 != 0) = true := bne_iff_ne.mpr c35
            have H' := Qa H
            clear H
            have q37_0 : wc.cell? ⟨gb408, 0, none⟩ = some (.int .i64 a1_0) := (Qb BK408.out 0).trans rfl
            have q37_1 : wc.cell? ⟨gb408, 1, none⟩ = some (.int .i64 a1_1) := (Qb BK408.out 1).trans rfl
            have q37_2 : wc.cell? ⟨gb408, 2, none⟩ = some (.int .i64 a1_2) := (Qb BK408.out 2).trans rfl
            have q37_3 : wc.cell? ⟨gb408, 3, none⟩ = some (.int .i64 a1_3) := (Qb BK408.out 3).trans rfl
            have q37_4 : wc.cell? ⟨gb408, 4, none⟩ = some (.slice A1_4 l1_4.length c1_4) := (Qb BK408.out 4).trans rfl
            have u37_0 := Qc BK408.out 0
            have u37_1 := Qc BK408.out 1
            have u37_2 := Qc BK408.out 2
            have u37_3 := Qc BK408.out 3
            have u37_4 := Qc BK408.out 4
            go_wp2
            repeat (go_quiet (fail); try go_wp2)
            go_meet
            case rel => exact ⟨_, (true), (by first | rfl | (simp; done) | (simp [*]; done) | (simp; rw [Qx]; simp; done)), H', ⟨by have := HK1.out; have := HJ12.out; first | omega | exact Zv _⟩, ⟨Ba BK408.out⟩, ⟨Bb1 HB.out GE408.out⟩⟩
        ·rw [if_neg c20] at H
         have c20b0 : (a1_2 == 0) = false := beq_eq_false_iff_ne.mpr c20
         have c20b1 : (a1_2 != 0) = true := bne_iff_ne.mpr c20
         have H' := Qa H
         clear H
         have q38_0 : wc.cell? ⟨gb408, 0, none⟩ = some (.int .i64 a1_0) := (Qb BK408.out 0).trans rfl
         have q38_1 : wc.cell? ⟨gb408, 1, none⟩ = some (.int .i64 a1_1) := (Qb BK408.out 1).trans rfl
         have q38_2 : wc.cell? ⟨gb408, 2, none⟩ = some (.int .i64 a1_2) := (Qb BK408.out 2).trans rfl
         have q38_3 : wc.cell? ⟨gb408, 3, none⟩ = some (.int .i64 a1_3) := (Qb BK408.out 3).trans rfl
         have q38_4 : wc.cell? ⟨gb408, 4, none⟩ = some (.slice A1_4 l1_4.length c1_4) := (Qb BK408.out 4).trans rfl
         have u38_0 := Qc BK408.out 0
         have u38_1 := Qc BK408.out 1
         have u38_2 := Qc BK408.out 2
         have u38_3 := Qc BK408.out 3
         have u38_4 := Qc BK408.out 4
         go_wp2
         repeat (go_quiet (fail); try go_wp2)
         go_meet
         case rel => exact ⟨_, (true), (by first | rfl | (simp; done) | (simp [*]; done) | (simp; rw [Qx]; simp; done)), H', ⟨by have := HK1.out; have := HJ12.out; first | omega | exact Zv _⟩, ⟨Ba BK408.out⟩, ⟨Bb1 HB.out GE408.out⟩⟩
       ·rw [if_neg c19] at H
        have c19b0 : decide (t411 < 1) = false := decide_eq_false c19
        clear c19
        (first | rw [c19b0] | (simp only [i64_w, i32_w]; rw [c19b0]) | skip)
        by_cases c39 : t411 < 2
        ·rw [if_pos c39] at H
         have c39b0 : decide (t411 < 2) = true := decide_eq_true c39
         clear c39
         by_cases c40 : a1_3 = 0
         ·rw [if_pos c40] at H
          have c40b0 : (a1_3 == 0) = true := beq_iff_eq.mpr c40
          have c40b1 : (a1_3 != 0) = false := bne_eq_false_iff_eq.mpr c40
          clear c40
          by_cases c41 : x7_12 = true
          ·subst c41
           have H1 : (if a1_1 < 0 then (spec_l10Form.j2 kj12 true a1_0 a1_1 a1_2 a1_3 l1_4) else (spec_l10Form.j2 kj12 (decide (a1_1 ≥ a0)) a1_0 a1_1 a1_2 a1_3 l1_4)) = some r := by rw [if_pos rfl] at H; exact H
           clear H
           have H := H1
           clear H1
           by_cases c42 : a1_1 < 0
           ·rw [if_pos c42] at H
            have c42b0 : decide (a1_1 < 0) = true := decide_eq_true c42
            clear c42
            have H' := Qa H
            clear H
            have q43_0 : wc.cell? ⟨gb408, 0, none⟩ = some (.int .i64 a1_0) := (Qb BK408.out 0).trans rfl
            have q43_1 : wc.cell? ⟨gb408, 1, none⟩ = some (.int .i64 a1_1) := (Qb BK408.out 1).trans rfl
            have q43_2 : wc.cell? ⟨gb408, 2, none⟩ = some (.int .i64 a1_2) := (Qb BK408.out 2).trans rfl
            have q43_3 : wc.cell? ⟨gb408, 3, none⟩ = some (.int .i64 a1_3) := (Qb BK408.out 3).trans rfl
            have q43_4 : wc.cell? ⟨gb408, 4, none⟩ = some (.slice A1_4 l1_4.length c1_4) := (Qb BK408.out 4).trans rfl
            have u43_0 := Qc BK408.out 0
            have u43_1 := Qc BK408.out 1
            have u43_2 := Qc BK408.out 2
            have u43_3 := Qc BK408.out 3
            have u43_4 := Qc BK408.out 4
            go_wp2
            repeat (go_quiet (fail); try go_wp2)
            go_meet
            case rel => exact ⟨_, (true), (by first | rfl | (simp; done) | (simp [*]; done) | (simp; rw [Qx]; simp; done)), H', ⟨by have := HK1.out; have := HJ12.out; first | omega | exact Zv _⟩, ⟨Ba BK408.out⟩, ⟨Bb1 HB.out GE408.out⟩⟩
           ·rw [if_neg c42] at H
            have c42b0 : decide (a1_1 < 0) = false := decide_eq_false c42
            clear c42
            have H' := Qa H
            clear H
            have q44_0 : wc.cell? ⟨gb408, 0, none⟩ = some (.int .i64 a1_0) := (Qb BK408.out 0).trans rfl
            have q44_1 : wc.cell? ⟨gb408, 1, none⟩ = some (.int .i64 a1_1) := (Qb BK408.out 1).trans rfl
            have q44_2 : wc.cell? ⟨gb408, 2, none⟩ = some (.int .i64 a1_2) := (Qb BK408.out 2).trans rfl
            have q44_3 : wc.cell? ⟨gb408, 3, none⟩ = some (.int .i64 a1_3) := (Qb BK408.out 3).trans rfl
            have q44_4 : wc.cell? ⟨gb408, 4, none⟩ = some (.slice A1_4 l1_4.length c1_4) := (Qb BK408.out 4).trans rfl
            have u44_0 := Qc BK408.out 0
            have u44_1 := Qc BK408.out 1
            have u44_2 := Qc BK408.out 2
            have u44_3 := Qc BK408.out 3
            have u44_4 := Qc BK408.out 4
            go_wp2
            repeat (go_quiet (fail); try go_wp2)
            go_meet
            case rel => exact ⟨_, (decide (a1_1 ≥ a0)), (by first | rfl | (simp; done) | (simp [*]; done) | (simp; rw [Qx]; simp; done)), H', ⟨by have := HK1.out; have := HJ12.out; first | omega | exact Zv _⟩, ⟨Ba BK408.out⟩, ⟨Bb1 HB.out GE408.out⟩⟩
          ·replace c41 := Xe.mpr c41
           subst c41
           have H1 : (if a1_1 = 0 then (spec_l10Form.j2 kj12 false a1_0 a1_1 a1_2 a1_3 l1_4) else (spec_l10Form.j2 kj12 true a1_0 a1_1 a1_2 a1_3 l1_4)) = some r := by rw [if_neg (show ¬ (false = true) by decide)] at H; exact H
           clear H
           have H := H1
           clear H1
           by_cases c45 : a1_1 = 0
           ·rw [if_pos c45] at H
            have c45b0 : (a1_1 == 0) = true := beq_iff_eq.mpr c45
            have c45b1 : (a1_1 != 0) = false := bne_eq_false_iff_eq.mpr c45
            clear c45
            have H' := Qa H
            clear H
            have q46_0 : wc.cell? ⟨gb408, 0, none⟩ = some (.int .i64 a1_0) := (Qb BK408.out 0).trans rfl
            have q46_1 : wc.cell? ⟨gb408, 1, none⟩ = some (.int .i64 a1_1) := (Qb BK408.out 1).trans rfl
            have q46_2 : wc.cell? ⟨gb408, 2, none⟩ = some (.int .i64 a1_2) := (Qb BK408.out 2).trans rfl
            have q46_3 : wc.cell? ⟨gb408, 3, none⟩ = some (.int .i64 a1_3) := (Qb BK408.out 3).trans rfl
            have q46_4 : wc.cell? ⟨gb408, 4, none⟩ = some (.slice A1_4 l1_4.length c1_4) := (Qb BK408.out 4).trans rfl
            have u46_0 := Qc BK408.out 0
            have u46_1 := Qc BK408.out 1
            have u46_2 := Qc BK408.out 2
            have u46_3 := Qc BK408.out 3
            have u46_4 := Qc BK408.out 4
            go_wp2
            repeat (go_quiet (fail); try go_wp2)
            go_meet
            case rel => exact ⟨_, (false), (by first | rfl | (simp; done) | (simp [*]; done) | (simp; rw [Qx]; simp; done)), H', ⟨by have := HK1.out; have := HJ12.out; first | omega | exact Zv _⟩, ⟨Ba BK408.out⟩, ⟨Bb1 HB.out GE408.out⟩⟩
           ·rw [if_neg c45] at H
            have c45b0 : (a1_1 == 0) = false := beq_eq_false_iff_ne.mpr c45
            have c45b1 : (a1_1 != 0) = true := bne_iff_ne.mpr c45
            have H' := Qa H
            clear H
            have q47_0 : wc.cell? ⟨gb408, 0, none⟩ = some (.int .i64 a1_0) := (Qb BK408.out 0).trans rfl
            have q47_1 : wc.cell? ⟨gb408, 1, none⟩ = some (.int .i64 a1_1) := (Qb BK408.out 1).trans rfl
            have q47_2 : wc.cell? ⟨gb408, 2, none⟩ = some (.int .i64 a1_2) := (Qb BK408.out 2).trans rfl
            have q47_3 : wc.cell? ⟨gb408, 3, none⟩ = some (.int .i64 a1_3) := (Qb BK408.out 3).trans rfl
            have q47_4 : wc.cell? ⟨gb408, 4, none⟩ = some (.slice A1_4 l1_4.length c1_4) := (Qb BK408.out 4).trans rfl
            have u47_0 := Qc BK408.out 0
            have u47_1 := Qc BK408.out 1
            have u47_2 := Qc BK408.out 2
            have u47_3 := Qc BK408.out 3
            have u47_4 := Qc BK408.out 4
            go_wp2
            repeat (go_quiet (fail); try go_wp2)
            go_meet
            case rel => exact ⟨_, (true), (by first | rfl | (simp; done) | (simp [*]; done) | (simp; rw [Qx]; simp; done)), H', ⟨by have := HK1.out; have := HJ12.out; first | omega | exact Zv _⟩, ⟨Ba BK408.out⟩, ⟨Bb1 HB.out GE408.out⟩⟩
         ·rw [if_neg c40] at H
          have c40b0 : (a1_3 == 0) = false := beq_eq_false_iff_ne.mpr c40
          have c40b1 : (a1_3 != 0) = true := bne_iff_ne.mpr c40
          have H' := Qa H
          clear H
          have q48_0 : wc.cell? ⟨gb408, 0, none⟩ = some (.int .i64 a1_0) := (Qb BK408.out 0).trans rfl
          have q48_1 : wc.cell? ⟨gb408, 1, none⟩ = some (.int .i64 a1_1) := (Qb BK408.out 1).trans rfl
          have q48_2 : wc.cell? ⟨gb408, 2, none⟩ = some (.int .i64 a1_2) := (Qb BK408.out 2).trans rfl
          have q48_3 : wc.cell? ⟨gb408, 3, none⟩ = some (.int .i64 a1_3) := (Qb BK408.out 3).trans rfl
          have q48_4 : wc.cell? ⟨gb408, 4, none⟩ = some (.slice A1_4 l1_4.length c1_4) := (Qb BK408.out 4).trans rfl
          have u48_0 := Qc BK408.out 0
          have u48_1 := Qc BK408.out 1
          have u48_2 := Qc BK408.out 2
          have u48_3 := Qc BK408.out 3
          have u48_4 := Qc BK408.out 4
          go_wp2
          repeat (go_quiet (fail); try go_wp2)
          go_meet
          case rel => exact ⟨_, (true), (by first | rfl | (simp; done) | (simp [*]; done) | (simp; rw [Qx]; simp; done)), H', ⟨by have := HK1.out; have := HJ12.out; first | omega | exact Zv _⟩, ⟨Ba BK408.out⟩, ⟨Bb1 HB.out GE408.out⟩⟩
        ·rw [if_neg c39] at H
         have c39b0 : decide (t411 < 2) = false := decide_eq_false c39
         clear c39
         by_cases c49 : x7_12 = true
         ·subst c49
          have H1 : (if a1_1 < 0 then (spec_l10Form.j2 kj12 true a1_0 a1_1 a1_2 a1_3 l1_4) else (spec_l10Form.j2 kj12 (decide (a1_1 ≥ a0)) a1_0 a1_1 a1_2 a1_3 l1_4)) = some r := by rw [if_pos rfl] at H; exact H
          clear H
          have H := H1
          clear H1
          by_cases c50 : a1_1 < 0
          ·rw [if_pos c50] at H
           have c50b0 : decide (a1_1 < 0) = true := decide_eq_true c50
           clear c50
           have H' := Qa H
           clear H
           have q51_0 : wc.cell? ⟨gb408, 0, none⟩ = some (.int .i64 a1_0) := (Qb BK408.out 0).trans rfl
           have q51_1 : wc.cell? ⟨gb408, 1, none⟩ = some (.int .i64 a1_1) := (Qb BK408.out 1).trans rfl
           have q51_2 : wc.cell? ⟨gb408, 2, none⟩ = some (.int .i64 a1_2) := (Qb BK408.out 2).trans rfl
           have q51_3 : wc.cell? ⟨gb408, 3, none⟩ = some (.int .i64 a1_3) := (Qb BK408.out 3).trans rfl
           have q51_4 : wc.cell? ⟨gb408, 4, none⟩ = some (.slice A1_4 l1_4.length c1_4) := (Qb BK408.out 4).trans rfl
           have u51_0 := Qc BK408.out 0
           have u51_1 := Qc BK408.out 1
           have u51_2 := Qc BK408.out 2
           have u51_3 := Qc BK408.out 3
           have u51_4 := Qc BK408.out 4
           go_wp2
           repeat (go_quiet (fail); try go_wp2)
           go_meet
           case rel => exact ⟨_, (true), (by first | rfl | (simp; done) | (simp [*]; done) | (simp; rw [Qx]; simp; done)), H', ⟨by have := HK1.out; have := HJ12.out; first | omega | exact Zv _⟩, ⟨Ba BK408.out⟩, ⟨Bb1 HB.out GE408.out⟩⟩
          ·rw [if_neg c50] at H
           have c50b0 : decide (a1_1 < 0) = false := decide_eq_false c50
           clear c50
           have H' := Qa H
           clear H
           have q52_0 : wc.cell? ⟨gb408, 0, none⟩ = some (.int .i64 a1_0) := (Qb BK408.out 0).trans rfl
           have q52_1 : wc.cell? ⟨gb408, 1, none⟩ = some (.int .i64 a1_1) := (Qb BK408.out 1).trans rfl
           have q52_2 : wc.cell? ⟨gb408, 2, none⟩ = some (.int .i64 a1_2) := (Qb BK408.out 2).trans rfl
           have q52_3 : wc.cell? ⟨gb408, 3, none⟩ = some (.int .i64 a1_3) := (Qb BK408.out 3).trans rfl
           have q52_4 : wc.cell? ⟨gb408, 4, none⟩ = some (.slice A1_4 l1_4.length c1_4) := (Qb BK408.out 4).trans rfl
           have u52_0 := Qc BK408.out 0
           have u52_1 := Qc BK408.out 1
           have u52_2 := Qc BK408.out 2
           have u52_3 := Qc BK408.out 3
           have u52_4 := Qc BK408.out 4
           go_wp2
           repeat (go_quiet (fail); try go_wp2)
           go_meet
           case rel => exact ⟨_, (decide (a1_1 ≥ a0)), (by first | rfl | (simp; done) | (simp [*]; done) | (simp; rw [Qx]; simp; done)), H', ⟨by have := HK1.out; have := HJ12.out; first | omega | exact Zv _⟩, ⟨Ba BK408.out⟩, ⟨Bb1 HB.out GE408.out⟩⟩
         ·replace c49 := Xe.mpr c49
          subst c49
          have H1 : (if a1_1 = 0 then (spec_l10Form.j2 kj12 false a1_0 a1_1 a1_2 a1_3 l1_4) else (spec_l10Form.j2 kj12 true a1_0 a1_1 a1_2 a1_3 l1_4)) = some r := by rw [if_neg (show ¬ (false = true) by decide)] at H; exact H
          clear H
          have H := H1
          clear H1
          by_cases c53 : a1_1 = 0
          ·rw [if_pos c53] at H
           have c53b0 : (a1_1 == 0) = true := beq_iff_eq.mpr c53
           have c53b1 : (a1_1 != 0) = false := bne_eq_false_iff_eq.mpr c53
           clear c53
           have H' := Qa H
           clear H
           have q54_0 : wc.cell? ⟨gb408, 0, none⟩ = some (.int .i64 a1_0) := (Qb BK408.out 0).trans rfl
           have q54_1 : wc.cell? ⟨gb408, 1, none⟩ = some (.int .i64 a1_1) := (Qb BK408.out 1).trans rfl
           have q54_2 : wc.cell? ⟨gb408, 2, none⟩ = some (.int .i64 a1_2) := (Qb BK408.out 2).trans rfl
           have q54_3 : wc.cell? ⟨gb408, 3, none⟩ = some (.int .i64 a1_3) := (Qb BK408.out 3).trans rfl
           have q54_4 : wc.cell? ⟨gb408, 4, none⟩ = some (.slice A1_4 l1_4.length c1_4) := (Qb BK408.out 4).trans rfl
           have u54_0 := Qc BK408.out 0
           have u54_1 := Qc BK408.out 1
           have u54_2 := Qc BK408.out 2
           have u54_3 := Qc BK408.out 3
           have u54_4 := Qc BK408.out 4
           go_wp2
           repeat (go_quiet (fail); try go_wp2)
           go_meet
           case rel => exact ⟨_, (false), (by first | rfl | (simp; done) | (simp [*]; done) | (simp; rw [Qx]; simp; done)), H', ⟨by have := HK1.out; have := HJ12.out; first | omega | exact Zv _⟩, ⟨Ba BK408.out⟩, ⟨Bb1 HB.out GE408.out⟩⟩
          ·rw [if_neg c53] at H
           have c53b0 : (a1_1 == 0) = false := beq_eq_false_iff_ne.mpr c53
           have c53b1 : (a1_1 != 0) = true := bne_iff_ne.mpr c53
           have H' := Qa H
           clear H
           have q55_0 : wc.cell? ⟨gb408, 0, none⟩ = some (.int .i64 a1_0) := (Qb BK408.out 0).trans rfl
           have q55_1 : wc.cell? ⟨gb408, 1, none⟩ = some (.int .i64 a1_1) := (Qb BK408.out 1).trans rfl
           have q55_2 : wc.cell? ⟨gb408, 2, none⟩ = some (.int .i64 a1_2) := (Qb BK408.out 2).trans rfl
           have q55_3 : wc.cell? ⟨gb408, 3, none⟩ = some (.int .i64 a1_3) := (Qb BK408.out 3).trans rfl
           have q55_4 : wc.cell? ⟨gb408, 4, none⟩ = some (.slice A1_4 l1_4.length c1_4) := (Qb BK408.out 4).trans rfl
           have u55_0 := Qc BK408.out 0
           have u55_1 := Qc BK408.out 1
           have u55_2 := Qc BK408.out 2
           have u55_3 := Qc BK408.out 3
           have u55_4 := Qc BK408.out 4
           go_wp2
           repeat (go_quiet (fail); try go_wp2)
           go_meet
           case rel => exact ⟨_, (true), (by first | rfl | (simp; done) | (simp [*]; done) | (simp; rw [Qx]; simp; done)), H', ⟨by have := HK1.out; have := HJ12.out; first | omega | exact Zv _⟩, ⟨Ba BK408.out⟩, ⟨Bb1 HB.out GE408.out⟩⟩
      case rest =>
       clear HC18
       try clear c1
       try clear c2
       try clear p2
       try clear c3
       try clear c4
       try clear c4b0
       try clear p4
       try clear q4
       try clear hx4
       try clear c5
       try clear c5b0
       try clear p6
       try clear c7
       try clear c15
       try clear c15b0
       try clear c15b1
       try clear c19
       try clear c19b0
       try clear c20
       try clear c20b0
       try clear c20b1
       try clear c21
       try clear c21b0
       try clear c22
       try clear c22b0
       try clear c22b1
       try clear c23
       try clear c24
       try clear c24b0
       try clear c27
       try clear c27b0
       try clear c27b1
       try clear c31
       try clear c32
       try clear c32b0
       try clear c35
       try clear c35b0
       try clear c35b1
       try clear c39
       try clear c39b0
       try clear c40
       try clear c40b0
       try clear c40b1
       try clear p40
       try clear q40
       try clear hx40
       try clear c41
       try clear c42
       try clear c42b0
       try clear c45
       try clear c45b0
       try clear c45b1
       try clear c49
       try clear c50
       try clear c50b0
       try clear c53
       try clear c53b0
       try clear c53b1
       try clear q10_0
       try clear q10_1
       try clear q10_2
       try clear q10_3
       try clear q10_4
       try clear q14_0
       try clear q14_1
       try clear q14_2
       try clear q14_3
       try clear q14_4
       try clear q16_0
       try clear q16_1
       try clear q16_2
       try clear q16_3
       try clear q16_4
       try clear q17_0
       try clear q17_1
       try clear q17_2
       try clear q17_3
       try clear q17_4
       try clear q25_0
       try clear q25_1
       try clear q25_2
       try clear q25_3
       try clear q25_4
       try clear q26_0
       try clear q26_1
       try clear q26_2
       try clear q26_3
       try clear q26_4
       try clear q28_0
       try clear q28_1
       try clear q28_2
       try clear q28_3
       try clear q28_4
       try clear q29_0
       try clear q29_1
       try clear q29_2
       try clear q29_3
       try clear q29_4
       try clear q30_0
       try clear q30_1
       try clear q30_2
       try clear q30_3
       try clear q30_4
       try clear q33_0
       try clear q33_1
       try clear q33_2
       try clear q33_3
       try clear q33_4
       try clear q34_0
       try clear q34_1
       try clear q34_2
       try clear q34_3
       try clear q34_4
       try clear q36_0
       try clear q36_1
       try clear q36_2
       try clear q36_3
       try clear q36_4
       try clear q37_0
       try clear q37_1
       try clear q37_2
       try clear q37_3
       try clear q37_4
       try clear q38_0
       try clear q38_1
       try clear q38_2
       try clear q38_3
       try clear q38_4
       try clear q43_0
       try clear q43_1
       try clear q43_2
       try clear q43_3
       try clear q43_4
       try clear q44_0
       try clear q44_1
       try clear q44_2
       try clear q44_3
       try clear q44_4
       try clear q46_0
       try clear q46_1
       try clear q46_2
       try clear q46_3
       try clear q46_4
       try clear q47_0
       try clear q47_1
       try clear q47_2
       try clear q47_3
       try clear q47_4
       try clear q48_0
       try clear q48_1
       try clear q48_2
       try clear q48_3
       try clear q48_4
       try clear q51_0
       try clear q51_1
       try clear q51_2
       try clear q51_3
       try clear q51_4
       try clear q52_0
       try clear q52_1
       try clear q52_2
       try clear q52_3
       try clear q52_4
       try clear q54_0
       try clear q54_1
       try clear q54_2
       try clear q54_3
       try clear q54_4
       try clear q55_0
       try clear q55_1
       try clear q55_2
       try clear q55_3
       try clear q55_4
       try clear q8_0
       try clear q8_1
       try clear q8_2
       try clear q8_3
       try clear q8_4
       try clear u10_0
       try clear u10_1
       try clear u10_2
       try clear u10_3
       try clear u10_4
       try clear u14_0
       try clear u14_1
       try clear u14_2
       try clear u14_3
       try clear u14_4
       try clear u16_0
       try clear u16_1
       try clear u16_2
       try clear u16_3
       try clear u16_4
       try clear u17_0
       try clear u17_1
       try clear u17_2
       try clear u17_3
       try clear u17_4
       try clear u25_0
       try clear u25_1
       try clear u25_2
       try clear u25_3
       try clear u25_4
       try clear u26_0
       try clear u26_1
       try clear u26_2
       try clear u26_3
       try clear u26_4
       try clear u28_0
       try clear u28_1
       try clear u28_2
       try clear u28_3
       try clear u28_4
       try clear u29_0
       try clear u29_1
       try clear u29_2
       try clear u29_3
       try clear u29_4
       try clear u30_0
       try clear u30_1
       try clear u30_2
       try clear u30_3
       try clear u30_4
       try clear u33_0
       try clear u33_1
       try clear u33_2
       try clear u33_3
       try clear u33_4
       try clear u34_0
       try clear u34_1
       try clear u34_2
       try clear u34_3
       try clear u34_4
       try clear u36_0
       try clear u36_1
       try clear u36_2
       try clear u36_3
       try clear u36_4
       try clear u37_0
       try clear u37_1
       try clear u37_2
       try clear u37_3
       try clear u37_4
       try clear u38_0
       try clear u38_1
       try clear u38_2
       try clear u38_3
       try clear u38_4
       try clear u43_0
       try clear u43_1
       try clear u43_2
       try clear u43_3
       try clear u43_4
       try clear u44_0
       try clear u44_1
       try clear u44_2
       try clear u44_3
       try clear u44_4
       try clear u46_0
       try clear u46_1
       try clear u46_2
       try clear u46_3
       try clear u46_4
       try clear u47_0
       try clear u47_1
       try clear u47_2
       try clear u47_3
       try clear u47_4
       try clear u48_0
       try clear u48_1
       try clear u48_2
       try clear u48_3
       try clear u48_4
       try clear u51_0
       try clear u51_1
       try clear u51_2
       try clear u51_3
       try clear u51_4
       try clear u52_0
       try clear u52_1
       try clear u52_2
       try clear u52_3
       try clear u52_4
       try clear u54_0
       try clear u54_1
       try clear u54_2
       try clear u54_3
       try clear u54_4
       try clear u55_0
       try clear u55_1
       try clear u55_2
       try clear u55_3
       try clear u55_4
       try clear u8_0
       try clear u8_1
       try clear u8_2
       try clear u8_3
       try clear u8_4
       try clear hx409_0
       try clear hx409_1
       try clear hx409_2
       try clear hx409_3
       try clear hx409_4
       try clear p2
       try clear p4
       try clear p409
       try clear p6
       try clear q4
       try clear q409
       obtain ⟨kq, x72_17, rfl, HA, HJ17, BK408, HB⟩ := hcut
       cases kq with
       | zero => exact absurd HA.out (by simp [spec_l10Form.j2])
       | succ kj17 =>
        have H := HA.out
        clear HA
        simp only [spec_l10Form.j2] at H
        by_cases c56 : x72_17 = true
        ·subst c56
         have H1 : (some false) = some r := by rw [if_pos rfl] at H; exact H
         clear H
         have H := H1
         clear H1
         obtain rfl := Qs H
         go_wp2
         repeat (go_quiet (fail); try go_wp2)
         go_ret
         exact ⟨by first | rfl | (simp [errW_none, errW_some] <;> rfl) | (simp [*, errW_none, errW_some] <;> rfl), by repeat (first | (with_reducible first | exact HB.out | apply below_alloc | apply pw_below_drewN | apply below_drew1 | refine below_set ?_ GE408.out) | exact HB.out)⟩
        ·replace c56 := Xe.mpr c56
         subst c56
         have H1 : ((spec_l1In.f a1_2 0 3).bind fun t412 => (if t412 = true then ((spec_l1In.f a1_3 0 3).bind fun t413 => (if t413 = true then ((spec_ArityOf.f kj17 a1_0).bind fun t414 => (some ((l1_4.length : Int) == t414))) else (some false))) else (some false))) = some r := by rw [if_neg (show ¬ (false = true) by decide)] at H; exact H
         clear H
         have H := H1
         clear H1
         replace H := Qi.mp H
         obtain ⟨t412, A570, H⟩ := H
         replace H : (if t412 = true then ((spec_l1In.f a1_3 0 3).bind fun t413 => (if t413 = true then ((spec_ArityOf.f kj17 a1_0).bind fun t414 => (some ((l1_4.length : Int) == t414))) else (some false))) else (some false)) = some r := H
         have A57 := Qa A570
         clear A570
         by_cases c58 : t412 = true
         ·subst c58
          have H1 : ((spec_l1In.f a1_3 0 3).bind fun t413 => (if t413 = true then ((spec_ArityOf.f kj17 a1_0).bind fun t414 => (some ((l1_4.length : Int) == t414))) else (some false))) = some r := by rw [if_pos rfl] at H; exact H
          clear H
          have H := H1
          clear H1
          replace H := Qi.mp H
          obtain ⟨t413, A590, H⟩ := H
          replace H : (if t413 = true then ((spec_ArityOf.f kj17 a1_0).bind fun t414 => (some ((l1_4.length : Int) == t414))) else (some false)) = some r := H
          have A59 := Qa A590
          clear A590
          by_cases c60 : t413 = true
          ·subst c60
           have H1 : ((spec_ArityOf.f kj17 a1_0).bind fun t414 => (some ((l1_4.length : Int) == t414))) = some r := by rw [if_pos rfl] at H; exact H
           clear H
           have H := H1
           clear H1
           replace H := Qi.mp H
           obtain ⟨t414, A610, H⟩ := H
           replace H : (some ((l1_4.length : Int) == t414)) = some r := H
           have A61 := Qa A610
           clear A610
           obtain rfl := Qs H
           have q62_0 : wc.cell? ⟨gb408, 0, none⟩ = some (.int .i64 a1_0) := (Qb BK408.out 0).trans rfl
           have q62_1 : wc.cell? ⟨gb408, 1, none⟩ = some (.int .i64 a1_1) := (Qb BK408.out 1).trans rfl
           have q62_2 : wc.cell? ⟨gb408, 2, none⟩ = some (.int .i64 a1_2) := (Qb BK408.out 2).trans rfl
           have q62_3 : wc.cell? ⟨gb408, 3, none⟩ = some (.int .i64 a1_3) := (Qb BK408.out 3).trans rfl
           have q62_4 : wc.cell? ⟨gb408, 4, none⟩ = some (.slice A1_4 l1_4.length c1_4) := (Qb BK408.out 4).trans rfl
           have u62_0 := Qc BK408.out 0
           have u62_1 := Qc BK408.out 1
           have u62_2 := Qc BK408.out 2
           have u62_3 := Qc BK408.out 3
           have u62_4 := Qc BK408.out 4
           go_wp2_with (first | (go_at_call 77; (with_reducible refine (spec_l1In.calls a1_2 0 3 true _ A57.out).mono ?_); rintro e w' ⟨rfl, ⟨nd, rfl⟩⟩; (try first | exact ⟨rfl, _, Zs _ _ _⟩ | exact ⟨rfl, _, Eq.trans (Zs _ _ _) (congrArg (World.drewN _) (Nat.add_assoc _ _ _))⟩)) | (go_at_call 77; (with_reducible refine (spec_l1In.calls a1_3 0 3 true _ A59.out).mono ?_); rintro e w' ⟨rfl, ⟨nd, rfl⟩⟩; (try first | exact ⟨rfl, _, Zs _ _ _⟩ | exact ⟨rfl, _, Eq.trans (Zs _ _ _) (congrArg (World.drewN _) (Nat.add_assoc _ _ _))⟩)) | (go_at_call 41; (with_reducible refine (spec_ArityOf.calls kj17 a1_0 t414 _ A61.out).mono ?_); rintro e w' ⟨rfl, ⟨nd, rfl⟩⟩; (try first | exact ⟨rfl, _, Zs _ _ _⟩ | exact ⟨rfl, _, Eq.trans (Zs _ _ _) (congrArg (World.drewN _) (Nat.add_assoc _ _ _))⟩)))
           repeat (go_quiet (first | (go_at_call 77; (with_reducible refine (spec_l1In.calls a1_2 0 3 true _ A57.out).mono ?_); rintro e w' ⟨rfl, ⟨nd, rfl⟩⟩; (try first | exact ⟨rfl, _, Zs _ _ _⟩ | exact ⟨rfl, _, Eq.trans (Zs _ _ _) (congrArg (World.drewN _) (Nat.add_assoc _ _ _))⟩)) | (go_at_call 77; (with_reducible refine (spec_l1In.calls a1_3 0 3 true _ A59.out).mono ?_); rintro e w' ⟨rfl, ⟨nd, rfl⟩⟩; (try first | exact ⟨rfl, _, Zs _ _ _⟩ | exact ⟨rfl, _, Eq.trans (Zs _ _ _) (congrArg (World.drewN _) (Nat.add_assoc _ _ _))⟩)) | (go_at_call 41; (with_reducible refine (spec_ArityOf.calls kj17 a1_0 t414 _ A61.out).mono ?_); rintro e w' ⟨rfl, ⟨nd, rfl⟩⟩; (try first | exact ⟨rfl, _, Zs _ _ _⟩ | exact ⟨rfl, _, Eq.trans (Zs _ _ _) (congrArg (World.drewN _) (Nat.add_assoc _ _ _))⟩))); try go_wp2_with (first | (go_at_call 77; (with_reducible refine (spec_l1In.calls a1_2 0 3 true _ A57.out).mono ?_); rintro e w' ⟨rfl, ⟨nd, rfl⟩⟩; (try first | exact ⟨rfl, _, Zs _ _ _⟩ | exact ⟨rfl, _, Eq.trans (Zs _ _ _) (congrArg (World.drewN _) (Nat.add_assoc _ _ _))⟩)) | (go_at_call 77; (with_reducible refine (spec_l1In.calls a1_3 0 3 true _ A59.out).mono ?_); rintro e w' ⟨rfl, ⟨nd, rfl⟩⟩; (try first | exact ⟨rfl, _, Zs _ _ _⟩ | exact ⟨rfl, _, Eq.trans (Zs _ _ _) (congrArg (World.drewN _) (Nat.add_assoc _ _ _))⟩)) | (go_at_call 41; (with_reducible refine (spec_ArityOf.calls kj17 a1_0 t414 _ A61.out).mono ?_); rintro e w' ⟨rfl, ⟨nd, rfl⟩⟩; (try first | exact ⟨rfl, _, Zs _ _ _⟩ | exact ⟨rfl, _, Eq.trans (Zs _ _ _) (congrArg (World.drewN _) (Nat.add_assoc _ _ _))⟩))))
           go_ret
           exact ⟨by first | rfl | (simp [errW_none, errW_some] <;> rfl) | (simp [*, errW_none, errW_some] <;> rfl), by repeat (first | (with_reducible first | exact HB.out | apply below_alloc | apply pw_below_drewN | apply below_drew1 | refine below_set ?_ GE408.out) | exact HB.out)⟩
          ·replace c60 := Xe.mpr c60
           subst c60
           have H1 : (some false) = some r := by rw [if_neg (show ¬ (false = true) by decide)] at H; exact H
           clear H
           have H := H1
           clear H1
           obtain rfl := Qs H
           have q63_0 : wc.cell? ⟨gb408, 0, none⟩ = some (.int .i64 a1_0) := (Qb BK408.out 0).trans rfl
           have q63_1 : wc.cell? ⟨gb408, 1, none⟩ = some (.int .i64 a1_1) := (Qb BK408.out 1).trans rfl
           have q63_2 : wc.cell? ⟨gb408, 2, none⟩ = some (.int .i64 a1_2) := (Qb BK408.out 2).trans rfl
           have q63_3 : wc.cell? ⟨gb408, 3, none⟩ = some (.int .i64 a1_3) := (Qb BK408.out 3).trans rfl
           have q63_4 : wc.cell? ⟨gb408, 4, none⟩ = some (.slice A1_4 l1_4.length c1_4) := (Qb BK408.out 4).trans rfl
           have u63_0 := Qc BK408.out 0
           have u63_1 := Qc BK408.out 1
           have u63_2 := Qc BK408.out 2
           have u63_3 := Qc BK408.out 3
           have u63_4 := Qc BK408.out 4
           go_wp2_with (first | (go_at_call 77; (with_reducible refine (spec_l1In.calls a1_2 0 3 true _ A57.out).mono ?_); rintro e w' ⟨rfl, ⟨nd, rfl⟩⟩; (try first | exact ⟨rfl, _, Zs _ _ _⟩ | exact ⟨rfl, _, Eq.trans (Zs _ _ _) (congrArg (World.drewN _) (Nat.add_assoc _ _ _))⟩)) | (go_at_call 77; (with_reducible refine (spec_l1In.calls a1_3 0 3 false _ A59.out).mono ?_); rintro e w' ⟨rfl, ⟨nd, rfl⟩⟩; (try first | exact ⟨rfl, _, Zs _ _ _⟩ | exact ⟨rfl, _, Eq.trans (Zs _ _ _) (congrArg (World.drewN _) (Nat.add_assoc _ _ _))⟩)))
           repeat (go_quiet (first | (go_at_call 77; (with_reducible refine (spec_l1In.calls a1_2 0 3 true _ A57.out).mono ?_); rintro e w' ⟨rfl, ⟨nd, rfl⟩⟩; (try first | exact ⟨rfl, _, Zs _ _ _⟩ | exact ⟨rfl, _, Eq.trans (Zs _ _ _) (congrArg (World.drewN _) (Nat.add_assoc _ _ _))⟩)) | (go_at_call 77; (with_reducible refine (spec_l1In.calls a1_3 0 3 false _ A59.out).mono ?_); rintro e w' ⟨rfl, ⟨nd, rfl⟩⟩; (try first | exact ⟨rfl, _, Zs _ _ _⟩ | exact ⟨rfl, _, Eq.trans (Zs _ _ _) (congrArg (World.drewN _) (Nat.add_assoc _ _ _))⟩))); try go_wp2_with (first | (go_at_call 77; (with_reducible refine (spec_l1In.calls a1_2 0 3 true _ A57.out).mono ?_); rintro e w' ⟨rfl, ⟨nd, rfl⟩⟩; (try first | exact ⟨rfl, _, Zs _ _ _⟩ | exact ⟨rfl, _, Eq.trans (Zs _ _ _) (congrArg (World.drewN _) (Nat.add_assoc _ _ _))⟩)) | (go_at_call 77; (with_reducible refine (spec_l1In.calls a1_3 0 3 false _ A59.out).mono ?_); rintro e w' ⟨rfl, ⟨nd, rfl⟩⟩; (try first | exact ⟨rfl, _, Zs _ _ _⟩ | exact ⟨rfl, _, Eq.trans (Zs _ _ _) (congrArg (World.drewN _) (Nat.add_assoc _ _ _))⟩))))
           go_ret
           exact ⟨by first | rfl | (simp [errW_none, errW_some] <;> rfl) | (simp [*, errW_none, errW_some] <;> rfl), by repeat (first | (with_reducible first | exact HB.out | apply below_alloc | apply pw_below_drewN | apply below_drew1 | refine below_set ?_ GE408.out) | exact HB.out)⟩
         ·replace c58 := Xe.mpr c58
          subst c58
          have H1 : (some false) = some r := by rw [if_neg (show ¬ (false = true) by decide)] at H; exact H
          clear H
          have H := H1
          clear H1
          obtain rfl := Qs H
          have q64_0 : wc.cell? ⟨gb408, 0, none⟩ = some (.int .i64 a1_0) := (Qb BK408.out 0).trans rfl
          have q64_1 : wc.cell? ⟨gb408, 1, none⟩ = some (.int .i64 a1_1) := (Qb BK408.out 1).trans rfl
          have q64_2 : wc.cell? ⟨gb408, 2, none⟩ = some (.int .i64 a1_2) := (Qb BK408.out 2).trans rfl
          have q64_3 : wc.cell? ⟨gb408, 3, none⟩ = some (.int .i64 a1_3) := (Qb BK408.out 3).trans rfl
          have q64_4 : wc.cell? ⟨gb408, 4, none⟩ = some (.slice A1_4 l1_4.length c1_4) := (Qb BK408.out 4).trans rfl
          have u64_0 := Qc BK408.out 0
          have u64_1 := Qc BK408.out 1
          have u64_2 := Qc BK408.out 2
          have u64_3 := Qc BK408.out 3
          have u64_4 := Qc BK408.out 4
          go_wp2_with (first | (go_at_call 77; (with_reducible refine (spec_l1In.calls a1_2 0 3 false _ A57.out).mono ?_); rintro e w' ⟨rfl, ⟨nd, rfl⟩⟩; (try first | exact ⟨rfl, _, Zs _ _ _⟩ | exact ⟨rfl, _, Eq.trans (Zs _ _ _) (congrArg (World.drewN _) (Nat.add_assoc _ _ _))⟩)))
          repeat (go_quiet (first | (go_at_call 77; (with_reducible refine (spec_l1In.calls a1_2 0 3 false _ A57.out).mono ?_); rintro e w' ⟨rfl, ⟨nd, rfl⟩⟩; (try first | exact ⟨rfl, _, Zs _ _ _⟩ | exact ⟨rfl, _, Eq.trans (Zs _ _ _) (congrArg (World.drewN _) (Nat.add_assoc _ _ _))⟩))); try go_wp2_with (first | (go_at_call 77; (with_reducible refine (spec_l1In.calls a1_2 0 3 false _ A57.out).mono ?_); rintro e w' ⟨rfl, ⟨nd, rfl⟩⟩; (try first | exact ⟨rfl, _, Zs _ _ _⟩ | exact ⟨rfl, _, Eq.trans (Zs _ _ _) (congrArg (World.drewN _) (Nat.add_assoc _ _ _))⟩))))
          go_ret
          exact ⟨by first | rfl | (simp [errW_none, errW_some] <;> rfl) | (simp [*, errW_none, errW_some] <;> rfl), by repeat (first | (with_reducible first | exact HB.out | apply below_alloc | apply pw_below_drewN | apply below_drew1 | refine below_set ?_ GE408.out) | exact HB.out)⟩
end Go.Proofs.Ytoljagpjejpmpaa.PFnFormulas
