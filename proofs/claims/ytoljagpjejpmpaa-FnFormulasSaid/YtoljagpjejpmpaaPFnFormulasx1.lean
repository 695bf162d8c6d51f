-- Laid by wip/tools/xprint.py (a program of this session over the kit's print). Not trusted: Lean checks it.
import Derived.Test.YtoljagpjejpmpaaXAuto
import Derived.Test.YtoljagpjejpmpaaPFnFormulasx0
namespace Go.Proofs.Ytoljagpjejpmpaa.PFnFormulas
open Go.RowKit Go.Proofs.YtoljagpjejpmpaaW.PrintWords Go.Proofs.YtoljagpjejpmpaaW.PrintLast Go.Proofs.YtoljagpjejpmpaaW.PrintMore
open Go.Proofs.YtoljagpjejpmpaaW.PrintWords.Aside0 renaming mk → Qa
open Go.Proofs.YtoljagpjejpmpaaW.PrintWords renaming blk_cell → Qb, blk_frozen → Qc, blk_alloc → Qf, blk_drewN → Qg, blk_drew → Qh, below_set → Ql, pw_below_drewN → Qp, blk_put → Qr, below_drew1 → Qu, below_size → Qv, cell_far → Qw, blk_below → Qy, below_alloc → Za, below_step → Zc, add_block → Zi, box_event → Xa, gate_dst → Xc
open Go.World renaming block_lt_of_cell? → Qd
open Option renaming bind_eq_some_iff → Qi, bind_some → Zz
open Option.some renaming inj → Qs
open Bool renaming eq_iff_iff → Qx
open Go.Proofs.YtoljagpjejpmpaaW.PrintWords.LeO renaming bind → Zl, none → Zm, ite → Zu
open Nat renaming ne_of_lt → Zp, le_refl → Zv, ne_of_gt → Zy
open Go.Proofs.YtoljagpjejpmpaaW.PrintWords.Drawn0 renaming refl → Xf, step → Xg
open Go.Proofs.Try renaming prog → Xh
open Go renaming World → Xs
open Go.Addr renaming add → Xw
attribute [local go_sem] max2_int min2_int max_two min_two max_three min_three max_four min_four
set_option linter.unusedVariables false
set_option linter.unusedSimpArgs false
def laws_big.f (l0 : List Int) : Option (Bool) := some (decide ((l0.length : Int) > 1048576))
set_option maxHeartbeats 8000000 in
set_option maxRecDepth 100000 in
theorem laws_big.calls (A0 : Option Addr) (c0 : Nat) (l0 : List Int) (r : Bool) (w : Xs) (hr0 : Kd.C (Kd.int .u8) w A0 l0.length l0) (hc0 : l0.length ≤ c0) (h : laws_big.f l0 = some r) :
  Calls Xh 16 #[.slice A0 l0.length c0] w fun e w' => e = .returned (.bool r) ∧ Drawn0 w w' := by
 have HR0 := Qa hr0
 have HC0 := Qa hc0
 clear hr0 hc0
 have H : (some (decide ((l0.length : Int) > 1048576))) = some r := h
 clear h
 obtain rfl := Qs H
 go_enter Try.func16, Try.ntmps16
 go_wp2
 go_ret
 exact ⟨by first | rfl | (simp; done) | (simp [*]; done), by repeat (first | exact Xf _ | apply Xg)⟩
mutual
def impl_Formula_EqualFormula.l0 : Nat → List (S32) → List (S32) → Int → Int → Option (Bool)
 | 0, _, _, _, _ => none
 | k + 1, x1, x15, x16, x17 => if x17 < x16 then (if 0 ≤ x17 then (if x17 < (x15.length : Int) then (if x17 < (x1.length : Int) then ((impl_EqualFormula.f k ((rd_T32 x15 x17).f0) ((rd_T32 x15 x17).f1) ((rd_T32 x15 x17).f2) ((rd_T32 x15 x17).f3) ((rd_T32 x15 x17).f4) ((rd_T32 x1 x17).f0) ((rd_T32 x1 x17).f1) ((rd_T32 x1 x17).f2) ((rd_T32 x1 x17).f3) ((rd_T32 x1 x17).f4)).bind fun t105 => (if t105 = true then (impl_Formula_EqualFormula.l0 k x1 x15 x16 (wrap64 (x17 + 1))) else (some false))) else (none)) else (none)) else (none)) else (some true)
def impl_Formula_EqualFormula.f : Nat → List (S32) → List (S32) → Option (Bool)
 | 0, _, _ => none
 | k + 1, l0, l1 => if (l0.length : Int) = (l1.length : Int) then (impl_Formula_EqualFormula.l0 k l1 l0 (l0.length : Int) 0) else (some false)
def impl_EqualFormula.f : Nat → Int → Int → Int → Int → List (S32) → Int → Int → Int → Int → List (S32) → Option (Bool)
 | 0, _, _, _, _, _, _, _, _, _, _ => none
 | k + 1, a0_0, a0_1, a0_2, a0_3, l0_4, a1_0, a1_1, a1_2, a1_3, l1_4 => if a0_0 = a1_0 then (if a0_1 = a1_1 then (if a0_2 = a1_2 then (if a0_3 = a1_3 then ((impl_Formula_EqualFormula.f k l0_4 l1_4).bind fun t108 => (some t108)) else (some false)) else (some false)) else (some false)) else (some false)
end
theorem impl_EqualFormula_pair.mono_l : ∀ k, (∀ y0 y1 y2 y3, LeO (impl_Formula_EqualFormula.l0 k y0 y1 y2 y3) (impl_Formula_EqualFormula.l0 (k + 1) y0 y1 y2 y3)) ∧ (∀ y0 y1, LeO (impl_Formula_EqualFormula.f k y0 y1) (impl_Formula_EqualFormula.f (k + 1) y0 y1)) ∧ (∀ y0 y1 y2 y3 y4 y5 y6 y7 y8 y9, LeO (impl_EqualFormula.f k y0 y1 y2 y3 y4 y5 y6 y7 y8 y9) (impl_EqualFormula.f (k + 1) y0 y1 y2 y3 y4 y5 y6 y7 y8 y9))
 | 0 => ⟨fun _ _ _ _ r h => by simp [impl_Formula_EqualFormula.l0] at h, fun _ _ r h => by simp [impl_Formula_EqualFormula.f] at h, fun _ _ _ _ _ _ _ _ _ _ r h => by simp [impl_EqualFormula.f] at h⟩
 | k + 1 => by
  obtain ⟨ih0, ih1, ih2⟩ := impl_EqualFormula_pair.mono_l k
  refine ⟨?_, ?_, ?_⟩
  ·intro y0 y1 y2 y3
   unfold impl_Formula_EqualFormula.l0
   repeat' first
   | (with_reducible exact ih0 _ _ _ _)
   | (with_reducible exact ih1 _ _)
   | (with_reducible exact ih2 _ _ _ _ _ _ _ _ _ _)
   | (with_reducible exact LeO.refl _)
   | (with_reducible exact Zm _)
   | (with_reducible refine Zu ?_ ?_)
   | (with_reducible refine Zl ?_ (fun _ => ?_))
   | exact ih0 _ _ _ _
   | exact ih1 _ _
   | exact ih2 _ _ _ _ _ _ _ _ _ _
   | exact Zm _
   | refine Zu ?_ ?_
   | refine Zl ?_ (fun _ => ?_)
  ·intro y0 y1
   unfold impl_Formula_EqualFormula.f
   repeat' first
   | (with_reducible exact ih0 _ _ _ _)
   | (with_reducible exact ih1 _ _)
   | (with_reducible exact ih2 _ _ _ _ _ _ _ _ _ _)
   | (with_reducible exact LeO.refl _)
   | (with_reducible exact Zm _)
   | (with_reducible refine Zu ?_ ?_)
   | (with_reducible refine Zl ?_ (fun _ => ?_))
   | exact ih0 _ _ _ _
   | exact ih1 _ _
   | exact ih2 _ _ _ _ _ _ _ _ _ _
   | exact Zm _
   | refine Zu ?_ ?_
   | refine Zl ?_ (fun _ => ?_)
  ·intro y0 y1 y2 y3 y4 y5 y6 y7 y8 y9
   unfold impl_EqualFormula.f
   repeat' first
   | (with_reducible exact ih0 _ _ _ _)
   | (with_reducible exact ih1 _ _)
   | (with_reducible exact ih2 _ _ _ _ _ _ _ _ _ _)
   | (with_reducible exact LeO.refl _)
   | (with_reducible exact Zm _)
   | (with_reducible refine Zu ?_ ?_)
   | (with_reducible refine Zl ?_ (fun _ => ?_))
   | exact ih0 _ _ _ _
   | exact ih1 _ _
   | exact ih2 _ _ _ _ _ _ _ _ _ _
   | exact Zm _
   | refine Zu ?_ ?_
   | refine Zl ?_ (fun _ => ?_)
theorem impl_Formula_EqualFormula.mono : ∀ a0 a1 k, LeO (impl_Formula_EqualFormula.f k a0 a1) (impl_Formula_EqualFormula.f (k + 1) a0 a1) := by
 intro a0 a1 k
 obtain ⟨ih0, ih1, ih2⟩ := impl_EqualFormula_pair.mono_l k
 exact ih1 a0 a1
theorem impl_EqualFormula.mono : ∀ a0 a1 a2 a3 a4 a5 a6 a7 a8 a9 k, LeO (impl_EqualFormula.f k a0 a1 a2 a3 a4 a5 a6 a7 a8 a9) (impl_EqualFormula.f (k + 1) a0 a1 a2 a3 a4 a5 a6 a7 a8 a9) := by
 intro a0 a1 a2 a3 a4 a5 a6 a7 a8 a9 k
 obtain ⟨ih0, ih1, ih2⟩ := impl_EqualFormula_pair.mono_l k
 exact ih2 a0 a1 a2 a3 a4 a5 a6 a7 a8 a9
set_option maxHeartbeats 8000000 in
set_option maxRecDepth 100000 in
theorem impl_Formula_EqualFormula.calls_of (k : Nat) (ih : ∀ m_, m_ < k → ∀ (a0_0 : Int) (a0_1 : Int) (a0_2 : Int) (a0_3 : Int) (A0_4 : Option Addr) (c0_4 : Nat) (l0_4 : List (S32)) (a1_0 : Int) (a1_1 : Int) (a1_2 : Int) (a1_3 : Int) (A1_4 : Option Addr) (c1_4 : Nat) (l1_4 : List (S32)) (r : Bool) (w : Xs) (hr0_4 : Kd.C k32 w A0_4 l0_4.length l0_4) (hc0_4 : l0_4.length ≤ c0_4) (hr1_4 : Kd.C k32 w A1_4 l1_4.length l1_4) (hc1_4 : l1_4.length ≤ c1_4) (h : impl_EqualFormula.f m_ a0_0 a0_1 a0_2 a0_3 l0_4 a1_0 a1_1 a1_2 a1_3 l1_4 = some r), Calls Xh 19 #[.agg #[.int .i64 a0_0, .int .i64 a0_1, .int .i64 a0_2, .int .i64 a0_3, .slice A0_4 l0_4.length c0_4], .agg #[.int .i64 a1_0, .int .i64 a1_1, .int .i64 a1_2, .int .i64 a1_3, .slice A1_4 l1_4.length c1_4]] w fun e w' => e = .returned (.bool r) ∧ Below w.heap.size w w') : ∀ (A0 : Option Addr) (c0 : Nat) (l0 : List (S32)) (A1 : Option Addr) (c1 : Nat) (l1 : List (S32))  (r : Bool) (w : Xs) (hr0 : Kd.C k32 w A0 l0.length l0) (hc0 : l0.length ≤ c0) (hr1 : Kd.C k32 w A1 l1.length l1) (hc1 : l1.length ≤ c1) (h : impl_Formula_EqualFormula.f k l0 l1 = some r), Calls Xh 53 #[.slice A0 l0.length c0, .slice A1 l1.length c1, .func (.func 19) #[] #[]] w fun e w' => e = .returned (.bool r) ∧ Below w.heap.size w w' := by
 intro A0 c0 l0 A1 c1 l1 r w hr0 hc0 hr1 hc1 h
 cases k with
 | zero => exact absurd h (by simp [impl_Formula_EqualFormula.f])
 | succ k =>
 simp only [impl_Formula_EqualFormula.f] at h
 have hu32 := Try.underlying32
 have HR0 := Qa hr0
 have HC0 := Qa hc0
 clear hr0 hc0
 have HR1 := Qa hr1
 have HC1 := Qa hc1
 clear hr1 hc1
 have HB := Qa (Below.refl w.heap.size w)
 have H : (if (l0.length : Int) = (l1.length : Int) then (impl_Formula_EqualFormula.l0 k l1 l0 (l0.length : Int) 0) else (some false)) = some r := h
 clear h
 by_cases c4 : (l0.length : Int) = (l1.length : Int)
 ·rw [if_pos c4] at H
  have c4b0 : ((l0.length : Int) == (l1.length : Int)) = true := beq_iff_eq.mpr c4
  have c4b1 : ((l0.length : Int) != (l1.length : Int)) = false := bne_eq_false_iff_eq.mpr c4
  have c4b2 : (l0.length == l1.length) = true := by first | simpa using c4 | (simp at c4 ⊢; omega)
  clear c4
  have H' := Qa H
  clear H
  go_enter Try.func53, Try.ntmps53
  go_wp2
  go_loopg [17] k (fun kq v17 w' => ∃ (x17_1 : Int), v17 = .int .i64 x17_1 ∧ Aside0 (impl_Formula_EqualFormula.l0 kq l1 l0 (l0.length : Int) x17_1 = some r) ∧ Aside0 (kq ≤ k) ∧ Aside0 (Below w.heap.size w w'))
  case atStart => exact ⟨(0), (by first | rfl | (simp; done) | (simp [*]; done) | (simp; rw [Qx]; simp; done)), H', ⟨Nat.le_refl _⟩, ⟨Bb0 HB.out⟩⟩
  case round =>
   clear H'
   try clear c1
   try clear p2
   try clear c4
   try clear c4b0
   try clear c4b1
   try clear c4b2
   obtain ⟨x17_1, rfl, HA, HK1, HB⟩ := hrel
   cases gk with
   | zero => exact absurd HA.out (by simp [impl_Formula_EqualFormula.l0])
   | succ k1 =>
    have H := HA.out
    clear HA
    simp only [impl_Formula_EqualFormula.l0] at H
    by_cases c5 : x17_1 < (l0.length : Int)
    ·rw [if_pos c5] at H
     have c5b0 : decide (x17_1 < (l0.length : Int)) = true := decide_eq_true c5
     clear c5
     by_cases c6 : 0 ≤ x17_1
     ·rw [if_pos c6] at H
      have c6b0 : decide (0 ≤ x17_1) = true := decide_eq_true c6
      clear c6
      by_cases c7 : x17_1 < (l0.length : Int)
      ·rw [if_pos c7] at H
       have c7b0 : decide (x17_1 < (l0.length : Int)) = true := decide_eq_true c7
       clear c7
       by_cases c8 : x17_1 < (l1.length : Int)
       ·rw [if_pos c8] at H
        have c8b0 : decide (x17_1 < (l1.length : Int)) = true := decide_eq_true c8
        clear c8
        replace H := Qi.mp H
        obtain ⟨t105, A90, H⟩ := H
        replace H : (if t105 = true then (impl_Formula_EqualFormula.l0 k1 l1 l0 (l0.length : Int) (wrap64 (x17_1 + 1))) else (some false)) = some r := H
        have A9 := Qa A90
        clear A90
        by_cases c10 : t105 = true
        ·subst c10
         have H1 : (impl_Formula_EqualFormula.l0 k1 l1 l0 (l0.length : Int) (wrap64 (x17_1 + 1))) = some r := by rw [if_pos rfl] at H; exact H
         clear H
         have H := H1
         clear H1
         have H' := Qa H
         clear H
         have p101 : 0 ≤ (x17_1 : Int) := of_decide_eq_true (by first | (with_reducible assumption) | assumption)
         have q101 : x17_1 < (l0.length : Int) := of_decide_eq_true (by first | (with_reducible assumption) | assumption)
         obtain ⟨ad101, A101_4, c101_4, e101, hx101_0, hx101_1, hx101_2, hx101_3, hx101_4, hl101_4, hi101_4⟩ := at_T32 HR0.out x17_1 p101 q101
         cases e101
         replace hx101_0 := (HB.out.cell (Qd w _ hx101_0)).trans hx101_0
         replace hx101_1 := (HB.out.cell (Qd w _ hx101_1)).trans hx101_1
         replace hx101_2 := (HB.out.cell (Qd w _ hx101_2)).trans hx101_2
         replace hx101_3 := (HB.out.cell (Qd w _ hx101_3)).trans hx101_3
         replace hx101_4 := (HB.out.cell (Qd w _ hx101_4)).trans hx101_4
         have HR101_4 := Qa hi101_4
         have HC101_4 := Qa hl101_4
         clear hi101_4 hl101_4
         replace p101 := eq_true p101
         replace q101 := eq_true q101
         go_wp2_with (first | ((with_reducible refine Xc (N := 8) rfl ?_); refine Xa ?hg (N := 8) ?hd (cs := #[.int .i64 0, .int .i64 0, .int .i64 0, .int .i64 0, .slice none 0 0]) (t := 32) ?hr ?_; (case hd => rfl); (case hg => rfl); (case hr => first | (go_simp; done) | (go_simp; rfl)); intro gb102 hg w11 hbox hb; have BK102 := Qa (hbox); have GW102 := Qa ((by rw [hg]; exact (Qv (Bb0 HB.out)) : w.heap.size ≤ gb102)); have GE102 := Qa ((by rw [hg]; exact (Qv (Bb0 HB.out)) : w.heap.size ≤ gb102)); replace HB := Qa (Zc (Bb0 HB.out) hb); clear hb hbox hg; have q12_0 : w11.cell? ⟨gb102, 0, none⟩ = some (.int .i64 0) := (Qb BK102.out 0).trans rfl; have q12_1 : w11.cell? ⟨gb102, 1, none⟩ = some (.int .i64 0) := (Qb BK102.out 1).trans rfl; have q12_2 : w11.cell? ⟨gb102, 2, none⟩ = some (.int .i64 0) := (Qb BK102.out 2).trans rfl; have q12_3 : w11.cell? ⟨gb102, 3, none⟩ = some (.int .i64 0) := (Qb BK102.out 3).trans rfl; have q12_4 : w11.cell? ⟨gb102, 4, none⟩ = some (.slice none 0 0) := (Qb BK102.out 4).trans rfl; have u12_0 := Qc BK102.out 0; have u12_1 := Qc BK102.out 1; have u12_2 := Qc BK102.out 2; have u12_3 := Qc BK102.out 3; have u12_4 := Qc BK102.out 4; have p103 : 0 ≤ (x17_1 : Int) := of_decide_eq_true (by first | (with_reducible assumption) | assumption); have q103 : x17_1 < (l1.length : Int) := of_decide_eq_true (by first | (with_reducible assumption) | assumption); obtain ⟨ad103, A103_4, c103_4, e103, hx103_0, hx103_1, hx103_2, hx103_3, hx103_4, hl103_4, hi103_4⟩ := at_T32 HR1.out x17_1 p103 q103; cases e103; have hn103_0 : ad103.block ≠ gb102 := Zp (Nat.lt_of_lt_of_le (by have := Qd _ _ hx103_0; first | rwa [Zi] at this | exact this) GW102.out); have hn103_1 : ad103.block ≠ gb102 := Zp (Nat.lt_of_lt_of_le (by have := Qd _ _ hx103_0; first | rwa [Zi] at this | exact this) GW102.out); have hn103_2 : ad103.block ≠ gb102 := Zp (Nat.lt_of_lt_of_le (by have := Qd _ _ hx103_0; first | rwa [Zi] at this | exact this) GW102.out); have hn103_3 : ad103.block ≠ gb102 := Zp (Nat.lt_of_lt_of_le (by have := Qd _ _ hx103_0; first | rwa [Zi] at this | exact this) GW102.out); have hn103_4 : ad103.block ≠ gb102 := Zp (Nat.lt_of_lt_of_le (by have := Qd _ _ hx103_0; first | rwa [Zi] at this | exact this) GW102.out); replace hx103_0 := (HB.out.cell (Qd w _ hx103_0)).trans hx103_0; replace hx103_1 := (HB.out.cell (Qd w _ hx103_1)).trans hx103_1; replace hx103_2 := (HB.out.cell (Qd w _ hx103_2)).trans hx103_2; replace hx103_3 := (HB.out.cell (Qd w _ hx103_3)).trans hx103_3; replace hx103_4 := (HB.out.cell (Qd w _ hx103_4)).trans hx103_4; have HR103_4 := Qa hi103_4; have HC103_4 := Qa hl103_4; clear hi103_4 hl103_4; replace hx103_0 := (Qw (p := ⟨gb102, 0, none⟩) (by first | (rw [Zi]; exact hn103_0) | (show (Xw _ _).block ≠ _; rw [Zi]; exact hn103_0) | exact hn103_0) (.int .i64 ((rd_T32 l0 x17_1).f0))).trans hx103_0; replace hx103_1 := (Qw (p := ⟨gb102, 0, none⟩) (by first | (rw [Zi]; exact hn103_0) | (show (Xw _ _).block ≠ _; rw [Zi]; exact hn103_0) | exact hn103_0) (.int .i64 ((rd_T32 l0 x17_1).f0))).trans hx103_1; replace hx103_2 := (Qw (p := ⟨gb102, 0, none⟩) (by first | (rw [Zi]; exact hn103_0) | (show (Xw _ _).block ≠ _; rw [Zi]; exact hn103_0) | exact hn103_0) (.int .i64 ((rd_T32 l0 x17_1).f0))).trans hx103_2; replace hx103_3 := (Qw (p := ⟨gb102, 0, none⟩) (by first | (rw [Zi]; exact hn103_0) | (show (Xw _ _).block ≠ _; rw [Zi]; exact hn103_0) | exact hn103_0) (.int .i64 ((rd_T32 l0 x17_1).f0))).trans hx103_3; replace hx103_4 := (Qw (p := ⟨gb102, 0, none⟩) (by first | (rw [Zi]; exact hn103_0) | (show (Xw _ _).block ≠ _; rw [Zi]; exact hn103_0) | exact hn103_0) (.int .i64 ((rd_T32 l0 x17_1).f0))).trans hx103_4; replace hx103_0 := (Qw (p := ⟨gb102, 1, none⟩) (by first | (rw [Zi]; exact hn103_1) | (show (Xw _ _).block ≠ _; rw [Zi]; exact hn103_1) | exact hn103_1) (.int .i64 ((rd_T32 l0 x17_1).f1))).trans hx103_0; replace hx103_1 := (Qw (p := ⟨gb102, 1, none⟩) (by first | (rw [Zi]; exact hn103_1) | (show (Xw _ _).block ≠ _; rw [Zi]; exact hn103_1) | exact hn103_1) (.int .i64 ((rd_T32 l0 x17_1).f1))).trans hx103_1; replace hx103_2 := (Qw (p := ⟨gb102, 1, none⟩) (by first | (rw [Zi]; exact hn103_1) | (show (Xw _ _).block ≠ _; rw [Zi]; exact hn103_1) | exact hn103_1) (.int .i64 ((rd_T32 l0 x17_1).f1))).trans hx103_2; replace hx103_3 := (Qw (p := ⟨gb102, 1, none⟩) (by first | (rw [Zi]; exact hn103_1) | (show (Xw _ _).block ≠ _; rw [Zi]; exact hn103_1) | exact hn103_1) (.int .i64 ((rd_T32 l0 x17_1).f1))).trans hx103_3; replace hx103_4 := (Qw (p := ⟨gb102, 1, none⟩) (by first | (rw [Zi]; exact hn103_1) | (show (Xw _ _).block ≠ _; rw [Zi]; exact hn103_1) | exact hn103_1) (.int .i64 ((rd_T32 l0 x17_1).f1))).trans hx103_4; replace hx103_0 := (Qw (p := ⟨gb102, 2, none⟩) (by first | (rw [Zi]; exact hn103_2) | (show (Xw _ _).block ≠ _; rw [Zi]; exact hn103_2) | exact hn103_2) (.int .i64 ((rd_T32 l0 x17_1).f2))).trans hx103_0; replace hx103_1 := (Qw (p := ⟨gb102, 2, none⟩) (by first | (rw [Zi]; exact hn103_2) | (show (Xw _ _).block ≠ _; rw [Zi]; exact hn103_2) | exact hn103_2) (.int .i64 ((rd_T32 l0 x17_1).f2))).trans hx103_1; replace hx103_2 := (Qw (p := ⟨gb102, 2, none⟩) (by first | (rw [Zi]; exact hn103_2) | (show (Xw _ _).block ≠ _; rw [Zi]; exact hn103_2) | exact hn103_2) (.int .i64 ((rd_T32 l0 x17_1).f2))).trans hx103_2; replace hx103_3 := (Qw (p := ⟨gb102, 2, none⟩) (by first | (rw [Zi]; exact hn103_2) | (show (Xw _ _).block ≠ _; rw [Zi]; exact hn103_2) | exact hn103_2) (.int .i64 ((rd_T32 l0 x17_1).f2))).trans hx103_3; replace hx103_4 := (Qw (p := ⟨gb102, 2, none⟩) (by first | (rw [Zi]; exact hn103_2) | (show (Xw _ _).block ≠ _; rw [Zi]; exact hn103_2) | exact hn103_2) (.int .i64 ((rd_T32 l0 x17_1).f2))).trans hx103_4; replace hx103_0 := (Qw (p := ⟨gb102, 3, none⟩) (by first | (rw [Zi]; exact hn103_3) | (show (Xw _ _).block ≠ _; rw [Zi]; exact hn103_3) | exact hn103_3) (.int .i64 ((rd_T32 l0 x17_1).f3))).trans hx103_0; replace hx103_1 := (Qw (p := ⟨gb102, 3, none⟩) (by first | (rw [Zi]; exact hn103_3) | (show (Xw _ _).block ≠ _; rw [Zi]; exact hn103_3) | exact hn103_3) (.int .i64 ((rd_T32 l0 x17_1).f3))).trans hx103_1; replace hx103_2 := (Qw (p := ⟨gb102, 3, none⟩) (by first | (rw [Zi]; exact hn103_3) | (show (Xw _ _).block ≠ _; rw [Zi]; exact hn103_3) | exact hn103_3) (.int .i64 ((rd_T32 l0 x17_1).f3))).trans hx103_2; replace hx103_3 := (Qw (p := ⟨gb102, 3, none⟩) (by first | (rw [Zi]; exact hn103_3) | (show (Xw _ _).block ≠ _; rw [Zi]; exact hn103_3) | exact hn103_3) (.int .i64 ((rd_T32 l0 x17_1).f3))).trans hx103_3; replace hx103_4 := (Qw (p := ⟨gb102, 3, none⟩) (by first | (rw [Zi]; exact hn103_3) | (show (Xw _ _).block ≠ _; rw [Zi]; exact hn103_3) | exact hn103_3) (.int .i64 ((rd_T32 l0 x17_1).f3))).trans hx103_4; replace hx103_0 := (Qw (p := ⟨gb102, 4, none⟩) (by first | (rw [Zi]; exact hn103_4) | (show (Xw _ _).block ≠ _; rw [Zi]; exact hn103_4) | exact hn103_4) (.slice A101_4 ((rd_T32 l0 x17_1).f4).length c101_4)).trans hx103_0; replace hx103_1 := (Qw (p := ⟨gb102, 4, none⟩) (by first | (rw [Zi]; exact hn103_4) | (show (Xw _ _).block ≠ _; rw [Zi]; exact hn103_4) | exact hn103_4) (.slice A101_4 ((rd_T32 l0 x17_1).f4).length c101_4)).trans hx103_1; replace hx103_2 := (Qw (p := ⟨gb102, 4, none⟩) (by first | (rw [Zi]; exact hn103_4) | (show (Xw _ _).block ≠ _; rw [Zi]; exact hn103_4) | exact hn103_4) (.slice A101_4 ((rd_T32 l0 x17_1).f4).length c101_4)).trans hx103_2; replace hx103_3 := (Qw (p := ⟨gb102, 4, none⟩) (by first | (rw [Zi]; exact hn103_4) | (show (Xw _ _).block ≠ _; rw [Zi]; exact hn103_4) | exact hn103_4) (.slice A101_4 ((rd_T32 l0 x17_1).f4).length c101_4)).trans hx103_3; replace hx103_4 := (Qw (p := ⟨gb102, 4, none⟩) (by first | (rw [Zi]; exact hn103_4) | (show (Xw _ _).block ≠ _; rw [Zi]; exact hn103_4) | exact hn103_4) (.slice A101_4 ((rd_T32 l0 x17_1).f4).length c101_4)).trans hx103_4; clear hn103_0 hn103_1 hn103_2 hn103_3 hn103_4; replace p103 := eq_true p103; replace q103 := eq_true q103) | ((with_reducible refine Xc (N := 9) rfl ?_); refine Xa ?hg (N := 9) ?hd (cs := #[.int .i64 0, .int .i64 0, .int .i64 0, .int .i64 0, .slice none 0 0]) (t := 32) ?hr ?_; (case hd => rfl); (case hg => rfl); (case hr => first | (go_simp; done) | (go_simp; rfl)); intro gb104 hg w13 hbox hb; have BK104 := Qa (hbox); have GW104 := Qa ((by rw [hg]; exact (Qv (Bb1 HB.out GE102.out)) : w.heap.size ≤ gb104)); have GE104 := Qa ((by rw [hg]; exact (Qv (Bb1 HB.out GE102.out)) : w.heap.size ≤ gb104)); replace HB := Qa (Zc (Bb1 HB.out GE102.out) hb); have NB102_104 := Qa ((by rw [hg]; exact Zp (blk_lt (g := gb102) (o := .cells #[.int .i64 ((rd_T32 l0 x17_1).f0), .int .i64 ((rd_T32 l0 x17_1).f1), .int .i64 ((rd_T32 l0 x17_1).f2), .int .i64 ((rd_T32 l0 x17_1).f3), .slice A101_4 ((rd_T32 l0 x17_1).f4).length c101_4] 32 (0, 0)) (by (with_reducible repeat (first | refine Qg ?_ _ | refine Qh ?_ | refine Qf ?_ _)); refine Qr (cs := #[.int .i64 ((rd_T32 l0 x17_1).f0), .int .i64 ((rd_T32 l0 x17_1).f1), .int .i64 ((rd_T32 l0 x17_1).f2), .int .i64 ((rd_T32 l0 x17_1).f3), .slice none 0 0]) ?_ 4 _ rfl; (with_reducible repeat (first | refine Qg ?_ _ | refine Qh ?_ | refine Qf ?_ _)); refine Qr (cs := #[.int .i64 ((rd_T32 l0 x17_1).f0), .int .i64 ((rd_T32 l0 x17_1).f1), .int .i64 ((rd_T32 l0 x17_1).f2), .int .i64 0, .slice none 0 0]) ?_ 3 _ rfl; (with_reducible repeat (first | refine Qg ?_ _ | refine Qh ?_ | refine Qf ?_ _)); refine Qr (cs := #[.int .i64 ((rd_T32 l0 x17_1).f0), .int .i64 ((rd_T32 l0 x17_1).f1), .int .i64 0, .int .i64 0, .slice none 0 0]) ?_ 2 _ rfl; (with_reducible repeat (first | refine Qg ?_ _ | refine Qh ?_ | refine Qf ?_ _)); refine Qr (cs := #[.int .i64 ((rd_T32 l0 x17_1).f0), .int .i64 0, .int .i64 0, .int .i64 0, .slice none 0 0]) ?_ 1 _ rfl; (with_reducible repeat (first | refine Qg ?_ _ | refine Qh ?_ | refine Qf ?_ _)); refine Qr (cs := #[.int .i64 0, .int .i64 0, .int .i64 0, .int .i64 0, .slice none 0 0]) ?_ 0 _ rfl; (with_reducible repeat (first | refine Qg ?_ _ | refine Qh ?_ | refine Qf ?_ _)); exact BK102.out)) : gb102 ≠ gb104)); have NB104_102 := Qa ((by rw [hg]; exact Zy (blk_lt (g := gb102) (o := .cells #[.int .i64 ((rd_T32 l0 x17_1).f0), .int .i64 ((rd_T32 l0 x17_1).f1), .int .i64 ((rd_T32 l0 x17_1).f2), .int .i64 ((rd_T32 l0 x17_1).f3), .slice A101_4 ((rd_T32 l0 x17_1).f4).length c101_4] 32 (0, 0)) (by (with_reducible repeat (first | refine Qg ?_ _ | refine Qh ?_ | refine Qf ?_ _)); refine Qr (cs := #[.int .i64 ((rd_T32 l0 x17_1).f0), .int .i64 ((rd_T32 l0 x17_1).f1), .int .i64 ((rd_T32 l0 x17_1).f2), .int .i64 ((rd_T32 l0 x17_1).f3), .slice none 0 0]) ?_ 4 _ rfl; (with_reducible repeat (first | refine Qg ?_ _ | refine Qh ?_ | refine Qf ?_ _)); refine Qr (cs := #[.int .i64 ((rd_T32 l0 x17_1).f0), .int .i64 ((rd_T32 l0 x17_1).f1), .int .i64 ((rd_T32 l0 x17_1).f2), .int .i64 0, .slice none 0 0]) ?_ 3 _ rfl; (with_reducible repeat (first | refine Qg ?_ _ | refine Qh ?_ | refine Qf ?_ _)); refine Qr (cs := #[.int .i64 ((rd_T32 l0 x17_1).f0), .int .i64 ((rd_T32 l0 x17_1).f1), .int .i64 0, .int .i64 0, .slice none 0 0]) ?_ 2 _ rfl; (with_reducible repeat (first | refine Qg ?_ _ | refine Qh ?_ | refine Qf ?_ _)); refine Qr (cs := #[.int .i64 ((rd_T32 l0 x17_1).f0), .int .i64 0, .int .i64 0, .int .i64 0, .slice none 0 0]) ?_ 1 _ rfl; (with_reducible repeat (first | refine Qg ?_ _ | refine Qh ?_ | refine Qf ?_ _)); refine Qr (cs := #[.int .i64 0, .int .i64 0, .int .i64 0, .int .i64 0, .slice none 0 0]) ?_ 0 _ rfl; (with_reducible repeat (first | refine Qg ?_ _ | refine Qh ?_ | refine Qf ?_ _)); exact BK102.out)) : gb104 ≠ gb102)); replace BK102 := Qa (Qy (g := gb102) (o := .cells #[.int .i64 ((rd_T32 l0 x17_1).f0), .int .i64 ((rd_T32 l0 x17_1).f1), .int .i64 ((rd_T32 l0 x17_1).f2), .int .i64 ((rd_T32 l0 x17_1).f3), .slice A101_4 ((rd_T32 l0 x17_1).f4).length c101_4] 32 (0, 0)) (by (with_reducible repeat (first | refine Qg ?_ _ | refine Qh ?_ | refine Qf ?_ _)); refine Qr (cs := #[.int .i64 ((rd_T32 l0 x17_1).f0), .int .i64 ((rd_T32 l0 x17_1).f1), .int .i64 ((rd_T32 l0 x17_1).f2), .int .i64 ((rd_T32 l0 x17_1).f3), .slice none 0 0]) ?_ 4 _ rfl; (with_reducible repeat (first | refine Qg ?_ _ | refine Qh ?_ | refine Qf ?_ _)); refine Qr (cs := #[.int .i64 ((rd_T32 l0 x17_1).f0), .int .i64 ((rd_T32 l0 x17_1).f1), .int .i64 ((rd_T32 l0 x17_1).f2), .int .i64 0, .slice none 0 0]) ?_ 3 _ rfl; (with_reducible repeat (first | refine Qg ?_ _ | refine Qh ?_ | refine Qf ?_ _)); refine Qr (cs := #[.int .i64 ((rd_T32 l0 x17_1).f0), .int .i64 ((rd_T32 l0 x17_1).f1), .int .i64 0, .int .i64 0, .slice none 0 0]) ?_ 2 _ rfl; (with_reducible repeat (first | refine Qg ?_ _ | refine Qh ?_ | refine Qf ?_ _)); refine Qr (cs := #[.int .i64 ((rd_T32 l0 x17_1).f0), .int .i64 0, .int .i64 0, .int .i64 0, .slice none 0 0]) ?_ 1 _ rfl; (with_reducible repeat (first | refine Qg ?_ _ | refine Qh ?_ | refine Qf ?_ _)); refine Qr (cs := #[.int .i64 0, .int .i64 0, .int .i64 0, .int .i64 0, .slice none 0 0]) ?_ 0 _ rfl; (with_reducible repeat (first | refine Qg ?_ _ | refine Qh ?_ | refine Qf ?_ _)); exact BK102.out) hb); clear hb hbox hg; have hnb14 := NB104_102.out; have hnc14 := NB102_104.out; have q15_0 : w13.cell? ⟨gb104, 0, none⟩ = some (.int .i64 0) := (Qb BK104.out 0).trans rfl; have q15_1 : w13.cell? ⟨gb104, 1, none⟩ = some (.int .i64 0) := (Qb BK104.out 1).trans rfl; have q15_2 : w13.cell? ⟨gb104, 2, none⟩ = some (.int .i64 0) := (Qb BK104.out 2).trans rfl; have q15_3 : w13.cell? ⟨gb104, 3, none⟩ = some (.int .i64 0) := (Qb BK104.out 3).trans rfl; have q15_4 : w13.cell? ⟨gb104, 4, none⟩ = some (.slice none 0 0) := (Qb BK104.out 4).trans rfl; have u15_0 := Qc BK104.out 0; have u15_1 := Qc BK104.out 1; have u15_2 := Qc BK104.out 2; have u15_3 := Qc BK104.out 3; have u15_4 := Qc BK104.out 4; have q16_0 : w13.cell? ⟨gb102, 0, none⟩ = some (.int .i64 ((rd_T32 l0 x17_1).f0)) := (Qb BK102.out 0).trans rfl; have q16_1 : w13.cell? ⟨gb102, 1, none⟩ = some (.int .i64 ((rd_T32 l0 x17_1).f1)) := (Qb BK102.out 1).trans rfl; have q16_2 : w13.cell? ⟨gb102, 2, none⟩ = some (.int .i64 ((rd_T32 l0 x17_1).f2)) := (Qb BK102.out 2).trans rfl; have q16_3 : w13.cell? ⟨gb102, 3, none⟩ = some (.int .i64 ((rd_T32 l0 x17_1).f3)) := (Qb BK102.out 3).trans rfl; have q16_4 : w13.cell? ⟨gb102, 4, none⟩ = some (.slice A101_4 ((rd_T32 l0 x17_1).f4).length c101_4) := (Qb BK102.out 4).trans rfl; have u16_0 := Qc BK102.out 0; have u16_1 := Qc BK102.out 1; have u16_2 := Qc BK102.out 2; have u16_3 := Qc BK102.out 3; have u16_4 := Qc BK102.out 4) | (go_at_call 19; (with_reducible refine (ih k1 (by have := HK1.out; omega) ((rd_T32 l0 x17_1).f0) ((rd_T32 l0 x17_1).f1) ((rd_T32 l0 x17_1).f2) ((rd_T32 l0 x17_1).f3) _ _ ((rd_T32 l0 x17_1).f4) ((rd_T32 l1 x17_1).f0) ((rd_T32 l1 x17_1).f1) ((rd_T32 l1 x17_1).f2) ((rd_T32 l1 x17_1).f3) _ _ ((rd_T32 l1 x17_1).f4) true _ ?side1 ?side2 ?side3 ?side4 A9.out).mono ?_); (case side1 => exact Kd.C_below HR101_4.out (Bb2 HB.out GE102.out GE104.out)); (case side2 => exact HC101_4.out); (case side3 => exact Kd.C_below HR103_4.out (Bb2 HB.out GE102.out GE104.out)); (case side4 => exact HC103_4.out); rintro e w17 ⟨rfl, hb⟩; replace BK102 := Qa (Qy (g := gb102) (o := .cells #[.int .i64 ((rd_T32 l0 x17_1).f0), .int .i64 ((rd_T32 l0 x17_1).f1), .int .i64 ((rd_T32 l0 x17_1).f2), .int .i64 ((rd_T32 l0 x17_1).f3), .slice A101_4 ((rd_T32 l0 x17_1).f4).length c101_4] 32 (0, 0)) (by (iterate 5 ((with_reducible repeat (first | refine Qg ?_ _ | refine Qh ?_ | refine Qf ?_ _)); refine blk_far ?_ NB102_104.out _)); (with_reducible repeat (first | refine Qg ?_ _ | refine Qh ?_ | refine Qf ?_ _)); exact BK102.out) hb); replace BK104 := Qa (Qy (g := gb104) (o := .cells #[.int .i64 ((rd_T32 l1 x17_1).f0), .int .i64 ((rd_T32 l1 x17_1).f1), .int .i64 ((rd_T32 l1 x17_1).f2), .int .i64 ((rd_T32 l1 x17_1).f3), .slice A103_4 ((rd_T32 l1 x17_1).f4).length c103_4] 32 (0, 0)) (by (with_reducible repeat (first | refine Qg ?_ _ | refine Qh ?_ | refine Qf ?_ _)); refine Qr (cs := #[.int .i64 ((rd_T32 l1 x17_1).f0), .int .i64 ((rd_T32 l1 x17_1).f1), .int .i64 ((rd_T32 l1 x17_1).f2), .int .i64 ((rd_T32 l1 x17_1).f3), .slice none 0 0]) ?_ 4 _ rfl; (with_reducible repeat (first | refine Qg ?_ _ | refine Qh ?_ | refine Qf ?_ _)); refine Qr (cs := #[.int .i64 ((rd_T32 l1 x17_1).f0), .int .i64 ((rd_T32 l1 x17_1).f1), .int .i64 ((rd_T32 l1 x17_1).f2), .int .i64 0, .slice none 0 0]) ?_ 3 _ rfl; (with_reducible repeat (first | refine Qg ?_ _ | refine Qh ?_ | refine Qf ?_ _)); refine Qr (cs := #[.int .i64 ((rd_T32 l1 x17_1).f0), .int .i64 ((rd_T32 l1 x17_1).f1), .int .i64 0, .int .i64 0, .slice none 0 0]) ?_ 2 _ rfl; (with_reducible repeat (first | refine Qg ?_ _ | refine Qh ?_ | refine Qf ?_ _)); refine Qr (cs := #[.int .i64 ((rd_T32 l1 x17_1).f0), .int .i64 0, .int .i64 0, .int .i64 0, .slice none 0 0]) ?_ 1 _ rfl; (with_reducible repeat (first | refine Qg ?_ _ | refine Qh ?_ | refine Qf ?_ _)); refine Qr (cs := #[.int .i64 0, .int .i64 0, .int .i64 0, .int .i64 0, .slice none 0 0]) ?_ 0 _ rfl; (with_reducible repeat (first | refine Qg ?_ _ | refine Qh ?_ | refine Qf ?_ _)); exact BK104.out) hb); replace HB := Qa (Zc (Bb2 HB.out GE102.out GE104.out) hb); (try clear hb); (try clear hb2); (try clear hk); (try clear hi)))
         go_roundg k1
         case measure => have := HK1.out; omega
         case rel => exact ⟨(wrap64 (x17_1 + 1)), (by first | rfl | (simp; done) | (simp [*]; done) | (simp; rw [Qx]; simp; done)), H', ⟨by have := HK1.out; omega⟩, ⟨Bb2 HB.out GE102.out GE104.out⟩⟩
        ·replace c10 := Bool.eq_false_iff.mpr c10
         subst c10
         have H1 : (some false) = some r := by rw [if_neg (show ¬ (false = true) by decide)] at H; exact H
         clear H
         have H := H1
         clear H1
         obtain rfl := Qs H
         have p101 : 0 ≤ (x17_1 : Int) := of_decide_eq_true (by first | (with_reducible assumption) | assumption)
         have q101 : x17_1 < (l0.length : Int) := of_decide_eq_true (by first | (with_reducible assumption) | assumption)
         obtain ⟨ad101, A101_4, c101_4, e101, hx101_0, hx101_1, hx101_2, hx101_3, hx101_4, hl101_4, hi101_4⟩ := at_T32 HR0.out x17_1 p101 q101
         cases e101
         replace hx101_0 := (HB.out.cell (Qd w _ hx101_0)).trans hx101_0
         replace hx101_1 := (HB.out.cell (Qd w _ hx101_1)).trans hx101_1
         replace hx101_2 := (HB.out.cell (Qd w _ hx101_2)).trans hx101_2
         replace hx101_3 := (HB.out.cell (Qd w _ hx101_3)).trans hx101_3
         replace hx101_4 := (HB.out.cell (Qd w _ hx101_4)).trans hx101_4
         have HR101_4 := Qa hi101_4
         have HC101_4 := Qa hl101_4
         clear hi101_4 hl101_4
         replace p101 := eq_true p101
         replace q101 := eq_true q101
         go_wp2_with (first | ((with_reducible refine Xc (N := 8) rfl ?_); refine Xa ?hg (N := 8) ?hd (cs := #[.int .i64 0, .int .i64 0, .int .i64 0, .int .i64 0, .slice none 0 0]) (t := 32) ?hr ?_; (case hd => rfl); (case hg => rfl); (case hr => first | (go_simp; done) | (go_simp; rfl)); intro gb102 hg w18 hbox hb; have BK102 := Qa (hbox); have GW102 := Qa ((by rw [hg]; exact (Qv (Bb0 HB.out)) : w.heap.size ≤ gb102)); have GE102 := Qa ((by rw [hg]; exact (Qv (Bb0 HB.out)) : w.heap.size ≤ gb102)); replace HB := Qa (Zc (Bb0 HB.out) hb); clear hb hbox hg; have q19_0 : w18.cell? ⟨gb102, 0, none⟩ = some (.int .i64 0) := (Qb BK102.out 0).trans rfl; have q19_1 : w18.cell? ⟨gb102, 1, none⟩ = some (.int .i64 0) := (Qb BK102.out 1).trans rfl; have q19_2 : w18.cell? ⟨gb102, 2, none⟩ = some (.int .i64 0) := (Qb BK102.out 2).trans rfl; have q19_3 : w18.cell? ⟨gb102, 3, none⟩ = some (.int .i64 0) := (Qb BK102.out 3).trans rfl; have q19_4 : w18.cell? ⟨gb102, 4, none⟩ = some (.slice none 0 0) := (Qb BK102.out 4).trans rfl; have u19_0 := Qc BK102.out 0; have u19_1 := Qc BK102.out 1; have u19_2 := Qc BK102.out 2; have u19_3 := Qc BK102.out 3; have u19_4 := Qc BK102.out 4; have p103 : 0 ≤ (x17_1 : Int) := of_decide_eq_true (by first | (with_reducible assumption) | assumption); have q103 : x17_1 < (l1.length : Int) := of_decide_eq_true (by first | (with_reducible assumption) | assumption); obtain ⟨ad103, A103_4, c103_4, e103, hx103_0, hx103_1, hx103_2, hx103_3, hx103_4, hl103_4, hi103_4⟩ := at_T32 HR1.out x17_1 p103 q103; cases e103; have hn103_0 : ad103.block ≠ gb102 := Zp (Nat.lt_of_lt_of_le (by have := Qd _ _ hx103_0; first | rwa [Zi] at this | exact this) GW102.out); have hn103_1 : ad103.block ≠ gb102 := Zp (Nat.lt_of_lt_of_le (by have := Qd _ _ hx103_0; first | rwa [Zi] at this | exact this) GW102.out); have hn103_2 : ad103.block ≠ gb102 := Zp (Nat.lt_of_lt_of_le (by have := Qd _ _ hx103_0; first | rwa [Zi] at this | exact this) GW102.out); have hn103_3 : ad103.block ≠ gb102 := Zp (Nat.lt_of_lt_of_le (by have := Qd _ _ hx103_0; first | rwa [Zi] at this | exact this) GW102.out); have hn103_4 : ad103.block ≠ gb102 := Zp (Nat.lt_of_lt_of_le (by have := Qd _ _ hx103_0; first | rwa [Zi] at this | exact this) GW102.out); replace hx103_0 := (HB.out.cell (Qd w _ hx103_0)).trans hx103_0; replace hx103_1 := (HB.out.cell (Qd w _ hx103_1)).trans hx103_1; replace hx103_2 := (HB.out.cell (Qd w _ hx103_2)).trans hx103_2; replace hx103_3 := (HB.out.cell (Qd w _ hx103_3)).trans hx103_3; replace hx103_4 := (HB.out.cell (Qd w _ hx103_4)).trans hx103_4; have HR103_4 := Qa hi103_4; have HC103_4 := Qa hl103_4; clear hi103_4 hl103_4; replace hx103_0 := (Qw (p := ⟨gb102, 0, none⟩) (by first | (rw [Zi]; exact hn103_0) | (show (Xw _ _).block ≠ _; rw [Zi]; exact hn103_0) | exact hn103_0) (.int .i64 ((rd_T32 l0 x17_1).f0))).trans hx103_0; replace hx103_1 := (Qw (p := ⟨gb102, 0, none⟩) (by first | (rw [Zi]; exact hn103_0) | (show (Xw _ _).block ≠ _; rw [Zi]; exact hn103_0) | exact hn103_0) (.int .i64 ((rd_T32 l0 x17_1).f0))).trans hx103_1; replace hx103_2 := (Qw (p := ⟨gb102, 0, none⟩) (by first | (rw [Zi]; exact hn103_0) | (show (Xw _ _).block ≠ _; rw [Zi]; exact hn103_0) | exact hn103_0) (.int .i64 ((rd_T32 l0 x17_1).f0))).trans hx103_2; replace hx103_3 := (Qw (p := ⟨gb102, 0, none⟩) (by first | (rw [Zi]; exact hn103_0) | (show (Xw _ _).block ≠ _; rw [Zi]; exact hn103_0) | exact hn103_0) (.int .i64 ((rd_T32 l0 x17_1).f0))).trans hx103_3; replace hx103_4 := (Qw (p := ⟨gb102, 0, none⟩) (by first | (rw [Zi]; exact hn103_0) | (show (Xw _ _).block ≠ _; rw [Zi]; exact hn103_0) | exact hn103_0) (.int .i64 ((rd_T32 l0 x17_1).f0))).trans hx103_4; replace hx103_0 := (Qw (p := ⟨gb102, 1, none⟩) (by first | (rw [Zi]; exact hn103_1) | (show (Xw _ _).block ≠ _; rw [Zi]; exact hn103_1) | exact hn103_1) (.int .i64 ((rd_T32 l0 x17_1).f1))).trans hx103_0; replace hx103_1 := (Qw (p := ⟨gb102, 1, none⟩) (by first | (rw [Zi]; exact hn103_1) | (show (Xw _ _).block ≠ _; rw [Zi]; exact hn103_1) | exact hn103_1) (.int .i64 ((rd_T32 l0 x17_1).f1))).trans hx103_1; replace hx103_2 := (Qw (p := ⟨gb102, 1, none⟩) (by first | (rw [Zi]; exact hn103_1) | (show (Xw _ _).block ≠ _; rw [Zi]; exact hn103_1) | exact hn103_1) (.int .i64 ((rd_T32 l0 x17_1).f1))).trans hx103_2; replace hx103_3 := (Qw (p := ⟨gb102, 1, none⟩) (by first | (rw [Zi]; exact hn103_1) | (show (Xw _ _).block ≠ _; rw [Zi]; exact hn103_1) | exact hn103_1) (.int .i64 ((rd_T32 l0 x17_1).f1))).trans hx103_3; replace hx103_4 := (Qw (p := ⟨gb102, 1, none⟩) (by first | (rw [Zi]; exact hn103_1) | (show (Xw _ _).block ≠ _; rw [Zi]; exact hn103_1) | exact hn103_1) (.int .i64 ((rd_T32 l0 x17_1).f1))).trans hx103_4; replace hx103_0 := (Qw (p := ⟨gb102, 2, none⟩) (by first | (rw [Zi]; exact hn103_2) | (show (Xw _ _).block ≠ _; rw [Zi]; exact hn103_2) | exact hn103_2) (.int .i64 ((rd_T32 l0 x17_1).f2))).trans hx103_0; replace hx103_1 := (Qw (p := ⟨gb102, 2, none⟩) (by first | (rw [Zi]; exact hn103_2) | (show (Xw _ _).block ≠ _; rw [Zi]; exact hn103_2) | exact hn103_2) (.int .i64 ((rd_T32 l0 x17_1).f2))).trans hx103_1; replace hx103_2 := (Qw (p := ⟨gb102, 2, none⟩) (by first | (rw [Zi]; exact hn103_2) | (show (Xw _ _).block ≠ _; rw [Zi]; exact hn103_2) | exact hn103_2) (.int .i64 ((rd_T32 l0 x17_1).f2))).trans hx103_2; replace hx103_3 := (Qw (p := ⟨gb102, 2, none⟩) (by first | (rw [Zi]; exact hn103_2) | (show (Xw _ _).block ≠ _; rw [Zi]; exact hn103_2) | exact hn103_2) (.int .i64 ((rd_T32 l0 x17_1).f2))).trans hx103_3; replace hx103_4 := (Qw (p := ⟨gb102, 2, none⟩) (by first | (rw [Zi]; exact hn103_2) | (show (Xw _ _).block ≠ _; rw [Zi]; exact hn103_2) | exact hn103_2) (.int .i64 ((rd_T32 l0 x17_1).f2))).trans hx103_4; replace hx103_0 := (Qw (p := ⟨gb102, 3, none⟩) (by first | (rw [Zi]; exact hn103_3) | (show (Xw _ _).block ≠ _; rw [Zi]; exact hn103_3) | exact hn103_3) (.int .i64 ((rd_T32 l0 x17_1).f3))).trans hx103_0; replace hx103_1 := (Qw (p := ⟨gb102, 3, none⟩) (by first | (rw [Zi]; exact hn103_3) | (show (Xw _ _).block ≠ _; rw [Zi]; exact hn103_3) | exact hn103_3) (.int .i64 ((rd_T32 l0 x17_1).f3))).trans hx103_1; replace hx103_2 := (Qw (p := ⟨gb102, 3, none⟩) (by first | (rw [Zi]; exact hn103_3) | (show (Xw _ _).block ≠ _; rw [Zi]; exact hn103_3) | exact hn103_3) (.int .i64 ((rd_T32 l0 x17_1).f3))).trans hx103_2; replace hx103_3 := (Qw (p := ⟨gb102, 3, none⟩) (by first | (rw [Zi]; exact hn103_3) | (show (Xw _ _).block ≠ _; rw [Zi]; exact hn103_3) | exact hn103_3) (.int .i64 ((rd_T32 l0 x17_1).f3))).trans hx103_3; replace hx103_4 := (Qw (p := ⟨gb102, 3, none⟩) (by first | (rw [Zi]; exact hn103_3) | (show (Xw _ _).block ≠ _; rw [Zi]; exact hn103_3) | exact hn103_3) (.int .i64 ((rd_T32 l0 x17_1).f3))).trans hx103_4; replace hx103_0 := (Qw (p := ⟨gb102, 4, none⟩) (by first | (rw [Zi]; exact hn103_4) | (show (Xw _ _).block ≠ _; rw [Zi]; exact hn103_4) | exact hn103_4) (.slice A101_4 ((rd_T32 l0 x17_1).f4).length c101_4)).trans hx103_0; replace hx103_1 := (Qw (p := ⟨gb102, 4, none⟩) (by first | (rw [Zi]; exact hn103_4) | (show (Xw _ _).block ≠ _; rw [Zi]; exact hn103_4) | exact hn103_4) (.slice A101_4 ((rd_T32 l0 x17_1).f4).length c101_4)).trans hx103_1; replace hx103_2 := (Qw (p := ⟨gb102, 4, none⟩) (by first | (rw [Zi]; exact hn103_4) | (show (Xw _ _).block ≠ _; rw [Zi]; exact hn103_4) | exact hn103_4) (.slice A101_4 ((rd_T32 l0 x17_1).f4).length c101_4)).trans hx103_2; replace hx103_3 := (Qw (p := ⟨gb102, 4, none⟩) (by first | (rw [Zi]; exact hn103_4) | (show (Xw _ _).block ≠ _; rw [Zi]; exact hn103_4) | exact hn103_4) (.slice A101_4 ((rd_T32 l0 x17_1).f4).length c101_4)).trans hx103_3; replace hx103_4 := (Qw (p := ⟨gb102, 4, none⟩) (by first | (rw [Zi]; exact hn103_4) | (show (Xw _ _).block ≠ _; rw [Zi]; exact hn103_4) | exact hn103_4) (.slice A101_4 ((rd_T32 l0 x17_1).f4).length c101_4)).trans hx103_4; clear hn103_0 hn103_1 hn103_2 hn103_3 hn103_4; replace p103 := eq_true p103; replace q103 := eq_true q103) | ((with_reducible refine Xc (N := 9) rfl ?_); refine Xa ?hg (N := 9) ?hd (cs := #[.int .i64 0, .int .i64 0, .int .i64 0, .int .i64 0, .slice none 0 0]) (t := 32) ?hr ?_; (case hd => rfl); (case hg => rfl); (case hr => first | (go_simp; done) | (go_simp; rfl)); intro gb104 hg w20 hbox hb; have BK104 := Qa (hbox); have GW104 := Qa ((by rw [hg]; exact (Qv (Bb1 HB.out GE102.out)) : w.heap.size ≤ gb104)); have GE104 := Qa ((by rw [hg]; exact (Qv (Bb1 HB.out GE102.out)) : w.heap.size ≤ gb104)); replace HB := Qa (Zc (Bb1 HB.out GE102.out) hb); have NB102_104 := Qa ((by rw [hg]; exact Zp (blk_lt (g := gb102) (o := .cells #[.int .i64 ((rd_T32 l0 x17_1).f0), .int .i64 ((rd_T32 l0 x17_1).f1), .int .i64 ((rd_T32 l0 x17_1).f2), .int .i64 ((rd_T32 l0 x17_1).f3), .slice A101_4 ((rd_T32 l0 x17_1).f4).length c101_4] 32 (0, 0)) (by (with_reducible repeat (first | refine Qg ?_ _ | refine Qh ?_ | refine Qf ?_ _)); refine Qr (cs := #[.int .i64 ((rd_T32 l0 x17_1).f0), .int .i64 ((rd_T32 l0 x17_1).f1), .int .i64 ((rd_T32 l0 x17_1).f2), .int .i64 ((rd_T32 l0 x17_1).f3), .slice none 0 0]) ?_ 4 _ rfl; (with_reducible repeat (first | refine Qg ?_ _ | refine Qh ?_ | refine Qf ?_ _)); refine Qr (cs := #[.int .i64 ((rd_T32 l0 x17_1).f0), .int .i64 ((rd_T32 l0 x17_1).f1), .int .i64 ((rd_T32 l0 x17_1).f2), .int .i64 0, .slice none 0 0]) ?_ 3 _ rfl; (with_reducible repeat (first | refine Qg ?_ _ | refine Qh ?_ | refine Qf ?_ _)); refine Qr (cs := #[.int .i64 ((rd_T32 l0 x17_1).f0), .int .i64 ((rd_T32 l0 x17_1).f1), .int .i64 0, .int .i64 0, .slice none 0 0]) ?_ 2 _ rfl; (with_reducible repeat (first | refine Qg ?_ _ | refine Qh ?_ | refine Qf ?_ _)); refine Qr (cs := #[.int .i64 ((rd_T32 l0 x17_1).f0), .int .i64 0, .int .i64 0, .int .i64 0, .slice none 0 0]) ?_ 1 _ rfl; (with_reducible repeat (first | refine Qg ?_ _ | refine Qh ?_ | refine Qf ?_ _)); refine Qr (cs := #[.int .i64 0, .int .i64 0, .int .i64 0, .int .i64 0, .slice none 0 0]) ?_ 0 _ rfl; (with_reducible repeat (first | refine Qg ?_ _ | refine Qh ?_ | refine Qf ?_ _)); exact BK102.out)) : gb102 ≠ gb104)); have NB104_102 := Qa ((by rw [hg]; exact Zy (blk_lt (g := gb102) (o := .cells #[.int .i64 ((rd_T32 l0 x17_1).f0), .int .i64 ((rd_T32 l0 x17_1).f1), .int .i64 ((rd_T32 l0 x17_1).f2), .int .i64 ((rd_T32 l0 x17_1).f3), .slice A101_4 ((rd_T32 l0 x17_1).f4).length c101_4] 32 (0, 0)) (by (with_reducible repeat (first | refine Qg ?_ _ | refine Qh ?_ | refine Qf ?_ _)); refine Qr (cs := #[.int .i64 ((rd_T32 l0 x17_1).f0), .int .i64 ((rd_T32 l0 x17_1).f1), .int .i64 ((rd_T32 l0 x17_1).f2), .int .i64 ((rd_T32 l0 x17_1).f3), .slice none 0 0]) ?_ 4 _ rfl; (with_reducible repeat (first | refine Qg ?_ _ | refine Qh ?_ | refine Qf ?_ _)); refine Qr (cs := #[.int .i64 ((rd_T32 l0 x17_1).f0), .int .i64 ((rd_T32 l0 x17_1).f1), .int .i64 ((rd_T32 l0 x17_1).f2), .int .i64 0, .slice none 0 0]) ?_ 3 _ rfl; (with_reducible repeat (first | refine Qg ?_ _ | refine Qh ?_ | refine Qf ?_ _)); refine Qr (cs := #[.int .i64 ((rd_T32 l0 x17_1).f0), .int .i64 ((rd_T32 l0 x17_1).f1), .int .i64 0, .int .i64 0, .slice none 0 0]) ?_ 2 _ rfl; (with_reducible repeat (first | refine Qg ?_ _ | refine Qh ?_ | refine Qf ?_ _)); refine Qr (cs := #[.int .i64 ((rd_T32 l0 x17_1).f0), .int .i64 0, .int .i64 0, .int .i64 0, .slice none 0 0]) ?_ 1 _ rfl; (with_reducible repeat (first | refine Qg ?_ _ | refine Qh ?_ | refine Qf ?_ _)); refine Qr (cs := #[.int .i64 0, .int .i64 0, .int .i64 0, .int .i64 0, .slice none 0 0]) ?_ 0 _ rfl; (with_reducible repeat (first | refine Qg ?_ _ | refine Qh ?_ | refine Qf ?_ _)); exact BK102.out)) : gb104 ≠ gb102)); replace BK102 := Qa (Qy (g := gb102) (o := .cells #[.int .i64 ((rd_T32 l0 x17_1).f0), .int .i64 ((rd_T32 l0 x17_1).f1), .int .i64 ((rd_T32 l0 x17_1).f2), .int .i64 ((rd_T32 l0 x17_1).f3), .slice A101_4 ((rd_T32 l0 x17_1).f4).length c101_4] 32 (0, 0)) (by (with_reducible repeat (first | refine Qg ?_ _ | refine Qh ?_ | refine Qf ?_ _)); refine Qr (cs := #[.int .i64 ((rd_T32 l0 x17_1).f0), .int .i64 ((rd_T32 l0 x17_1).f1), .int .i64 ((rd_T32 l0 x17_1).f2), .int .i64 ((rd_T32 l0 x17_1).f3), .slice none 0 0]) ?_ 4 _ rfl; (with_reducible repeat (first | refine Qg ?_ _ | refine Qh ?_ | refine Qf ?_ _)); refine Qr (cs := #[.int .i64 ((rd_T32 l0 x17_1).f0), .int .i64 ((rd_T32 l0 x17_1).f1), .int .i64 ((rd_T32 l0 x17_1).f2), .int .i64 0, .slice none 0 0]) ?_ 3 _ rfl; (with_reducible repeat (first | refine Qg ?_ _ | refine Qh ?_ | refine Qf ?_ _)); refine Qr (cs := #[.int .i64 ((rd_T32 l0 x17_1).f0), .int .i64 ((rd_T32 l0 x17_1).f1), .int .i64 0, .int .i64 0, .slice none 0 0]) ?_ 2 _ rfl; (with_reducible repeat (first | refine Qg ?_ _ | refine Qh ?_ | refine Qf ?_ _)); refine Qr (cs := #[.int .i64 ((rd_T32 l0 x17_1).f0), .int .i64 0, .int .i64 0, .int .i64 0, .slice none 0 0]) ?_ 1 _ rfl; (with_reducible repeat (first | refine Qg ?_ _ | refine Qh ?_ | refine Qf ?_ _)); refine Qr (cs := #[.int .i64 0, .int .i64 0, .int .i64 0, .int .i64 0, .slice none 0 0]) ?_ 0 _ rfl; (with_reducible repeat (first | refine Qg ?_ _ | refine Qh ?_ | refine Qf ?_ _)); exact BK102.out) hb); clear hb hbox hg; have hnb21 := NB104_102.out; have hnc21 := NB102_104.out; have q22_0 : w20.cell? ⟨gb104, 0, none⟩ = some (.int .i64 0) := (Qb BK104.out 0).trans rfl; have q22_1 : w20.cell? ⟨gb104, 1, none⟩ = some (.int .i64 0) := (Qb BK104.out 1).trans rfl; have q22_2 : w20.cell? ⟨gb104, 2, none⟩ = some (.int .i64 0) := (Qb BK104.out 2).trans rfl; have q22_3 : w20.cell? ⟨gb104, 3, none⟩ = some (.int .i64 0) := (Qb BK104.out 3).trans rfl; have q22_4 : w20.cell? ⟨gb104, 4, none⟩ = some (.slice none 0 0) := (Qb BK104.out 4).trans rfl; have u22_0 := Qc BK104.out 0; have u22_1 := Qc BK104.out 1; have u22_2 := Qc BK104.out 2; have u22_3 := Qc BK104.out 3; have u22_4 := Qc BK104.out 4; have q23_0 : w20.cell? ⟨gb102, 0, none⟩ = some (.int .i64 ((rd_T32 l0 x17_1).f0)) := (Qb BK102.out 0).trans rfl; have q23_1 : w20.cell? ⟨gb102, 1, none⟩ = some (.int .i64 ((rd_T32 l0 x17_1).f1)) := (Qb BK102.out 1).trans rfl; have q23_2 : w20.cell? ⟨gb102, 2, none⟩ = some (.int .i64 ((rd_T32 l0 x17_1).f2)) := (Qb BK102.out 2).trans rfl; have q23_3 : w20.cell? ⟨gb102, 3, none⟩ = some (.int .i64 ((rd_T32 l0 x17_1).f3)) := (Qb BK102.out 3).trans rfl; have q23_4 : w20.cell? ⟨gb102, 4, none⟩ = some (.slice A101_4 ((rd_T32 l0 x17_1).f4).length c101_4) := (Qb BK102.out 4).trans rfl; have u23_0 := Qc BK102.out 0; have u23_1 := Qc BK102.out 1; have u23_2 := Qc BK102.out 2; have u23_3 := Qc BK102.out 3; have u23_4 := Qc BK102.out 4) | (go_at_call 19; (with_reducible refine (ih k1 (by have := HK1.out; omega) ((rd_T32 l0 x17_1).f0) ((rd_T32 l0 x17_1).f1) ((rd_T32 l0 x17_1).f2) ((rd_T32 l0 x17_1).f3) _ _ ((rd_T32 l0 x17_1).f4) ((rd_T32 l1 x17_1).f0) ((rd_T32 l1 x17_1).f1) ((rd_T32 l1 x17_1).f2) ((rd_T32 l1 x17_1).f3) _ _ ((rd_T32 l1 x17_1).f4) false _ ?side1 ?side2 ?side3 ?side4 A9.out).mono ?_); (case side1 => exact Kd.C_below HR101_4.out (Bb2 HB.out GE102.out GE104.out)); (case side2 => exact HC101_4.out); (case side3 => exact Kd.C_below HR103_4.out (Bb2 HB.out GE102.out GE104.out)); (case side4 => exact HC103_4.out); rintro e w24 ⟨rfl, hb⟩; replace BK102 := Qa (Qy (g := gb102) (o := .cells #[.int .i64 ((rd_T32 l0 x17_1).f0), .int .i64 ((rd_T32 l0 x17_1).f1), .int .i64 ((rd_T32 l0 x17_1).f2), .int .i64 ((rd_T32 l0 x17_1).f3), .slice A101_4 ((rd_T32 l0 x17_1).f4).length c101_4] 32 (0, 0)) (by (iterate 5 ((with_reducible repeat (first | refine Qg ?_ _ | refine Qh ?_ | refine Qf ?_ _)); refine blk_far ?_ NB102_104.out _)); (with_reducible repeat (first | refine Qg ?_ _ | refine Qh ?_ | refine Qf ?_ _)); exact BK102.out) hb); replace BK104 := Qa (Qy (g := gb104) (o := .cells #[.int .i64 ((rd_T32 l1 x17_1).f0), .int .i64 ((rd_T32 l1 x17_1).f1), .int .i64 ((rd_T32 l1 x17_1).f2), .int .i64 ((rd_T32 l1 x17_1).f3), .slice A103_4 ((rd_T32 l1 x17_1).f4).length c103_4] 32 (0, 0)) (by (with_reducible repeat (first | refine Qg ?_ _ | refine Qh ?_ | refine Qf ?_ _)); refine Qr (cs := #[.int .i64 ((rd_T32 l1 x17_1).f0), .int .i64 ((rd_T32 l1 x17_1).f1), .int .i64 ((rd_T32 l1 x17_1).f2), .int .i64 ((rd_T32 l1 x17_1).f3), .slice none 0 0]) ?_ 4 _ rfl; (with_reducible repeat (first | refine Qg ?_ _ | refine Qh ?_ | refine Qf ?_ _)); refine Qr (cs := #[.int .i64 ((rd_T32 l1 x17_1).f0), .int .i64 ((rd_T32 l1 x17_1).f1), .int .i64 ((rd_T32 l1 x17_1).f2), .int .i64 0, .slice none 0 0]) ?_ 3 _ rfl; (with_reducible repeat (first | refine Qg ?_ _ | refine Qh ?_ | refine Qf ?_ _)); refine Qr (cs := #[.int .i64 ((rd_T32 l1 x17_1).f0), .int .i64 ((rd_T32 l1 x17_1).f1), .int .i64 0, .int .i64 0, .slice none 0 0]) ?_ 2 _ rfl; (with_reducible repeat (first | refine Qg ?_ _ | refine Qh ?_ | refine Qf ?_ _)); refine Qr (cs := #[.int .i64 ((rd_T32 l1 x17_1).f0), .int .i64 0, .int .i64 0, .int .i64 0, .slice none 0 0]) ?_ 1 _ rfl; (with_reducible repeat (first | refine Qg ?_ _ | refine Qh ?_ | refine Qf ?_ _)); refine Qr (cs := #[.int .i64 0, .int .i64 0, .int .i64 0, .int .i64 0, .slice none 0 0]) ?_ 0 _ rfl; (with_reducible repeat (first | refine Qg ?_ _ | refine Qh ?_ | refine Qf ?_ _)); exact BK104.out) hb); replace HB := Qa (Zc (Bb2 HB.out GE102.out GE104.out) hb); (try clear hb); (try clear hb2); (try clear hk); (try clear hi)))
         go_ret
         exact ⟨by first | rfl | (simp [errW_none, errW_some] <;> rfl) | (simp [*, errW_none, errW_some] <;> rfl), by repeat (first | (with_reducible first | exact HB.out | apply Za | apply Qp | apply Qu | refine Ql ?_ GE102.out | refine Ql ?_ GE104.out) | exact HB.out)⟩
       ·rw [if_neg c8] at H
        exact absurd H (by simp)
      ·rw [if_neg c7] at H
       exact absurd H (by simp)
     ·rw [if_neg c6] at H
      exact absurd H (by simp)
    ·rw [if_neg c5] at H
     have c5b0 : decide (x17_1 < (l0.length : Int)) = false := decide_eq_false c5
     clear c5
     obtain rfl := Qs H
     go_wp2
     go_ret
     exact ⟨by first | rfl | (simp [errW_none, errW_some] <;> rfl) | (simp [*, errW_none, errW_some] <;> rfl), by repeat (first | (with_reducible first | exact HB.out | apply Za | apply Qp | apply Qu) | exact HB.out)⟩
 ·rw [if_neg c4] at H
  have c4b0 : ((l0.length : Int) == (l1.length : Int)) = false := beq_eq_false_iff_ne.mpr c4
  have c4b1 : ((l0.length : Int) != (l1.length : Int)) = true := bne_iff_ne.mpr c4
  have c4b2 : (l0.length == l1.length) = false := by first | simpa using c4 | (simp at c4 ⊢; omega)
  obtain rfl := Qs H
  go_enter Try.func53, Try.ntmps53
  go_wp2
  go_ret
  exact ⟨by first | rfl | (simp [errW_none, errW_some] <;> rfl) | (simp [*, errW_none, errW_some] <;> rfl), by repeat (first | (with_reducible first | exact HB.out | apply Za | apply Qp | apply Qu) | exact HB.out)⟩
set_option maxHeartbeats 8000000 in
set_option maxRecDepth 100000 in
theorem impl_EqualFormula.calls_of (k : Nat) (ih : ∀ m_, m_ < k → ∀ (A0 : Option Addr) (c0 : Nat) (l0 : List (S32)) (A1 : Option Addr) (c1 : Nat) (l1 : List (S32))  (r : Bool) (w : Xs) (hr0 : Kd.C k32 w A0 l0.length l0) (hc0 : l0.length ≤ c0) (hr1 : Kd.C k32 w A1 l1.length l1) (hc1 : l1.length ≤ c1) (h : impl_Formula_EqualFormula.f m_ l0 l1 = some r), Calls Xh 53 #[.slice A0 l0.length c0, .slice A1 l1.length c1, .func (.func 19) #[] #[]] w fun e w' => e = .returned (.bool r) ∧ Below w.heap.size w w') : ∀ (a0_0 : Int) (a0_1 : Int) (a0_2 : Int) (a0_3 : Int) (A0_4 : Option Addr) (c0_4 : Nat) (l0_4 : List (S32)) (a1_0 : Int) (a1_1 : Int) (a1_2 : Int) (a1_3 : Int) (A1_4 : Option Addr) (c1_4 : Nat) (l1_4 : List (S32)) (r : Bool) (w : Xs) (hr0_4 : Kd.C k32 w A0_4 l0_4.length l0_4) (hc0_4 : l0_4.length ≤ c0_4) (hr1_4 : Kd.C k32 w A1_4 l1_4.length l1_4) (hc1_4 : l1_4.length ≤ c1_4) (h : impl_EqualFormula.f k a0_0 a0_1 a0_2 a0_3 l0_4 a1_0 a1_1 a1_2 a1_3 l1_4 = some r), Calls Xh 19 #[.agg #[.int .i64 a0_0, .int .i64 a0_1, .int .i64 a0_2, .int .i64 a0_3, .slice A0_4 l0_4.length c0_4], .agg #[.int .i64 a1_0, .int .i64 a1_1, .int .i64 a1_2, .int .i64 a1_3, .slice A1_4 l1_4.length c1_4]] w fun e w' => e = .returned (.bool r) ∧ Below w.heap.size w w' := by
 intro a0_0 a0_1 a0_2 a0_3 A0_4 c0_4 l0_4 a1_0 a1_1 a1_2 a1_3 A1_4 c1_4 l1_4 r w hr0_4 hc0_4 hr1_4 hc1_4 h
 cases k with
 | zero => exact absurd h (by simp [impl_EqualFormula.f])
 | succ k =>
 simp only [impl_EqualFormula.f] at h
 have hu32 := Try.underlying32
 have HR0_4 := Qa hr0_4
 have HC0_4 := Qa hc0_4
 clear hr0_4 hc0_4
 have HR1_4 := Qa hr1_4
 have HC1_4 := Qa hc1_4
 clear hr1_4 hc1_4
 have HB := Qa (Below.refl w.heap.size w)
 have H : (if a0_0 = a1_0 then (if a0_1 = a1_1 then (if a0_2 = a1_2 then (if a0_3 = a1_3 then ((impl_Formula_EqualFormula.f k l0_4 l1_4).bind fun t108 => (some t108)) else (some false)) else (some false)) else (some false)) else (some false)) = some r := h
 clear h
 by_cases c3 : a0_0 = a1_0
 ·rw [if_pos c3] at H
  have c3b0 : (a0_0 == a1_0) = true := beq_iff_eq.mpr c3
  have c3b1 : (a0_0 != a1_0) = false := bne_eq_false_iff_eq.mpr c3
  clear c3
  by_cases c4 : a0_1 = a1_1
  ·rw [if_pos c4] at H
   have c4b0 : (a0_1 == a1_1) = true := beq_iff_eq.mpr c4
   have c4b1 : (a0_1 != a1_1) = false := bne_eq_false_iff_eq.mpr c4
   clear c4
   by_cases c5 : a0_2 = a1_2
   ·rw [if_pos c5] at H
    have c5b0 : (a0_2 == a1_2) = true := beq_iff_eq.mpr c5
    have c5b1 : (a0_2 != a1_2) = false := bne_eq_false_iff_eq.mpr c5
    clear c5
    by_cases c6 : a0_3 = a1_3
    ·rw [if_pos c6] at H
     have c6b0 : (a0_3 == a1_3) = true := beq_iff_eq.mpr c6
     have c6b1 : (a0_3 != a1_3) = false := bne_eq_false_iff_eq.mpr c6
     clear c6
     replace H := Qi.mp H
     obtain ⟨t108, A70, H⟩ := H
     replace H : (some t108) = some r := H
     have A7 := Qa A70
     clear A70
     obtain rfl := Qs H
     go_enter Try.func19, Try.ntmps19
     go_wp2_with (first | ((with_reducible refine Xc (N := 2) rfl ?_); refine Xa ?hg (N := 2) ?hd (cs := #[.int .i64 a0_0, .int .i64 a0_1, .int .i64 a0_2, .int .i64 a0_3, .slice A0_4 l0_4.length c0_4]) (t := 32) ?hr ?_; (case hd => rfl); (case hg => rfl); (case hr => first | (go_simp; done) | (go_simp; rfl)); intro gb106 hg w8 hbox hb; have BK106 := Qa (hbox); have GW106 := Qa ((by rw [hg]; exact (Qv (Bb0 HB.out)) : w.heap.size ≤ gb106)); have GE106 := Qa ((by rw [hg]; exact (Qv (Bb0 HB.out)) : w.heap.size ≤ gb106)); replace HB := Qa (Zc (Bb0 HB.out) hb); clear hb hbox hg) | ((with_reducible refine Xc (N := 3) rfl ?_); refine Xa ?hg (N := 3) ?hd (cs := #[.int .i64 a1_0, .int .i64 a1_1, .int .i64 a1_2, .int .i64 a1_3, .slice A1_4 l1_4.length c1_4]) (t := 32) ?hr ?_; (case hd => rfl); (case hg => rfl); (case hr => first | (go_simp; done) | (go_simp; rfl)); intro gb107 hg w9 hbox hb; have BK107 := Qa (hbox); have GW107 := Qa ((by rw [hg]; exact (Qv (Bb1 HB.out GE106.out)) : w.heap.size ≤ gb107)); have GE107 := Qa ((by rw [hg]; exact (Qv (Bb1 HB.out GE106.out)) : w.heap.size ≤ gb107)); replace HB := Qa (Zc (Bb1 HB.out GE106.out) hb); have NB106_107 := Qa ((by rw [hg]; exact Zp (blk_lt (g := gb106) (o := .cells #[.int .i64 a0_0, .int .i64 a0_1, .int .i64 a0_2, .int .i64 a0_3, .slice A0_4 l0_4.length c0_4] 32 (0, 0)) (Ba BK106.out)) : gb106 ≠ gb107)); have NB107_106 := Qa ((by rw [hg]; exact Zy (blk_lt (g := gb106) (o := .cells #[.int .i64 a0_0, .int .i64 a0_1, .int .i64 a0_2, .int .i64 a0_3, .slice A0_4 l0_4.length c0_4] 32 (0, 0)) (Ba BK106.out)) : gb107 ≠ gb106)); replace BK106 := Qa (Qy (g := gb106) (o := .cells #[.int .i64 a0_0, .int .i64 a0_1, .int .i64 a0_2, .int .i64 a0_3, .slice A0_4 l0_4.length c0_4] 32 (0, 0)) (Ba BK106.out) hb); clear hb hbox hg; have hnb10 := NB106_107.out; have hnc10 := NB107_106.out; have q11_0 : w9.cell? ⟨gb106, 0, none⟩ = some (.int .i64 a0_0) := (Qb BK106.out 0).trans rfl; have q11_1 : w9.cell? ⟨gb106, 1, none⟩ = some (.int .i64 a0_1) := (Qb BK106.out 1).trans rfl; have q11_2 : w9.cell? ⟨gb106, 2, none⟩ = some (.int .i64 a0_2) := (Qb BK106.out 2).trans rfl; have q11_3 : w9.cell? ⟨gb106, 3, none⟩ = some (.int .i64 a0_3) := (Qb BK106.out 3).trans rfl; have q11_4 : w9.cell? ⟨gb106, 4, none⟩ = some (.slice A0_4 l0_4.length c0_4) := (Qb BK106.out 4).trans rfl; have u11_0 := Qc BK106.out 0; have u11_1 := Qc BK106.out 1; have u11_2 := Qc BK106.out 2; have u11_3 := Qc BK106.out 3; have u11_4 := Qc BK106.out 4; have q12_0 : w9.cell? ⟨gb107, 0, none⟩ = some (.int .i64 a1_0) := (Qb BK107.out 0).trans rfl; have q12_1 : w9.cell? ⟨gb107, 1, none⟩ = some (.int .i64 a1_1) := (Qb BK107.out 1).trans rfl; have q12_2 : w9.cell? ⟨gb107, 2, none⟩ = some (.int .i64 a1_2) := (Qb BK107.out 2).trans rfl; have q12_3 : w9.cell? ⟨gb107, 3, none⟩ = some (.int .i64 a1_3) := (Qb BK107.out 3).trans rfl; have q12_4 : w9.cell? ⟨gb107, 4, none⟩ = some (.slice A1_4 l1_4.length c1_4) := (Qb BK107.out 4).trans rfl; have u12_0 := Qc BK107.out 0; have u12_1 := Qc BK107.out 1; have u12_2 := Qc BK107.out 2; have u12_3 := Qc BK107.out 3; have u12_4 := Qc BK107.out 4) | (go_at_call 53; (with_reducible refine (ih k (by omega) _ _ l0_4 _ _ l1_4  t108 _ ?side1 ?side2 ?side3 ?side4 A7.out).mono ?_); (case side1 => repeat (first | exact (Kd.C_below HR0_4.out HB.out) | (with_reducible refine Kd.C_alloc ?_ _) | (with_reducible refine Kd.C_drewN ?_ _) | (with_reducible refine Kd.C_drew ?_))); (case side2 => exact HC0_4.out); (case side3 => repeat (first | exact (Kd.C_below HR1_4.out HB.out) | (with_reducible refine Kd.C_alloc ?_ _) | (with_reducible refine Kd.C_drewN ?_ _) | (with_reducible refine Kd.C_drew ?_))); (case side4 => exact HC1_4.out); rintro e w13 ⟨rfl, hb⟩; replace BK106 := Qa (Qy (g := gb106) (o := .cells #[.int .i64 a0_0, .int .i64 a0_1, .int .i64 a0_2, .int .i64 a0_3, .slice A0_4 l0_4.length c0_4] 32 (0, 0)) (Ba BK106.out) hb); replace BK107 := Qa (Qy (g := gb107) (o := .cells #[.int .i64 a1_0, .int .i64 a1_1, .int .i64 a1_2, .int .i64 a1_3, .slice A1_4 l1_4.length c1_4] 32 (0, 0)) (Ba BK107.out) hb); replace HB := Qa (Zc (Bb2 HB.out GE106.out GE107.out) hb); (try clear hb); (try clear hb2); (try clear hk); (try clear hi)))
     go_ret
     exact ⟨by first | rfl | (simp [errW_none, errW_some] <;> rfl) | (simp [*, errW_none, errW_some] <;> rfl), by repeat (first | (with_reducible first | exact HB.out | apply Za | apply Qp | apply Qu | refine Ql ?_ GE106.out | refine Ql ?_ GE107.out) | exact HB.out)⟩
    ·rw [if_neg c6] at H
     have c6b0 : (a0_3 == a1_3) = false := beq_eq_false_iff_ne.mpr c6
     have c6b1 : (a0_3 != a1_3) = true := bne_iff_ne.mpr c6
     obtain rfl := Qs H
     go_enter Try.func19, Try.ntmps19
     go_wp2_with (first | ((with_reducible refine Xc (N := 2) rfl ?_); refine Xa ?hg (N := 2) ?hd (cs := #[.int .i64 a0_0, .int .i64 a0_1, .int .i64 a0_2, .int .i64 a0_3, .slice A0_4 l0_4.length c0_4]) (t := 32) ?hr ?_; (case hd => rfl); (case hg => rfl); (case hr => first | (go_simp; done) | (go_simp; rfl)); intro gb106 hg w14 hbox hb; have BK106 := Qa (hbox); have GW106 := Qa ((by rw [hg]; exact (Qv (Bb0 HB.out)) : w.heap.size ≤ gb106)); have GE106 := Qa ((by rw [hg]; exact (Qv (Bb0 HB.out)) : w.heap.size ≤ gb106)); replace HB := Qa (Zc (Bb0 HB.out) hb); clear hb hbox hg) | ((with_reducible refine Xc (N := 3) rfl ?_); refine Xa ?hg (N := 3) ?hd (cs := #[.int .i64 a1_0, .int .i64 a1_1, .int .i64 a1_2, .int .i64 a1_3, .slice A1_4 l1_4.length c1_4]) (t := 32) ?hr ?_; (case hd => rfl); (case hg => rfl); (case hr => first | (go_simp; done) | (go_simp; rfl)); intro gb107 hg w15 hbox hb; have BK107 := Qa (hbox); have GW107 := Qa ((by rw [hg]; exact (Qv (Bb1 HB.out GE106.out)) : w.heap.size ≤ gb107)); have GE107 := Qa ((by rw [hg]; exact (Qv (Bb1 HB.out GE106.out)) : w.heap.size ≤ gb107)); replace HB := Qa (Zc (Bb1 HB.out GE106.out) hb); have NB106_107 := Qa ((by rw [hg]; exact Zp (blk_lt (g := gb106) (o := .cells #[.int .i64 a0_0, .int .i64 a0_1, .int .i64 a0_2, .int .i64 a0_3, .slice A0_4 l0_4.length c0_4] 32 (0, 0)) (Ba BK106.out)) : gb106 ≠ gb107)); have NB107_106 := Qa ((by rw [hg]; exact Zy (blk_lt (g := gb106) (o := .cells #[.int .i64 a0_0, .int .i64 a0_1, .int .i64 a0_2, .int .i64 a0_3, .slice A0_4 l0_4.length c0_4] 32 (0, 0)) (Ba BK106.out)) : gb107 ≠ gb106)); replace BK106 := Qa (Qy (g := gb106) (o := .cells #[.int .i64 a0_0, .int .i64 a0_1, .int .i64 a0_2, .int .i64 a0_3, .slice A0_4 l0_4.length c0_4] 32 (0, 0)) (Ba BK106.out) hb); clear hb hbox hg; have hnb16 := NB106_107.out; have hnc16 := NB107_106.out; have q17_0 : w15.cell? ⟨gb106, 0, none⟩ = some (.int .i64 a0_0) := (Qb BK106.out 0).trans rfl; have q17_1 : w15.cell? ⟨gb106, 1, none⟩ = some (.int .i64 a0_1) := (Qb BK106.out 1).trans rfl; have q17_2 : w15.cell? ⟨gb106, 2, none⟩ = some (.int .i64 a0_2) := (Qb BK106.out 2).trans rfl; have q17_3 : w15.cell? ⟨gb106, 3, none⟩ = some (.int .i64 a0_3) := (Qb BK106.out 3).trans rfl; have q17_4 : w15.cell? ⟨gb106, 4, none⟩ = some (.slice A0_4 l0_4.length c0_4) := (Qb BK106.out 4).trans rfl; have u17_0 := Qc BK106.out 0; have u17_1 := Qc BK106.out 1; have u17_2 := Qc BK106.out 2; have u17_3 := Qc BK106.out 3; have u17_4 := Qc BK106.out 4; have q18_0 : w15.cell? ⟨gb107, 0, none⟩ = some (.int .i64 a1_0) := (Qb BK107.out 0).trans rfl; have q18_1 : w15.cell? ⟨gb107, 1, none⟩ = some (.int .i64 a1_1) := (Qb BK107.out 1).trans rfl; have q18_2 : w15.cell? ⟨gb107, 2, none⟩ = some (.int .i64 a1_2) := (Qb BK107.out 2).trans rfl; have q18_3 : w15.cell? ⟨gb107, 3, none⟩ = some (.int .i64 a1_3) := (Qb BK107.out 3).trans rfl; have q18_4 : w15.cell? ⟨gb107, 4, none⟩ = some (.slice A1_4 l1_4.length c1_4) := (Qb BK107.out 4).trans rfl; have u18_0 := Qc BK107.out 0; have u18_1 := Qc BK107.out 1; have u18_2 := Qc BK107.out 2; have u18_3 := Qc BK107.out 3; have u18_4 := Qc BK107.out 4))
     go_ret
     exact ⟨by first | rfl | (simp [errW_none, errW_some] <;> rfl) | (simp [*, errW_none, errW_some] <;> rfl), by repeat (first | (with_reducible first | exact HB.out | apply Za | apply Qp | apply Qu | refine Ql ?_ GE106.out | refine Ql ?_ GE107.out) | exact HB.out)⟩
   ·rw [if_neg c5] at H
    have c5b0 : (a0_2 == a1_2) = false := beq_eq_false_iff_ne.mpr c5
    have c5b1 : (a0_2 != a1_2) = true := bne_iff_ne.mpr c5
    obtain rfl := Qs H
    go_enter Try.func19, Try.ntmps19
    go_wp2_with (first | ((with_reducible refine Xc (N := 2) rfl ?_); refine Xa ?hg (N := 2) ?hd (cs := #[.int .i64 a0_0, .int .i64 a0_1, .int .i64 a0_2, .int .i64 a0_3, .slice A0_4 l0_4.length c0_4]) (t := 32) ?hr ?_; (case hd => rfl); (case hg => rfl); (case hr => first | (go_simp; done) | (go_simp; rfl)); intro gb106 hg w19 hbox hb; have BK106 := Qa (hbox); have GW106 := Qa ((by rw [hg]; exact (Qv (Bb0 HB.out)) : w.heap.size ≤ gb106)); have GE106 := Qa ((by rw [hg]; exact (Qv (Bb0 HB.out)) : w.heap.size ≤ gb106)); replace HB := Qa (Zc (Bb0 HB.out) hb); clear hb hbox hg) | ((with_reducible refine Xc (N := 3) rfl ?_); refine Xa ?hg (N := 3) ?hd (cs := #[.int .i64 a1_0, .int .i64 a1_1, .int .i64 a1_2, .int .i64 a1_3, .slice A1_4 l1_4.length c1_4]) (t := 32) ?hr ?_; (case hd => rfl); (case hg => rfl); (case hr => first | (go_simp; done) | (go_simp; rfl)); intro gb107 hg w20 hbox hb; have BK107 := Qa (hbox); have GW107 := Qa ((by rw [hg]; exact (Qv (Bb1 HB.out GE106.out)) : w.heap.size ≤ gb107)); have GE107 := Qa ((by rw [hg]; exact (Qv (Bb1 HB.out GE106.out)) : w.heap.size ≤ gb107)); replace HB := Qa (Zc (Bb1 HB.out GE106.out) hb); have NB106_107 := Qa ((by rw [hg]; exact Zp (blk_lt (g := gb106) (o := .cells #[.int .i64 a0_0, .int .i64 a0_1, .int .i64 a0_2, .int .i64 a0_3, .slice A0_4 l0_4.length c0_4] 32 (0, 0)) (Ba BK106.out)) : gb106 ≠ gb107)); have NB107_106 := Qa ((by rw [hg]; exact Zy (blk_lt (g := gb106) (o := .cells #[.int .i64 a0_0, .int .i64 a0_1, .int .i64 a0_2, .int .i64 a0_3, .slice A0_4 l0_4.length c0_4] 32 (0, 0)) (Ba BK106.out)) : gb107 ≠ gb106)); replace BK106 := Qa (Qy (g := gb106) (o := .cells #[.int .i64 a0_0, .int .i64 a0_1, .int .i64 a0_2, .int .i64 a0_3, .slice A0_4 l0_4.length c0_4] 32 (0, 0)) (Ba BK106.out) hb); clear hb hbox hg; have hnb21 := NB106_107.out; have hnc21 := NB107_106.out; have q22_0 : w20.cell? ⟨gb106, 0, none⟩ = some (.int .i64 a0_0) := (Qb BK106.out 0).trans rfl; have q22_1 : w20.cell? ⟨gb106, 1, none⟩ = some (.int .i64 a0_1) := (Qb BK106.out 1).trans rfl; have q22_2 : w20.cell? ⟨gb106, 2, none⟩ = some (.int .i64 a0_2) := (Qb BK106.out 2).trans rfl; have q22_3 : w20.cell? ⟨gb106, 3, none⟩ = some (.int .i64 a0_3) := (Qb BK106.out 3).trans rfl; have q22_4 : w20.cell? ⟨gb106, 4, none⟩ = some (.slice A0_4 l0_4.length c0_4) := (Qb BK106.out 4).trans rfl; have u22_0 := Qc BK106.out 0; have u22_1 := Qc BK106.out 1; have u22_2 := Qc BK106.out 2; have u22_3 := Qc BK106.out 3; have u22_4 := Qc BK106.out 4; have q23_0 : w20.cell? ⟨gb107, 0, none⟩ = some (.int .i64 a1_0) := (Qb BK107.out 0).trans rfl; have q23_1 : w20.cell? ⟨gb107, 1, none⟩ = some (.int .i64 a1_1) := (Qb BK107.out 1).trans rfl; have q23_2 : w20.cell? ⟨gb107, 2, none⟩ = some (.int .i64 a1_2) := (Qb BK107.out 2).trans rfl; have q23_3 : w20.cell? ⟨gb107, 3, none⟩ = some (.int .i64 a1_3) := (Qb BK107.out 3).trans rfl; have q23_4 : w20.cell? ⟨gb107, 4, none⟩ = some (.slice A1_4 l1_4.length c1_4) := (Qb BK107.out 4).trans rfl; have u23_0 := Qc BK107.out 0; have u23_1 := Qc BK107.out 1; have u23_2 := Qc BK107.out 2; have u23_3 := Qc BK107.out 3; have u23_4 := Qc BK107.out 4))
    go_ret
    exact ⟨by first | rfl | (simp [errW_none, errW_some] <;> rfl) | (simp [*, errW_none, errW_some] <;> rfl), by repeat (first | (with_reducible first | exact HB.out | apply Za | apply Qp | apply Qu | refine Ql ?_ GE106.out | refine Ql ?_ GE107.out) | exact HB.out)⟩
  ·rw [if_neg c4] at H
   have c4b0 : (a0_1 == a1_1) = false := beq_eq_false_iff_ne.mpr c4
   have c4b1 : (a0_1 != a1_1) = true := bne_iff_ne.mpr c4
   obtain rfl := Qs H
   go_enter Try.func19, Try.ntmps19
   go_wp2_with (first | ((with_reducible refine Xc (N := 2) rfl ?_); refine Xa ?hg (N := 2) ?hd (cs := #[.int .i64 a0_0, .int .i64 a0_1, .int .i64 a0_2, .int .i64 a0_3, .slice A0_4 l0_4.length c0_4]) (t := 32) ?hr ?_; (case hd => rfl); (case hg => rfl); (case hr => first | (go_simp; done) | (go_simp; rfl)); intro gb106 hg w24 hbox hb; have BK106 := Qa (hbox); have GW106 := Qa ((by rw [hg]; exact (Qv (Bb0 HB.out)) : w.heap.size ≤ gb106)); have GE106 := Qa ((by rw [hg]; exact (Qv (Bb0 HB.out)) : w.heap.size ≤ gb106)); replace HB := Qa (Zc (Bb0 HB.out) hb); clear hb hbox hg) | ((with_reducible refine Xc (N := 3) rfl ?_); refine Xa ?hg (N := 3) ?hd (cs := #[.int .i64 a1_0, .int .i64 a1_1, .int .i64 a1_2, .int .i64 a1_3, .slice A1_4 l1_4.length c1_4]) (t := 32) ?hr ?_; (case hd => rfl); (case hg => rfl); (case hr => first | (go_simp; done) | (go_simp; rfl)); intro gb107 hg w25 hbox hb; have BK107 := Qa (hbox); have GW107 := Qa ((by rw [hg]; exact (Qv (Bb1 HB.out GE106.out)) : w.heap.size ≤ gb107)); have GE107 := Qa ((by rw [hg]; exact (Qv (Bb1 HB.out GE106.out)) : w.heap.size ≤ gb107)); replace HB := Qa (Zc (Bb1 HB.out GE106.out) hb); have NB106_107 := Qa ((by rw [hg]; exact Zp (blk_lt (g := gb106) (o := .cells #[.int .i64 a0_0, .int .i64 a0_1, .int .i64 a0_2, .int .i64 a0_3, .slice A0_4 l0_4.length c0_4] 32 (0, 0)) (Ba BK106.out)) : gb106 ≠ gb107)); have NB107_106 := Qa ((by rw [hg]; exact Zy (blk_lt (g := gb106) (o := .cells #[.int .i64 a0_0, .int .i64 a0_1, .int .i64 a0_2, .int .i64 a0_3, .slice A0_4 l0_4.length c0_4] 32 (0, 0)) (Ba BK106.out)) : gb107 ≠ gb106)); replace BK106 := Qa (Qy (g := gb106) (o := .cells #[.int .i64 a0_0, .int .i64 a0_1, .int .i64 a0_2, .int .i64 a0_3, .slice A0_4 l0_4.length c0_4] 32 (0, 0)) (Ba BK106.out) hb); clear hb hbox hg; have hnb26 := NB106_107.out; have hnc26 := NB107_106.out; have q27_0 : w25.cell? ⟨gb106, 0, none⟩ = some (.int .i64 a0_0) := (Qb BK106.out 0).trans rfl; have q27_1 : w25.cell? ⟨gb106, 1, none⟩ = some (.int .i64 a0_1) := (Qb BK106.out 1).trans rfl; have q27_2 : w25.cell? ⟨gb106, 2, none⟩ = some (.int .i64 a0_2) := (Qb BK106.out 2).trans rfl; have q27_3 : w25.cell? ⟨gb106, 3, none⟩ = some (.int .i64 a0_3) := (Qb BK106.out 3).trans rfl; have q27_4 : w25.cell? ⟨gb106, 4, none⟩ = some (.slice A0_4 l0_4.length c0_4) := (Qb BK106.out 4).trans rfl; have u27_0 := Qc BK106.out 0; have u27_1 := Qc BK106.out 1; have u27_2 := Qc BK106.out 2; have u27_3 := Qc BK106.out 3; have u27_4 := Qc BK106.out 4; have q28_0 : w25.cell? ⟨gb107, 0, none⟩ = some (.int .i64 a1_0) := (Qb BK107.out 0).trans rfl; have q28_1 : w25.cell? ⟨gb107, 1, none⟩ = some (.int .i64 a1_1) := (Qb BK107.out 1).trans rfl; have q28_2 : w25.cell? ⟨gb107, 2, none⟩ = some (.int .i64 a1_2) := (Qb BK107.out 2).trans rfl; have q28_3 : w25.cell? ⟨gb107, 3, none⟩ = some (.int .i64 a1_3) := (Qb BK107.out 3).trans rfl; have q28_4 : w25.cell? ⟨gb107, 4, none⟩ = some (.slice A1_4 l1_4.length c1_4) := (Qb BK107.out 4).trans rfl; have u28_0 := Qc BK107.out 0; have u28_1 := Qc BK107.out 1; have u28_2 := Qc BK107.out 2; have u28_3 := Qc BK107.out 3; have u28_4 := Qc BK107.out 4))
   go_ret
   exact ⟨by first | rfl | (simp [errW_none, errW_some] <;> rfl) | (simp [*, errW_none, errW_some] <;> rfl), by repeat (first | (with_reducible first | exact HB.out | apply Za | apply Qp | apply Qu | refine Ql ?_ GE106.out | refine Ql ?_ GE107.out) | exact HB.out)⟩
 ·rw [if_neg c3] at H
  have c3b0 : (a0_0 == a1_0) = false := beq_eq_false_iff_ne.mpr c3
  have c3b1 : (a0_0 != a1_0) = true := bne_iff_ne.mpr c3
  obtain rfl := Qs H
  go_enter Try.func19, Try.ntmps19
  go_wp2_with (first | ((with_reducible refine Xc (N := 2) rfl ?_); refine Xa ?hg (N := 2) ?hd (cs := #[.int .i64 a0_0, .int .i64 a0_1, .int .i64 a0_2, .int .i64 a0_3, .slice A0_4 l0_4.length c0_4]) (t := 32) ?hr ?_; (case hd => rfl); (case hg => rfl); (case hr => first | (go_simp; done) | (go_simp; rfl)); intro gb106 hg w29 hbox hb; have BK106 := Qa (hbox); have GW106 := Qa ((by rw [hg]; exact (Qv (Bb0 HB.out)) : w.heap.size ≤ gb106)); have GE106 := Qa ((by rw [hg]; exact (Qv (Bb0 HB.out)) : w.heap.size ≤ gb106)); replace HB := Qa (Zc (Bb0 HB.out) hb); clear hb hbox hg) | ((with_reducible refine Xc (N := 3) rfl ?_); refine Xa ?hg (N := 3) ?hd (cs := #[.int .i64 a1_0, .int .i64 a1_1, .int .i64 a1_2, .int .i64 a1_3, .slice A1_4 l1_4.length c1_4]) (t := 32) ?hr ?_; (case hd => rfl); (case hg => rfl); (case hr => first | (go_simp; done) | (go_simp; rfl)); intro gb107 hg w30 hbox hb; have BK107 := Qa (hbox); have GW107 := Qa ((by rw [hg]; exact (Qv (Bb1 HB.out GE106.out)) : w.heap.size ≤ gb107)); have GE107 := Qa ((by rw [hg]; exact (Qv (Bb1 HB.out GE106.out)) : w.heap.size ≤ gb107)); replace HB := Qa (Zc (Bb1 HB.out GE106.out) hb); have NB106_107 := Qa ((by rw [hg]; exact Zp (blk_lt (g := gb106) (o := .cells #[.int .i64 a0_0, .int .i64 a0_1, .int .i64 a0_2, .int .i64 a0_3, .slice A0_4 l0_4.length c0_4] 32 (0, 0)) (Ba BK106.out)) : gb106 ≠ gb107)); have NB107_106 := Qa ((by rw [hg]; exact Zy (blk_lt (g := gb106) (o := .cells #[.int .i64 a0_0, .int .i64 a0_1, .int .i64 a0_2, .int .i64 a0_3, .slice A0_4 l0_4.length c0_4] 32 (0, 0)) (Ba BK106.out)) : gb107 ≠ gb106)); replace BK106 := Qa (Qy (g := gb106) (o := .cells #[.int .i64 a0_0, .int .i64 a0_1, .int .i64 a0_2, .int .i64 a0_3, .slice A0_4 l0_4.length c0_4] 32 (0, 0)) (Ba BK106.out) hb); clear hb hbox hg; have hnb31 := NB106_107.out; have hnc31 := NB107_106.out; have q32_0 : w30.cell? ⟨gb106, 0, none⟩ = some (.int .i64 a0_0) := (Qb BK106.out 0).trans rfl; have q32_1 : w30.cell? ⟨gb106, 1, none⟩ = some (.int .i64 a0_1) := (Qb BK106.out 1).trans rfl; have q32_2 : w30.cell? ⟨gb106, 2, none⟩ = some (.int .i64 a0_2) := (Qb BK106.out 2).trans rfl; have q32_3 : w30.cell? ⟨gb106, 3, none⟩ = some (.int .i64 a0_3) := (Qb BK106.out 3).trans rfl; have q32_4 : w30.cell? ⟨gb106, 4, none⟩ = some (.slice A0_4 l0_4.length c0_4) := (Qb BK106.out 4).trans rfl; have u32_0 := Qc BK106.out 0; have u32_1 := Qc BK106.out 1; have u32_2 := Qc BK106.out 2; have u32_3 := Qc BK106.out 3; have u32_4 := Qc BK106.out 4; have q33_0 : w30.cell? ⟨gb107, 0, none⟩ = some (.int .i64 a1_0) := (Qb BK107.out 0).trans rfl; have q33_1 : w30.cell? ⟨gb107, 1, none⟩ = some (.int .i64 a1_1) := (Qb BK107.out 1).trans rfl; have q33_2 : w30.cell? ⟨gb107, 2, none⟩ = some (.int .i64 a1_2) := (Qb BK107.out 2).trans rfl; have q33_3 : w30.cell? ⟨gb107, 3, none⟩ = some (.int .i64 a1_3) := (Qb BK107.out 3).trans rfl; have q33_4 : w30.cell? ⟨gb107, 4, none⟩ = some (.slice A1_4 l1_4.length c1_4) := (Qb BK107.out 4).trans rfl; have u33_0 := Qc BK107.out 0; have u33_1 := Qc BK107.out 1; have u33_2 := Qc BK107.out 2; have u33_3 := Qc BK107.out 3; have u33_4 := Qc BK107.out 4))
  go_ret
  exact ⟨by first | rfl | (simp [errW_none, errW_some] <;> rfl) | (simp [*, errW_none, errW_some] <;> rfl), by repeat (first | (with_reducible first | exact HB.out | apply Za | apply Qp | apply Qu | refine Ql ?_ GE106.out | refine Ql ?_ GE107.out) | exact HB.out)⟩
set_option maxRecDepth 100000 in
theorem impl_EqualFormula_pair.calls (k : Nat) : (∀ (A0 : Option Addr) (c0 : Nat) (l0 : List (S32)) (A1 : Option Addr) (c1 : Nat) (l1 : List (S32))  (r : Bool) (w : Xs) (hr0 : Kd.C k32 w A0 l0.length l0) (hc0 : l0.length ≤ c0) (hr1 : Kd.C k32 w A1 l1.length l1) (hc1 : l1.length ≤ c1) (h : impl_Formula_EqualFormula.f k l0 l1 = some r), Calls Xh 53 #[.slice A0 l0.length c0, .slice A1 l1.length c1, .func (.func 19) #[] #[]] w fun e w' => e = .returned (.bool r) ∧ Below w.heap.size w w') ∧ (∀ (a0_0 : Int) (a0_1 : Int) (a0_2 : Int) (a0_3 : Int) (A0_4 : Option Addr) (c0_4 : Nat) (l0_4 : List (S32)) (a1_0 : Int) (a1_1 : Int) (a1_2 : Int) (a1_3 : Int) (A1_4 : Option Addr) (c1_4 : Nat) (l1_4 : List (S32)) (r : Bool) (w : Xs) (hr0_4 : Kd.C k32 w A0_4 l0_4.length l0_4) (hc0_4 : l0_4.length ≤ c0_4) (hr1_4 : Kd.C k32 w A1_4 l1_4.length l1_4) (hc1_4 : l1_4.length ≤ c1_4) (h : impl_EqualFormula.f k a0_0 a0_1 a0_2 a0_3 l0_4 a1_0 a1_1 a1_2 a1_3 l1_4 = some r), Calls Xh 19 #[.agg #[.int .i64 a0_0, .int .i64 a0_1, .int .i64 a0_2, .int .i64 a0_3, .slice A0_4 l0_4.length c0_4], .agg #[.int .i64 a1_0, .int .i64 a1_1, .int .i64 a1_2, .int .i64 a1_3, .slice A1_4 l1_4.length c1_4]] w fun e w' => e = .returned (.bool r) ∧ Below w.heap.size w w') := by
 induction k using Nat.strongRecOn with
 | _ k ih => exact ⟨impl_Formula_EqualFormula.calls_of k (fun m_ hm_ => (ih m_ hm_).2), impl_EqualFormula.calls_of k (fun m_ hm_ => (ih m_ hm_).1)⟩
theorem impl_Formula_EqualFormula.calls (k : Nat) : ∀ (A0 : Option Addr) (c0 : Nat) (l0 : List (S32)) (A1 : Option Addr) (c1 : Nat) (l1 : List (S32))  (r : Bool) (w : Xs) (hr0 : Kd.C k32 w A0 l0.length l0) (hc0 : l0.length ≤ c0) (hr1 : Kd.C k32 w A1 l1.length l1) (hc1 : l1.length ≤ c1) (h : impl_Formula_EqualFormula.f k l0 l1 = some r), Calls Xh 53 #[.slice A0 l0.length c0, .slice A1 l1.length c1, .func (.func 19) #[] #[]] w fun e w' => e = .returned (.bool r) ∧ Below w.heap.size w w' := (impl_EqualFormula_pair.calls k).1
theorem impl_EqualFormula.calls (k : Nat) : ∀ (a0_0 : Int) (a0_1 : Int) (a0_2 : Int) (a0_3 : Int) (A0_4 : Option Addr) (c0_4 : Nat) (l0_4 : List (S32)) (a1_0 : Int) (a1_1 : Int) (a1_2 : Int) (a1_3 : Int) (A1_4 : Option Addr) (c1_4 : Nat) (l1_4 : List (S32)) (r : Bool) (w : Xs) (hr0_4 : Kd.C k32 w A0_4 l0_4.length l0_4) (hc0_4 : l0_4.length ≤ c0_4) (hr1_4 : Kd.C k32 w A1_4 l1_4.length l1_4) (hc1_4 : l1_4.length ≤ c1_4) (h : impl_EqualFormula.f k a0_0 a0_1 a0_2 a0_3 l0_4 a1_0 a1_1 a1_2 a1_3 l1_4 = some r), Calls Xh 19 #[.agg #[.int .i64 a0_0, .int .i64 a0_1, .int .i64 a0_2, .int .i64 a0_3, .slice A0_4 l0_4.length c0_4], .agg #[.int .i64 a1_0, .int .i64 a1_1, .int .i64 a1_2, .int .i64 a1_3, .slice A1_4 l1_4.length c1_4]] w fun e w' => e = .returned (.bool r) ∧ Below w.heap.size w w' := (impl_EqualFormula_pair.calls k).2
def spec_l10Uses.j0 : Nat → Int → Bool → Option (Int)
 | 0, _, _ => none
 | k + 1, x3, x4 => if x4 = true then (some 1) else (if x3 = 5 then (some 2) else (if x3 = 6 then (some 2) else (if x3 = 7 then (some 2) else (some 0))))
def spec_l10Uses.f (k : Nat) (a0 : Int) : Option (Int) := if a0 = 2 then (spec_l10Uses.j0 k a0 (a0 == 2)) else (if a0 = 3 then (spec_l10Uses.j0 k a0 (a0 == 3)) else (if a0 = 4 then (spec_l10Uses.j0 k a0 (a0 == 4)) else (if a0 = 11 then (spec_l10Uses.j0 k a0 (a0 == 11)) else (spec_l10Uses.j0 k a0 (a0 == 12)))))
theorem spec_l10Uses.mono_l : ∀ k, (∀ y0 y1, LeO (spec_l10Uses.j0 k y0 y1) (spec_l10Uses.j0 (k + 1) y0 y1))
 | 0 => fun _ _ r h => by simp [spec_l10Uses.j0] at h
 | k + 1 => by
  have ih0 := spec_l10Uses.mono_l k
  ·intro y0 y1
   unfold spec_l10Uses.j0
   repeat' first
   | (with_reducible exact ih0 _ _)
   | (with_reducible exact LeO.refl _)
   | (with_reducible exact Zm _)
   | (with_reducible refine Zu ?_ ?_)
   | (with_reducible refine Zl ?_ (fun _ => ?_))
   | exact ih0 _ _
   | exact Zm _
   | refine Zu ?_ ?_
   | refine Zl ?_ (fun _ => ?_)
theorem spec_l10Uses.mono : ∀ a0 k, LeO (spec_l10Uses.f k a0) (spec_l10Uses.f (k + 1) a0) := by
 intro a0 k
 have ih0 := spec_l10Uses.mono_l k
 unfold spec_l10Uses.f
 repeat' first
   | (with_reducible exact ih0 _ _)
   | (with_reducible exact LeO.refl _)
   | (with_reducible exact Zm _)
   | (with_reducible refine Zu ?_ ?_)
   | (with_reducible refine Zl ?_ (fun _ => ?_))
   | exact ih0 _ _
   | exact Zm _
   | refine Zu ?_ ?_
   | refine Zl ?_ (fun _ => ?_)
set_option maxHeartbeats 8000000 in
set_option maxRecDepth 100000 in
theorem spec_l10Uses.calls (k : Nat) (a0 : Int) (r : Int) (w : Xs) (h : spec_l10Uses.f k a0 = some r) :
  Calls Xh 98 #[.int .i64 a0] w fun e w' => e = .returned (.int .i64 r) ∧ Drawn0 w w' := by
 have H : (if a0 = 2 then (spec_l10Uses.j0 k a0 (a0 == 2)) else (if a0 = 3 then (spec_l10Uses.j0 k a0 (a0 == 3)) else (if a0 = 4 then (spec_l10Uses.j0 k a0 (a0 == 4)) else (if a0 = 11 then (spec_l10Uses.j0 k a0 (a0 == 11)) else (spec_l10Uses.j0 k a0 (a0 == 12)))))) = some r := h
 clear h
 have HC2 := Qa H
 clear H
 go_enter Try.func98, Try.ntmps98
 go_upto_if 4 with (fail)
 go_cut [4] (fun v4 wc => ∃ (kq : Nat) (x4_1 : Bool), v4 = .bool x4_1 ∧ Aside0 (spec_l10Uses.j0 kq a0 x4_1 = some r) ∧ Aside0 (kq ≤ k) ∧ Drawn0 w wc)
 case first =>
  have H := HC2.out
  clear HC2
  by_cases c3 : a0 = 2
  ·rw [if_pos c3] at H
   have c3b0 : (a0 == 2) = true := beq_iff_eq.mpr c3
   have c3b1 : (a0 != 2) = false := bne_eq_false_iff_eq.mpr c3
   clear c3
   (first | rw [c3b0] | (simp only [i64_w, i32_w]; rw [c3b0]) | skip)
   have H' := Qa H
   clear H
   go_wp2
   go_meet
   case rel => exact ⟨_, ((a0 == 2)), (by first | rfl | (simp; done) | (simp [*]; done) | (simp; rw [Qx]; simp; done)), H', ⟨by first | omega | exact Zv _⟩, by repeat (first | exact Xf _ | apply Xg)⟩
  ·rw [if_neg c3] at H
   have c3b0 : (a0 == 2) = false := beq_eq_false_iff_ne.mpr c3
   have c3b1 : (a0 != 2) = true := bne_iff_ne.mpr c3
   (first | rw [c3b0] | (simp only [i64_w, i32_w]; rw [c3b0]) | skip)
   by_cases c4 : a0 = 3
   ·rw [if_pos c4] at H
    have c4b0 : (a0 == 3) = true := beq_iff_eq.mpr c4
    have c4b1 : (a0 != 3) = false := bne_eq_false_iff_eq.mpr c4
    clear c4
    have H' := Qa H
    clear H
    go_wp2
    go_meet
    case rel => exact ⟨_, ((a0 == 3)), (by first | rfl | (simp; done) | (simp [*]; done) | (simp; rw [Qx]; simp; done)), H', ⟨by first | omega | exact Zv _⟩, by repeat (first | exact Xf _ | apply Xg)⟩
   ·rw [if_neg c4] at H
    have c4b0 : (a0 == 3) = false := beq_eq_false_iff_ne.mpr c4
    have c4b1 : (a0 != 3) = true := bne_iff_ne.mpr c4
    by_cases c5 : a0 = 4
    ·rw [if_pos c5] at H
     have c5b0 : (a0 == 4) = true := beq_iff_eq.mpr c5
     have c5b1 : (a0 != 4) = false := bne_eq_false_iff_eq.mpr c5
     clear c5
     have H' := Qa H
     clear H
     go_wp2
     go_meet
     case rel => exact ⟨_, ((a0 == 4)), (by first | rfl | (simp; done) | (simp [*]; done) | (simp; rw [Qx]; simp; done)), H', ⟨by first | omega | exact Zv _⟩, by repeat (first | exact Xf _ | apply Xg)⟩
    ·rw [if_neg c5] at H
     have c5b0 : (a0 == 4) = false := beq_eq_false_iff_ne.mpr c5
     have c5b1 : (a0 != 4) = true := bne_iff_ne.mpr c5
     by_cases c6 : a0 = 11
     ·rw [if_pos c6] at H
      have c6b0 : (a0 == 11) = true := beq_iff_eq.mpr c6
      have c6b1 : (a0 != 11) = false := bne_eq_false_iff_eq.mpr c6
      clear c6
      have H' := Qa H
      clear H
      go_wp2
      go_meet
      case rel => exact ⟨_, ((a0 == 11)), (by first | rfl | (simp; done) | (simp [*]; done) | (simp; rw [Qx]; simp; done)), H', ⟨by first | omega | exact Zv _⟩, by repeat (first | exact Xf _ | apply Xg)⟩
     ·rw [if_neg c6] at H
      have c6b0 : (a0 == 11) = false := beq_eq_false_iff_ne.mpr c6
      have c6b1 : (a0 != 11) = true := bne_iff_ne.mpr c6
      have H' := Qa H
      clear H
      go_wp2
      go_meet
      case rel => exact ⟨_, ((a0 == 12)), (by first | rfl | (simp; done) | (simp [*]; done) | (simp; rw [Qx]; simp; done)), H', ⟨by first | omega | exact Zv _⟩, by repeat (first | exact Xf _ | apply Xg)⟩
 case rest =>
  clear HC2
  try clear p2
  try clear c3
  try clear c3b0
  try clear c3b1
  try clear c4
  try clear c4b0
  try clear c4b1
  try clear c5
  try clear c5b0
  try clear c5b1
  try clear c6
  try clear c6b0
  try clear c6b1
  obtain ⟨kq, x4_1, rfl, HA, HJ1, ⟨mc1, rfl⟩⟩ := hcut
  cases kq with
  | zero => exact absurd HA.out (by simp [spec_l10Uses.j0])
  | succ kj1 =>
   have H := HA.out
   clear HA
   simp only [spec_l10Uses.j0] at H
   by_cases c7 : x4_1 = true
   ·subst c7
    have H1 : (some 1) = some r := by rw [if_pos rfl] at H; exact H
    clear H
    have H := H1
    clear H1
    obtain rfl := Qs H
    go_wp2
    go_ret
    exact ⟨by first | rfl | (simp; done) | (simp [*]; done), by repeat (first | exact Xf _ | apply Xg)⟩
   ·replace c7 := Bool.eq_false_iff.mpr c7
    subst c7
    have H1 : (if a0 = 5 then (some 2) else (if a0 = 6 then (some 2) else (if a0 = 7 then (some 2) else (some 0)))) = some r := by rw [if_neg (show ¬ (false = true) by decide)] at H; exact H
    clear H
    have H := H1
    clear H1
    by_cases c8 : a0 = 5
    ·rw [if_pos c8] at H
     have c8b0 : (a0 == 5) = true := beq_iff_eq.mpr c8
     have c8b1 : (a0 != 5) = false := bne_eq_false_iff_eq.mpr c8
     clear c8
     obtain rfl := Qs H
     go_wp2
     go_ret
     exact ⟨by first | rfl | (simp; done) | (simp [*]; done), by repeat (first | exact Xf _ | apply Xg)⟩
    ·rw [if_neg c8] at H
     have c8b0 : (a0 == 5) = false := beq_eq_false_iff_ne.mpr c8
     have c8b1 : (a0 != 5) = true := bne_iff_ne.mpr c8
     by_cases c9 : a0 = 6
     ·rw [if_pos c9] at H
      have c9b0 : (a0 == 6) = true := beq_iff_eq.mpr c9
      have c9b1 : (a0 != 6) = false := bne_eq_false_iff_eq.mpr c9
      clear c9
      obtain rfl := Qs H
      go_wp2
      go_ret
      exact ⟨by first | rfl | (simp; done) | (simp [*]; done), by repeat (first | exact Xf _ | apply Xg)⟩
     ·rw [if_neg c9] at H
      have c9b0 : (a0 == 6) = false := beq_eq_false_iff_ne.mpr c9
      have c9b1 : (a0 != 6) = true := bne_iff_ne.mpr c9
      by_cases c10 : a0 = 7
      ·rw [if_pos c10] at H
       have c10b0 : (a0 == 7) = true := beq_iff_eq.mpr c10
       have c10b1 : (a0 != 7) = false := bne_eq_false_iff_eq.mpr c10
       clear c10
       obtain rfl := Qs H
       go_wp2
       go_ret
       exact ⟨by first | rfl | (simp; done) | (simp [*]; done), by repeat (first | exact Xf _ | apply Xg)⟩
      ·rw [if_neg c10] at H
       have c10b0 : (a0 == 7) = false := beq_eq_false_iff_ne.mpr c10
       have c10b1 : (a0 != 7) = true := bne_iff_ne.mpr c10
       obtain rfl := Qs H
       go_wp2
       go_ret
       exact ⟨by first | rfl | (simp; done) | (simp [*]; done), by repeat (first | exact Xf _ | apply Xg)⟩
def spec_l1In.f (a0 : Int) (a1 : Int) (a2 : Int) : Option (Bool) := if a0 ≥ a1 then (some (decide (a0 ≤ a2))) else (some false)
set_option maxHeartbeats 8000000 in
set_option maxRecDepth 100000 in
theorem spec_l1In.calls (a0 : Int) (a1 : Int) (a2 : Int) (r : Bool) (w : Xs) (h : spec_l1In.f a0 a1 a2 = some r) :
  Calls Xh 77 #[.int .i64 a0, .int .i64 a1, .int .i64 a2] w fun e w' => e = .returned (.bool r) ∧ Drawn0 w w' := by
 have H : (if a0 ≥ a1 then (some (decide (a0 ≤ a2))) else (some false)) = some r := h
 clear h
 by_cases c4 : a0 ≥ a1
 ·rw [if_pos c4] at H
  have c4b0 : decide (a1 ≤ a0) = true := decide_eq_true c4
  clear c4
  obtain rfl := Qs H
  go_enter Try.func77, Try.ntmps77
  go_wp2
  go_ret
  exact ⟨by first | rfl | (simp; done) | (simp [*]; done), by repeat (first | exact Xf _ | apply Xg)⟩
 ·rw [if_neg c4] at H
  have c4b0 : decide (a1 ≤ a0) = false := decide_eq_false c4
  clear c4
  obtain rfl := Qs H
  go_enter Try.func77, Try.ntmps77
  go_wp2
  go_ret
  exact ⟨by first | rfl | (simp; done) | (simp [*]; done), by repeat (first | exact Xf _ | apply Xg)⟩
def spec_Positions.l0 : Nat → List Int → Int → List Int → Int → Option (List Int)
 | 0, _, _, _, _ => none
 | k + 1, x0, x1, x5, x6 => if x6 < (x0.length : Int) then (if 0 ≤ x6 then (if (rd x0 x6) = x1 then (if x5.length < 17592186044416 then (spec_Positions.l0 k x0 x1 (x5 ++ [x6]) (wrap64 (x6 + 1))) else (none)) else (spec_Positions.l0 k x0 x1 x5 (wrap64 (x6 + 1)))) else (none)) else (some x5)
def spec_Positions.f (k : Nat) (l0 : List Int) (a1 : Int) : Option (List Int) := spec_Positions.l0 k l0 a1 (([] : List Int)) 0
theorem spec_Positions.mono_l : ∀ k, (∀ y0 y1 y2 y3, LeO (spec_Positions.l0 k y0 y1 y2 y3) (spec_Positions.l0 (k + 1) y0 y1 y2 y3))
 | 0 => fun _ _ _ _ r h => by simp [spec_Positions.l0] at h
 | k + 1 => by
  have ih0 := spec_Positions.mono_l k
  ·intro y0 y1 y2 y3
   unfold spec_Positions.l0
   repeat' first
   | (with_reducible exact ih0 _ _ _ _)
   | (with_reducible exact LeO.refl _)
   | (with_reducible exact Zm _)
   | (with_reducible refine Zu ?_ ?_)
   | (with_reducible refine Zl ?_ (fun _ => ?_))
   | exact ih0 _ _ _ _
   | exact Zm _
   | refine Zu ?_ ?_
   | refine Zl ?_ (fun _ => ?_)
theorem spec_Positions.mono : ∀ a0 a1 k, LeO (spec_Positions.f k a0 a1) (spec_Positions.f (k + 1) a0 a1) := by
 intro a0 a1 k
 have ih0 := spec_Positions.mono_l k
 unfold spec_Positions.f
 repeat' first
   | (with_reducible exact ih0 _ _ _ _)
   | (with_reducible exact LeO.refl _)
   | (with_reducible exact Zm _)
   | (with_reducible refine Zu ?_ ?_)
   | (with_reducible refine Zl ?_ (fun _ => ?_))
   | exact ih0 _ _ _ _
   | exact Zm _
   | refine Zu ?_ ?_
   | refine Zl ?_ (fun _ => ?_)
set_option maxHeartbeats 8000000 in
set_option maxRecDepth 100000 in
theorem spec_Positions.calls (k : Nat) (A0 : Option Addr) (c0 : Nat) (l0 : List Int) (a1 : Int) (r : List Int) (w : Xs) (hr0 : Kd.C (Kd.int .i64) w A0 l0.length l0) (hc0 : l0.length ≤ c0) (h : spec_Positions.f k l0 a1 = some r) :
  Calls Xh 113 #[.slice A0 l0.length c0, .int .i64 a1] w fun e w' => ∃ v0_ : Value, e = .returned (v0_) ∧ Kd.R (Kd.int .i64) 3 w' w.heap.size (fun _ => True) v0_ r ∧ Below w.heap.size w w' := by
 have HR0 := Qa hr0
 have HC0 := Qa hc0
 clear hr0 hc0
 have HB := Qa (Below.refl w.heap.size w)
 have H : (spec_Positions.l0 k l0 a1 (([] : List Int)) 0) = some r := h
 clear h
 obtain ⟨y109, hy109⟩ : ∃ y_ : List Int, y_ = (([] : List Int)) := ⟨_, rfl⟩
 replace H : (spec_Positions.l0 k l0 a1 y109 0) = some r := by first | (rw [hy109]; with_reducible exact H) | (have H2_ := (Zz _ _).symm.trans H; rw [hy109]; with_reducible exact H2_) | (have H2_ := (Zz _ _).symm.trans H; with_reducible exact H2_) | with_reducible exact H | (rw [hy109]; exact H) | exact H
 have Ny109 := Qa hy109
 clear hy109
 have H' := Qa H
 clear H
 go_enter Try.func113, Try.ntmps113
 go_wp2_with (first | ((with_reducible refine Xc (N := 7) rfl ?_); refine Kd.R_lit (Kd.int .i64) _ 3 ?hg (N := 7) ?hd (xs := ([] : List Int)) (inner := []) (ok := fun _ => True) (okp := fun _ => True) ?hr ?hp (fun _ hk => hk) trivial (Below.refl _ _) (Zv _) (by simp) ?_; (case hd => rfl); (case hg => rfl); (case hr => first | (go_simp; done) | (go_simp; rfl)); (case hp => exact (Reps.none _ _)); intro v110 w3 ho4 hb hg_ hnew_; clear hg_ hnew_; (first | rw [← Ny109.out] at ho4 | (simp only [Int.reduceToNat] at ho4; rw [← Ny109.out] at ho4)); have HO111 := Qa (Kd.R_lower ho4 (Qv (Bb0 HB.out))); replace HB := Qa (Zc (Bb0 HB.out) hb); clear hb ho4))
 go_loopg [5, 6] k (fun kq v5 v6 w' => ∃ (x5_1 : List Int) (x6_1 : Int), v6 = .int .i64 x6_1 ∧ Aside0 (spec_Positions.l0 kq l0 a1 x5_1 x6_1 = some r) ∧ Aside0 (kq ≤ k) ∧ Aside0 (Kd.R (Kd.int .i64) 3 w' w.heap.size (fun _ => True) v5 x5_1) ∧ Aside0 (Below w.heap.size w w'))
 case atStart => exact ⟨(y109), (0), (by first | rfl | (simp; done) | (simp [*]; done) | (simp; rw [Qx]; simp; done)), H', ⟨Nat.le_refl _⟩, ⟨by (with_reducible repeat (first | apply Kd.R_alloc | apply Kd.R_drewN | apply Kd.R_drew)); exact HO111.out⟩, ⟨Bb0 HB.out⟩⟩
 case round =>
  clear H'
  try clear c1
  try clear p2
  obtain ⟨x5_1, x6_1, rfl, HA, HK1, HO_5, HB⟩ := hrel
  cases gk with
  | zero => exact absurd HA.out (by simp [spec_Positions.l0])
  | succ k1 =>
   have H := HA.out
   clear HA
   simp only [spec_Positions.l0] at H
   by_cases c5 : x6_1 < (l0.length : Int)
   ·rw [if_pos c5] at H
    have c5b0 : decide (x6_1 < (l0.length : Int)) = true := decide_eq_true c5
    clear c5
    by_cases c6 : 0 ≤ x6_1
    ·rw [if_pos c6] at H
     have c6b0 : decide (0 ≤ x6_1) = true := decide_eq_true c6
     clear c6
     by_cases c7 : (rd l0 x6_1) = a1
     ·rw [if_pos c7] at H
      have c7b0 : ((rd l0 x6_1) == a1) = true := beq_iff_eq.mpr c7
      have c7b1 : ((rd l0 x6_1) != a1) = false := bne_eq_false_iff_eq.mpr c7
      clear c7
      by_cases c8 : x5_1.length < 17592186044416
      ·rw [if_pos c8] at H
       have LMc8 := Qa c8
       clear c8
       obtain ⟨y113, hy113⟩ : ∃ y_ : List Int, y_ = (x5_1 ++ [x6_1]) := ⟨_, rfl⟩
       replace H : (spec_Positions.l0 k1 l0 a1 y113 (wrap64 (x6_1 + 1))) = some r := by first | (rw [hy113]; with_reducible exact H) | (have H2_ := (Zz _ _).symm.trans H; rw [hy113]; with_reducible exact H2_) | (have H2_ := (Zz _ _).symm.trans H; with_reducible exact H2_) | with_reducible exact H | (rw [hy113]; exact H) | exact H
       have Ny113 := Qa hy113
       clear hy113
       have H' := Qa H
       clear H
       have p112 : 0 ≤ (x6_1 : Int) := of_decide_eq_true (by first | (with_reducible assumption) | assumption)
       have q112 : x6_1 < (l0.length : Int) := of_decide_eq_true (by first | (with_reducible assumption) | assumption)
       obtain ⟨ad112, e112, hx112_0⟩ := Kd.at_int HR0.out x6_1 p112 q112
       cases e112
       replace hx112_0 := (HB.out.cell (Qd w _ hx112_0)).trans hx112_0
       replace p112 := eq_true p112
       replace q112 := eq_true q112
       go_wp2_with (first | ((with_reducible refine gate_builtin (b := .append) (xs := #[.tmp 20, .tmp 22]) rfl ?_); at_builtin; refine Kd.R_append (Kd.int .i64) (w0 := w) w.heap.size rfl (.tmp 20) (.tmp 22) 47 3 (.int .i64 0) 8 rfl Try.underlying47 info3 rfl (by decide) (by omega) u5 x5_1 x6_1 [.int .i64 x6_1] (fun _ => True) (fun _ => False) rfl rfl ?aP (fun _ hk => hk.elim) ?aF ?aO ?aB ?aS ?aL ?_; (case aP => exact rfl); (case aB => exact (Bb0 HB.out)); (case aF => exact (fun _ _ => trivial)); (case aO => exact (Br HO_5.out)); (case aS => exact (Qv (Bb0 HB.out))); (case aL => have := LMc8.out; omega); intro v114 w9 ho hb hg hat; rw [← Ny113.out] at ho; replace HB := Qa (hb); have HO115 := Qa (ho); clear HO_5; clear ho hb hg hat))
       go_roundg k1
       case measure => have := HK1.out; omega
       case rel => exact ⟨(y113), (wrap64 (x6_1 + 1)), (by first | rfl | (simp; done) | (simp [*]; done) | (simp; rw [Qx]; simp; done)), H', ⟨by have := HK1.out; omega⟩, ⟨by (with_reducible repeat (first | apply Kd.R_alloc | apply Kd.R_drewN | apply Kd.R_drew)); exact HO115.out⟩, ⟨Bb0 HB.out⟩⟩
      ·rw [if_neg c8] at H
       exact absurd H (by simp)
     ·rw [if_neg c7] at H
      have c7b0 : ((rd l0 x6_1) == a1) = false := beq_eq_false_iff_ne.mpr c7
      have c7b1 : ((rd l0 x6_1) != a1) = true := bne_iff_ne.mpr c7
      have H' := Qa H
      clear H
      have p112 : 0 ≤ (x6_1 : Int) := of_decide_eq_true (by first | (with_reducible assumption) | assumption)
      have q112 : x6_1 < (l0.length : Int) := of_decide_eq_true (by first | (with_reducible assumption) | assumption)
      obtain ⟨ad112, e112, hx112_0⟩ := Kd.at_int HR0.out x6_1 p112 q112
      cases e112
      replace hx112_0 := (HB.out.cell (Qd w _ hx112_0)).trans hx112_0
      replace p112 := eq_true p112
      replace q112 := eq_true q112
      go_wp2
      go_roundg k1
      case measure => have := HK1.out; omega
      case rel => exact ⟨(x5_1), (wrap64 (x6_1 + 1)), (by first | rfl | (simp; done) | (simp [*]; done) | (simp; rw [Qx]; simp; done)), H', ⟨by have := HK1.out; omega⟩, ⟨by (with_reducible repeat (first | apply Kd.R_alloc | apply Kd.R_drewN | apply Kd.R_drew)); exact HO_5.out⟩, ⟨Bb0 HB.out⟩⟩
    ·rw [if_neg c6] at H
     exact absurd H (by simp)
   ·rw [if_neg c5] at H
    have c5b0 : decide (x6_1 < (l0.length : Int)) = false := decide_eq_false c5
    clear c5
    obtain rfl := Qs H
    go_wp2
    go_ret
    exact ⟨_, by first | rfl | (simp [errW_none, errW_some] <;> rfl) | (simp [*, errW_none, errW_some] <;> rfl), by (with_reducible repeat (first | apply Kd.R_alloc | apply Kd.R_drewN | apply Kd.R_drew)); exact HO_5.out, by repeat (first | (with_reducible first | exact HB.out | apply Za | apply Qp | apply Qu) | exact HB.out)⟩
def spec_l7Has.f (k : Nat) (l0 : List Int) (a1 : Int) : Option (Bool) := (spec_Positions.f k l0 a1).bind fun t116 => (some (decide ((t116.length : Int) > 0)))
theorem spec_l7Has.mono : ∀ a0 a1 k, LeO (spec_l7Has.f k a0 a1) (spec_l7Has.f (k + 1) a0 a1) := by
 intro a0 a1 k
 unfold spec_l7Has.f
 repeat' first
   | (with_reducible exact spec_Positions.mono _ _ _)
   | (with_reducible exact LeO.refl _)
   | (with_reducible exact Zm _)
   | (with_reducible refine Zu ?_ ?_)
   | (with_reducible refine Zl ?_ (fun _ => ?_))
   | exact spec_Positions.mono _ _ _
   | exact Zm _
   | refine Zu ?_ ?_
   | refine Zl ?_ (fun _ => ?_)
set_option maxHeartbeats 8000000 in
set_option maxRecDepth 100000 in
theorem spec_l7Has.calls (k : Nat) (A0 : Option Addr) (c0 : Nat) (l0 : List Int) (a1 : Int) (r : Bool) (w : Xs) (hr0 : Kd.C (Kd.int .i64) w A0 l0.length l0) (hc0 : l0.length ≤ c0) (h : spec_l7Has.f k l0 a1 = some r) :
  Calls Xh 99 #[.slice A0 l0.length c0, .int .i64 a1] w fun e w' => e = .returned (.bool r) ∧ Below w.heap.size w w' := by
 have HR0 := Qa hr0
 have HC0 := Qa hc0
 clear hr0 hc0
 have HB := Qa (Below.refl w.heap.size w)
 have H : ((spec_Positions.f k l0 a1).bind fun t116 => (some (decide ((t116.length : Int) > 0)))) = some r := h
 clear h
 replace H := Qi.mp H
 obtain ⟨t116, A30, H⟩ := H
 replace H : (some (decide ((t116.length : Int) > 0))) = some r := H
 have A3 := Qa A30
 clear A30
 obtain rfl := Qs H
 go_enter Try.func99, Try.ntmps99
 go_wp2_with (first | ((with_reducible refine gate_callee (f := 113) rfl ?_); refine goesL_ (some 7) rfl rfl Try.func113 (by kernel_rfl) rfl #[.slice A0 l0.length c0, .int .i64 a1] rfl (by (try simp only [List.map_toArray, List.map_cons, List.map_nil]); first | done | rfl | (simp only [List.length_drop, List.length_take]; rfl)) ?_; (with_reducible refine (spec_Positions.calls k _ _ l0 a1 t116 _ ?side1 ?side2 A3.out).mono ?_); (case side1 => repeat (first | exact HR0.out | (with_reducible refine Kd.C_alloc ?_ _) | (with_reducible refine Kd.C_drewN ?_ _) | (with_reducible refine Kd.C_drew ?_))); (case side2 => exact HC0.out); rintro e w4 ⟨v117, rfl, ho0, hb⟩; refine ⟨_, rfl, ?_⟩; have HO118 := Qa (Kd.R_lower ho0 (Qv (Bb0 HB.out))); replace HB := Qa (Zc (Bb0 HB.out) hb); (try clear hb); (try clear hb2); (try clear hk); (try clear hi); (try clear ho0); obtain ⟨Ao5, co5, eo5⟩ := Kd.R_slice HO118.out; subst eo5))
 go_ret
 exact ⟨by first | rfl | (simp [errW_none, errW_some] <;> rfl) | (simp [*, errW_none, errW_some] <;> rfl), by repeat (first | (with_reducible first | exact HB.out | apply Za | apply Qp | apply Qu) | exact HB.out)⟩
end Go.Proofs.Ytoljagpjejpmpaa.PFnFormulas
