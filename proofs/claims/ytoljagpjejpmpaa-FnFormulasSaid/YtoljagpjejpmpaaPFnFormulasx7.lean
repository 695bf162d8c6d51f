-- Laid by wip/tools/xprint.py (a program of this session over the kit's print). Not trusted: Lean checks it.
import Derived.Test.YtoljagpjejpmpaaXAuto
import Derived.Test.YtoljagpjejpmpaaPFnFormulasx0
namespace Go.Proofs.Ytoljagpjejpmpaa.PFnFormulas
open Go.RowKit Go.Proofs.YtoljagpjejpmpaaW.PrintWords Go.Proofs.YtoljagpjejpmpaaW.PrintLast Go.Proofs.YtoljagpjejpmpaaW.PrintMore
open Go.Proofs.YtoljagpjejpmpaaW.PrintWords.Aside0 renaming mk → Qa
open Go.Proofs.YtoljagpjejpmpaaW.PrintWords renaming blk_cell → Qb, blk_frozen → Qc, blk_alloc → Qf, blk_drewN → Qg, blk_drew → Qh, blk_put → Qr, below_size → Qv
open Go.World renaming block_lt_of_cell? → Qd
open List renaming setIfInBounds_toArray → Qe, set_cons_zero → Qj, set_cons_succ → Qk
open Bool renaming eq_iff_iff → Qx
open Go.Act renaming put → Zg
open Nat renaming ne_of_lt → Zp, ne_of_gt → Zy
open Or renaming inl → Xt
attribute [local go_sem] max2_int min2_int max_two min_two max_three min_three max_four min_four
set_option linter.unusedVariables false
set_option linter.unusedSimpArgs false
mutual
def impl_DepthOf.l0 : Nat → Int → List (S32) → Int → Int → Option (Int)
 | 0, _, _, _, _ => none
 | k + 1, x3, x7, x8, x9 => if x9 < x8 then (if 0 ≤ x9 then (if x9 < (x7.length : Int) then ((impl_DepthOf.f k ((rd_T32 x7 x9).f0) ((rd_T32 x7 x9).f1) ((rd_T32 x7 x9).f2) ((rd_T32 x7 x9).f3) ((rd_T32 x7 x9).f4)).bind fun t324 => (impl_DepthOf.l0 k (mx x3 t324) x7 x8 (wrap64 (x9 + 1)))) else (none)) else (none)) else (some (wrap64 (x3 + 1)))
def impl_DepthOf.f : Nat → Int → Int → Int → Int → List (S32) → Option (Int)
 | 0, _, _, _, _, _ => none
 | k + 1, a0_0, a0_1, a0_2, a0_3, l0_4 => impl_DepthOf.l0 k 0 l0_4 (l0_4.length : Int) 0
end
theorem impl_DepthOf.mono_l : ∀ k, (∀ y0 y1 y2 y3 y4, LeO (impl_DepthOf.f k y0 y1 y2 y3 y4) (impl_DepthOf.f (k + 1) y0 y1 y2 y3 y4)) ∧ (∀ y0 y1 y2 y3, LeO (impl_DepthOf.l0 k y0 y1 y2 y3) (impl_DepthOf.l0 (k + 1) y0 y1 y2 y3))
 | 0 => ⟨fun _ _ _ _ _ r h => by simp [impl_DepthOf.f] at h, fun _ _ _ _ r h => by simp [impl_DepthOf.l0] at h⟩
 | k + 1 => by
  obtain ⟨ih0, ih1⟩ := impl_DepthOf.mono_l k
  refine ⟨?_, ?_⟩
  ·intro y0 y1 y2 y3 y4
   unfold impl_DepthOf.f
   repeat' first
   | (with_reducible exact ih0 _ _ _ _ _)
   | (with_reducible exact ih1 _ _ _ _)
   | (with_reducible exact LeO.refl _)
   | (with_reducible exact LeO.none _)
   | (with_reducible refine LeO.ite ?_ ?_)
   | (with_reducible refine LeO.bind ?_ (fun _ => ?_))
   | exact ih0 _ _ _ _ _
   | exact ih1 _ _ _ _
   | exact LeO.none _
   | refine LeO.ite ?_ ?_
   | refine LeO.bind ?_ (fun _ => ?_)
  ·intro y0 y1 y2 y3
   unfold impl_DepthOf.l0
   repeat' first
   | (with_reducible exact ih0 _ _ _ _ _)
   | (with_reducible exact ih1 _ _ _ _)
   | (with_reducible exact LeO.refl _)
   | (with_reducible exact LeO.none _)
   | (with_reducible refine LeO.ite ?_ ?_)
   | (with_reducible refine LeO.bind ?_ (fun _ => ?_))
   | exact ih0 _ _ _ _ _
   | exact ih1 _ _ _ _
   | exact LeO.none _
   | refine LeO.ite ?_ ?_
   | refine LeO.bind ?_ (fun _ => ?_)
theorem impl_DepthOf.mono : ∀ a0 a1 a2 a3 a4 k, LeO (impl_DepthOf.f k a0 a1 a2 a3 a4) (impl_DepthOf.f (k + 1) a0 a1 a2 a3 a4) := by
 intro a0 a1 a2 a3 a4 k
 obtain ⟨ih0, ih1⟩ := impl_DepthOf.mono_l k
 exact ih0 a0 a1 a2 a3 a4
set_option maxHeartbeats 8000000 in
set_option maxRecDepth 100000 in
theorem impl_DepthOf.calls (k : Nat) : ∀ (a0_0 : Int) (a0_1 : Int) (a0_2 : Int) (a0_3 : Int) (A0_4 : Option Addr) (c0_4 : Nat) (l0_4 : List (S32)) (r : Int) (w : World) (hr0_4 : Kd.C k32 w A0_4 l0_4.length l0_4) (hc0_4 : l0_4.length ≤ c0_4) (h : impl_DepthOf.f k a0_0 a0_1 a0_2 a0_3 l0_4 = some r),
  Calls Try.prog 32 #[.agg #[.int .i64 a0_0, .int .i64 a0_1, .int .i64 a0_2, .int .i64 a0_3, .slice A0_4 l0_4.length c0_4]] w fun e w' => e = .returned (.int .i64 r) ∧ Below w.heap.size w w' := by
 induction k using Nat.strongRecOn with
 | _ k ih =>
 intro a0_0 a0_1 a0_2 a0_3 A0_4 c0_4 l0_4 r w hr0_4 hc0_4 h
 cases k with
 | zero => exact absurd h (by simp [impl_DepthOf.f])
 | succ k =>
 simp only [impl_DepthOf.f] at h
 have hu32 := Try.underlying32
 have HR0_4 := Qa hr0_4
 have HC0_4 := Qa hc0_4
 clear hr0_4 hc0_4
 have HB := Qa (Below.refl w.heap.size w)
 have H : (impl_DepthOf.l0 k 0 l0_4 (l0_4.length : Int) 0) = some r := h
 clear h
 have H' := Qa H
 clear H
 go_enter Try.func32, Try.ntmps32
 go_wp2_with (first | ((with_reducible refine gate_dst (N := 1) rfl ?_); refine box_event ?hg (N := 1) ?hd (cs := #[.int .i64 a0_0, .int .i64 a0_1, .int .i64 a0_2, .int .i64 a0_3, .slice A0_4 l0_4.length c0_4]) (t := 32) ?hr ?_; (case hd => rfl); (case hg => rfl); (case hr => first | (go_simp; done) | (go_simp; rfl)); intro gb321 hg w2 hbox hb; have BK321 := Qa (hbox); have GW321 := Qa ((by rw [hg]; exact (Qv (Bb0 HB.out)) : w.heap.size ≤ gb321)); have GE321 := Qa ((by rw [hg]; exact (Qv (Bb0 HB.out)) : w.heap.size ≤ gb321)); replace HB := Qa (below_step (Bb0 HB.out) hb); clear hb hbox hg; have q3_0 : w2.cell? ⟨gb321, 0, none⟩ = some (.int .i64 a0_0) := (Qb BK321.out 0).trans rfl; have q3_1 : w2.cell? ⟨gb321, 1, none⟩ = some (.int .i64 a0_1) := (Qb BK321.out 1).trans rfl; have q3_2 : w2.cell? ⟨gb321, 2, none⟩ = some (.int .i64 a0_2) := (Qb BK321.out 2).trans rfl; have q3_3 : w2.cell? ⟨gb321, 3, none⟩ = some (.int .i64 a0_3) := (Qb BK321.out 3).trans rfl; have q3_4 : w2.cell? ⟨gb321, 4, none⟩ = some (.slice A0_4 l0_4.length c0_4) := (Qb BK321.out 4).trans rfl; have u3_0 := Qc BK321.out 0; have u3_1 := Qc BK321.out 1; have u3_2 := Qc BK321.out 2; have u3_3 := Qc BK321.out 3; have u3_4 := Qc BK321.out 4))
 go_loopg [3, 9] k (fun kq v3 v9 w' => ∃ (x3_1 : Int) (x9_1 : Int), v3 = .int .i64 x3_1 ∧ v9 = .int .i64 x9_1 ∧ Aside0 (impl_DepthOf.l0 kq x3_1 l0_4 (l0_4.length : Int) x9_1 = some r) ∧ Aside0 (kq ≤ k) ∧ Aside0 (w'.heap[gb321]? = some (.cells #[.int .i64 a0_0, .int .i64 a0_1, .int .i64 a0_2, .int .i64 a0_3, (.slice A0_4 l0_4.length c0_4)] 32 (0, 0))) ∧ Aside0 (Below w.heap.size w w'))
 case atStart => exact ⟨(0), (0), (by first | rfl | (simp; done) | (simp [*]; done) | (simp; rw [Qx]; simp; done)), (by first | rfl | (simp; done) | (simp [*]; done) | (simp; rw [Qx]; simp; done)), H', ⟨Nat.le_refl _⟩, ⟨Ba BK321.out⟩, ⟨Bb1 HB.out GE321.out⟩⟩
 case round =>
  clear H'
  try clear p2
  try clear c3
  try clear q3_0
  try clear q3_1
  try clear q3_2
  try clear q3_3
  try clear q3_4
  try clear u3_0
  try clear u3_1
  try clear u3_2
  try clear u3_3
  try clear u3_4
  obtain ⟨x3_1, x9_1, rfl, rfl, HA, HK1, BK321, HB⟩ := hrel
  cases gk with
  | zero => exact absurd HA.out (by simp [impl_DepthOf.l0])
  | succ k1 =>
   have H := HA.out
   clear HA
   simp only [impl_DepthOf.l0] at H
   by_cases c4 : x9_1 < (l0_4.length : Int)
   ·rw [if_pos c4] at H
    have c4b0 : decide (x9_1 < (l0_4.length : Int)) = true := decide_eq_true c4
    clear c4
    by_cases c5 : 0 ≤ x9_1
    ·rw [if_pos c5] at H
     have c5b0 : decide (0 ≤ x9_1) = true := decide_eq_true c5
     clear c5
     by_cases c6 : x9_1 < (l0_4.length : Int)
     ·rw [if_pos c6] at H
      have c6b0 : decide (x9_1 < (l0_4.length : Int)) = true := decide_eq_true c6
      clear c6
      replace H := Option.bind_eq_some_iff.mp H
      obtain ⟨t324, A70, H⟩ := H
      replace H : (impl_DepthOf.l0 k1 (mx x3_1 t324) l0_4 (l0_4.length : Int) (wrap64 (x9_1 + 1))) = some r := H
      have A7 := Qa A70
      clear A70
      obtain ⟨ji8, hji8⟩ : ∃ j_ : Int, (mx x3_1 t324) = j_ := ⟨_, rfl⟩
      replace H : (impl_DepthOf.l0 k1 ji8 l0_4 (l0_4.length : Int) (wrap64 (x9_1 + 1))) = some r := by first | (rw [hji8] at H; exact H) | (simp only [hji8] at H ⊢; exact H)
      (try rw [hji8] at A7)
      have hji8_ : (if x3_1 < t324 then t324 else x3_1) = ji8 := hji8
      have H' := Qa H
      clear H
      have p322 : 0 ≤ (x9_1 : Int) := of_decide_eq_true (by first | (with_reducible assumption) | assumption)
      have q322 : x9_1 < (l0_4.length : Int) := of_decide_eq_true (by first | (with_reducible assumption) | assumption)
      obtain ⟨ad322, A322_4, c322_4, e322, hx322_0, hx322_1, hx322_2, hx322_3, hx322_4, hl322_4, hi322_4⟩ := at_T32 HR0_4.out x9_1 p322 q322
      cases e322
      replace hx322_0 := (HB.out.cell (Qd w _ hx322_0)).trans hx322_0
      replace hx322_1 := (HB.out.cell (Qd w _ hx322_1)).trans hx322_1
      replace hx322_2 := (HB.out.cell (Qd w _ hx322_2)).trans hx322_2
      replace hx322_3 := (HB.out.cell (Qd w _ hx322_3)).trans hx322_3
      replace hx322_4 := (HB.out.cell (Qd w _ hx322_4)).trans hx322_4
      have HR322_4 := Qa hi322_4
      have HC322_4 := Qa hl322_4
      clear hi322_4 hl322_4
      replace p322 := eq_true p322
      replace q322 := eq_true q322
      go_wp2_with (first | ((with_reducible refine gate_dst (N := 5) rfl ?_); refine box_event ?hg (N := 5) ?hd (cs := #[.int .i64 0, .int .i64 0, .int .i64 0, .int .i64 0, .slice none 0 0]) (t := 32) ?hr ?_; (case hd => rfl); (case hg => rfl); (case hr => first | (go_simp; done) | (go_simp; rfl)); intro gb323 hg w9 hbox hb; have BK323 := Qa (hbox); have GW323 := Qa ((by rw [hg]; exact (Qv (Bb1 HB.out GE321.out)) : w.heap.size ≤ gb323)); have GE323 := Qa ((by rw [hg]; exact (Qv (Bb1 HB.out GE321.out)) : w.heap.size ≤ gb323)); replace HB := Qa (below_step (Bb1 HB.out GE321.out) hb); have NB321_323 := Qa ((by rw [hg]; exact Zp (blk_lt (g := gb321) (o := .cells #[.int .i64 a0_0, .int .i64 a0_1, .int .i64 a0_2, .int .i64 a0_3, .slice (some ad322) l0_4.length c0_4] 32 (0, 0)) (Ba BK321.out)) : gb321 ≠ gb323)); have NB323_321 := Qa ((by rw [hg]; exact Zy (blk_lt (g := gb321) (o := .cells #[.int .i64 a0_0, .int .i64 a0_1, .int .i64 a0_2, .int .i64 a0_3, .slice (some ad322) l0_4.length c0_4] 32 (0, 0)) (Ba BK321.out)) : gb323 ≠ gb321)); replace BK321 := Qa (blk_below (g := gb321) (o := .cells #[.int .i64 a0_0, .int .i64 a0_1, .int .i64 a0_2, .int .i64 a0_3, .slice (some ad322) l0_4.length c0_4] 32 (0, 0)) (Ba BK321.out) hb); clear hb hbox hg; have hnb10 := NB323_321.out; have hnc10 := NB321_323.out; have q11_0 : w9.cell? ⟨gb323, 0, none⟩ = some (.int .i64 0) := (Qb BK323.out 0).trans rfl; have q11_1 : w9.cell? ⟨gb323, 1, none⟩ = some (.int .i64 0) := (Qb BK323.out 1).trans rfl; have q11_2 : w9.cell? ⟨gb323, 2, none⟩ = some (.int .i64 0) := (Qb BK323.out 2).trans rfl; have q11_3 : w9.cell? ⟨gb323, 3, none⟩ = some (.int .i64 0) := (Qb BK323.out 3).trans rfl; have q11_4 : w9.cell? ⟨gb323, 4, none⟩ = some (.slice none 0 0) := (Qb BK323.out 4).trans rfl; have u11_0 := Qc BK323.out 0; have u11_1 := Qc BK323.out 1; have u11_2 := Qc BK323.out 2; have u11_3 := Qc BK323.out 3; have u11_4 := Qc BK323.out 4) | ((with_reducible refine gate_callee (f := 32) rfl ?_); refine goesL_ (some 15) rfl rfl Try.func32 (by kernel_rfl) rfl #[.agg #[.int .i64 ((rd_T32 l0_4 x9_1).f0), .int .i64 ((rd_T32 l0_4 x9_1).f1), .int .i64 ((rd_T32 l0_4 x9_1).f2), .int .i64 ((rd_T32 l0_4 x9_1).f3), .slice A322_4 ((rd_T32 l0_4 x9_1).f4).length c322_4]] rfl (by (try simp only [List.map_toArray, List.map_cons, List.map_nil]); first | done | rfl | (simp only [List.length_drop, List.length_take]; rfl)) ?_; (with_reducible refine (ih k1 (by have := HK1.out; omega) ((rd_T32 l0_4 x9_1).f0) ((rd_T32 l0_4 x9_1).f1) ((rd_T32 l0_4 x9_1).f2) ((rd_T32 l0_4 x9_1).f3) _ _ ((rd_T32 l0_4 x9_1).f4) t324 _ ?side1 ?side2 A7.out).mono ?_); (case side1 => exact Kd.C_below HR322_4.out (Bb2 HB.out GE321.out GE323.out)); (case side2 => exact HC322_4.out); rintro e w12 ⟨rfl, hb⟩; refine ⟨_, rfl, ?_⟩; replace BK321 := Qa (blk_below (g := gb321) (o := .cells #[.int .i64 a0_0, .int .i64 a0_1, .int .i64 a0_2, .int .i64 a0_3, .slice (some ad322) l0_4.length c0_4] 32 (0, 0)) (by (iterate 5 ((with_reducible repeat (first | refine Qg ?_ _ | refine Qh ?_ | refine Qf ?_ _)); refine blk_far ?_ NB321_323.out _)); (with_reducible repeat (first | refine Qg ?_ _ | refine Qh ?_ | refine Qf ?_ _)); exact BK321.out) hb); replace BK323 := Qa (blk_below (g := gb323) (o := .cells #[.int .i64 ((rd_T32 l0_4 x9_1).f0), .int .i64 ((rd_T32 l0_4 x9_1).f1), .int .i64 ((rd_T32 l0_4 x9_1).f2), .int .i64 ((rd_T32 l0_4 x9_1).f3), .slice A322_4 ((rd_T32 l0_4 x9_1).f4).length c322_4] 32 (0, 0)) (by (with_reducible repeat (first | refine Qg ?_ _ | refine Qh ?_ | refine Qf ?_ _)); refine Qr (cs := #[.int .i64 ((rd_T32 l0_4 x9_1).f0), .int .i64 ((rd_T32 l0_4 x9_1).f1), .int .i64 ((rd_T32 l0_4 x9_1).f2), .int .i64 ((rd_T32 l0_4 x9_1).f3), .slice none 0 0]) ?_ 4 _ rfl; (with_reducible repeat (first | refine Qg ?_ _ | refine Qh ?_ | refine Qf ?_ _)); refine Qr (cs := #[.int .i64 ((rd_T32 l0_4 x9_1).f0), .int .i64 ((rd_T32 l0_4 x9_1).f1), .int .i64 ((rd_T32 l0_4 x9_1).f2), .int .i64 0, .slice none 0 0]) ?_ 3 _ rfl; (with_reducible repeat (first | refine Qg ?_ _ | refine Qh ?_ | refine Qf ?_ _)); refine Qr (cs := #[.int .i64 ((rd_T32 l0_4 x9_1).f0), .int .i64 ((rd_T32 l0_4 x9_1).f1), .int .i64 0, .int .i64 0, .slice none 0 0]) ?_ 2 _ rfl; (with_reducible repeat (first | refine Qg ?_ _ | refine Qh ?_ | refine Qf ?_ _)); refine Qr (cs := #[.int .i64 ((rd_T32 l0_4 x9_1).f0), .int .i64 0, .int .i64 0, .int .i64 0, .slice none 0 0]) ?_ 1 _ rfl; (with_reducible repeat (first | refine Qg ?_ _ | refine Qh ?_ | refine Qf ?_ _)); refine Qr (cs := #[.int .i64 0, .int .i64 0, .int .i64 0, .int .i64 0, .slice none 0 0]) ?_ 0 _ rfl; (with_reducible repeat (first | refine Qg ?_ _ | refine Qh ?_ | refine Qf ?_ _)); exact BK323.out) hb); replace HB := Qa (below_step (Bb2 HB.out GE321.out GE323.out) hb); (try clear hb); (try clear hb2); (try clear hk); (try clear hi)))
      go_roundg k1
      case measure => have := HK1.out; omega
      case rel => exact ⟨(ji8), (wrap64 (x9_1 + 1)), (by first | rfl | (simp; done) | (simp only [← hji8] <;> (first | rfl | simp)) | (simp [*]; done)), (by first | rfl | (simp; done) | (simp [*]; done) | (simp; rw [Qx]; simp; done)), H', ⟨by have := HK1.out; omega⟩, ⟨Ba BK321.out⟩, ⟨Bb2 HB.out GE321.out GE323.out⟩⟩
     ·rw [if_neg c6] at H
      exact absurd H (by simp)
    ·rw [if_neg c5] at H
     exact absurd H (by simp)
   ·rw [if_neg c4] at H
    have c4b0 : decide (x9_1 < (l0_4.length : Int)) = false := decide_eq_false c4
    clear c4
    obtain rfl := Option.some.inj H
    go_wp2
    go_ret
    exact ⟨by first | rfl | (simp [errW_none, errW_some] <;> rfl) | (simp [*, errW_none, errW_some] <;> rfl), by repeat (first | (with_reducible first | exact HB.out | apply below_alloc | apply pw_below_drewN | apply below_drew1 | refine below_set ?_ GE321.out) | exact HB.out)⟩
mutual
def spec_l10Copy.l0 : Nat → Int → Int → Int → Int → Int → List (S32) → Int → Int → Int → Int → List (S32) → Option (Int × Int × Int × Int × (List (S32)))
 | 0, _, _, _, _, _, _, _, _, _, _, _ => none
 | k + 1, x4, x326000, x326001, x326002, x326003, x326004, x328000, x328001, x328002, x328003, x328004 => if x4 < (x326004.length : Int) then (if 0 ≤ x4 then ((spec_l10Copy.f k ((rd_T32 x326004 x4).f0) ((rd_T32 x326004 x4).f1) ((rd_T32 x326004 x4).f2) ((rd_T32 x326004 x4).f3) ((rd_T32 x326004 x4).f4)).bind fun bt329 => (if x328004.length < 2513169434916 then (spec_l10Copy.l0 k (wrap64 (x4 + 1)) x326000 x326001 x326002 x326003 x326004 x328000 x328001 x328002 x328003 (x328004 ++ [(⟨bt329.1, bt329.2.1, bt329.2.2.1, bt329.2.2.2.1, bt329.2.2.2.2⟩ : S32)])) else (none))) else (none)) else (some (x328000, x328001, x328002, x328003, x328004))
def spec_l10Copy.f : Nat → Int → Int → Int → Int → List (S32) → Option (Int × Int × Int × Int × (List (S32)))
 | 0, _, _, _, _, _ => none
 | k + 1, a0_0, a0_1, a0_2, a0_3, l0_4 => spec_l10Copy.l0 k 0 a0_0 a0_1 a0_2 a0_3 l0_4 a0_0 a0_1 a0_2 a0_3 ([] : List (S32))
end
theorem spec_l10Copy.mono_l : ∀ k, (∀ y0 y1 y2 y3 y4, LeO (spec_l10Copy.f k y0 y1 y2 y3 y4) (spec_l10Copy.f (k + 1) y0 y1 y2 y3 y4)) ∧ (∀ y0 y1 y2 y3 y4 y5 y6 y7 y8 y9 y10, LeO (spec_l10Copy.l0 k y0 y1 y2 y3 y4 y5 y6 y7 y8 y9 y10) (spec_l10Copy.l0 (k + 1) y0 y1 y2 y3 y4 y5 y6 y7 y8 y9 y10))
 | 0 => ⟨fun _ _ _ _ _ r h => by simp [spec_l10Copy.f] at h, fun _ _ _ _ _ _ _ _ _ _ _ r h => by simp [spec_l10Copy.l0] at h⟩
 | k + 1 => by
  obtain ⟨ih0, ih1⟩ := spec_l10Copy.mono_l k
  refine ⟨?_, ?_⟩
  ·intro y0 y1 y2 y3 y4
   unfold spec_l10Copy.f
   repeat' first
   | (with_reducible exact ih0 _ _ _ _ _)
   | (with_reducible exact ih1 _ _ _ _ _ _ _ _ _ _ _)
   | (with_reducible exact LeO.refl _)
   | (with_reducible exact LeO.none _)
   | (with_reducible refine LeO.ite ?_ ?_)
   | (with_reducible refine LeO.bind ?_ (fun _ => ?_))
   | exact ih0 _ _ _ _ _
   | exact ih1 _ _ _ _ _ _ _ _ _ _ _
   | exact LeO.none _
   | refine LeO.ite ?_ ?_
   | refine LeO.bind ?_ (fun _ => ?_)
  ·intro y0 y1 y2 y3 y4 y5 y6 y7 y8 y9 y10
   unfold spec_l10Copy.l0
   repeat' first
   | (with_reducible exact ih0 _ _ _ _ _)
   | (with_reducible exact ih1 _ _ _ _ _ _ _ _ _ _ _)
   | (with_reducible exact LeO.refl _)
   | (with_reducible exact LeO.none _)
   | (with_reducible refine LeO.ite ?_ ?_)
   | (with_reducible refine LeO.bind ?_ (fun _ => ?_))
   | exact ih0 _ _ _ _ _
   | exact ih1 _ _ _ _ _ _ _ _ _ _ _
   | exact LeO.none _
   | refine LeO.ite ?_ ?_
   | refine LeO.bind ?_ (fun _ => ?_)
theorem spec_l10Copy.mono : ∀ a0 a1 a2 a3 a4 k, LeO (spec_l10Copy.f k a0 a1 a2 a3 a4) (spec_l10Copy.f (k + 1) a0 a1 a2 a3 a4) := by
 intro a0 a1 a2 a3 a4 k
 obtain ⟨ih0, ih1⟩ := spec_l10Copy.mono_l k
 exact ih0 a0 a1 a2 a3 a4
def spec_l10Copy.T5 : Bool × List (List Nat × List Nat) := (true, [([], []), ([0], [0]), ([], []), ([2], [2]), ([], []), ([3, 4], [3, 4]), ([5], [5]), ([6], [6]), ([7], [7]), ([1, 8, 7], [1, 8]), ([0, 1, 2, 3, 4, 5, 6, 7, 8, 9], []), ([10, 9, 9, 0, 1, 2, 3, 4, 5, 6, 7, 8, 9], [9, 10])])
def spec_l10Copy.B5 : List Nat := [0, 1, 0, 4, 0, 28, 60, 124, 252, 511, 1023, 2047]
theorem spec_l10Copy.tab5 : rtab .any (opsOf Try.f72 5) = spec_l10Copy.T5 := by kernel_rfl
theorem spec_l10Copy.bits5 : waitsOk spec_l10Copy.T5.2 spec_l10Copy.B5 = true := by kernel_rfl
set_option maxHeartbeats 8000000 in
set_option maxRecDepth 100000 in
theorem spec_l10Copy.calls (k : Nat) : ∀ (a0_0 : Int) (a0_1 : Int) (a0_2 : Int) (a0_3 : Int) (A0_4 : Option Addr) (c0_4 : Nat) (l0_4 : List (S32)) (r1 : Int) (r2 : Int) (r3 : Int) (r4 : Int) (r5 : List (S32)) (w : World) (hr0_4 : Kd.C k32 w A0_4 l0_4.length l0_4) (hc0_4 : l0_4.length ≤ c0_4) (h : spec_l10Copy.f k a0_0 a0_1 a0_2 a0_3 l0_4 = some (r1, r2, r3, r4, r5)),
  Calls Try.prog 72 #[.agg #[.int .i64 a0_0, .int .i64 a0_1, .int .i64 a0_2, .int .i64 a0_3, .slice A0_4 l0_4.length c0_4]] w fun e w' => ∃ v4_ : Value, e = .returned (.agg #[.int .i64 r1, .int .i64 r2, .int .i64 r3, .int .i64 r4, v4_]) ∧ Kd.R k32 32 w' w.heap.size (fun _ => True) v4_ r5 ∧ Below w.heap.size w w' := by
 induction k using Nat.strongRecOn with
 | _ k ih =>
 intro a0_0 a0_1 a0_2 a0_3 A0_4 c0_4 l0_4 r1 r2 r3 r4 r5 w hr0_4 hc0_4 h
 cases k with
 | zero => exact absurd h (by simp [spec_l10Copy.f])
 | succ k =>
 simp only [spec_l10Copy.f] at h
 have hu32 := Try.underlying32
 have HR0_4 := Qa hr0_4
 have HC0_4 := Qa hc0_4
 clear hr0_4 hc0_4
 have HB := Qa (Below.refl w.heap.size w)
 have H : (spec_l10Copy.l0 k 0 a0_0 a0_1 a0_2 a0_3 l0_4 a0_0 a0_1 a0_2 a0_3 ([] : List (S32))) = some (r1, r2, r3, r4, r5) := h
 clear h
 have H' := Qa H
 clear H
 go_enter Try.func72, Try.ntmps72
 go_wp2_with (first | ((with_reducible refine gate_dst (N := 1) rfl ?_); refine box_event ?hg (N := 1) ?hd (cs := #[.int .i64 a0_0, .int .i64 a0_1, .int .i64 a0_2, .int .i64 a0_3, .slice A0_4 l0_4.length c0_4]) (t := 32) ?hr ?_; (case hd => rfl); (case hg => rfl); (case hr => first | (go_simp; done) | (go_simp; rfl)); intro gb325 hg w2 hbox hb; have BK325 := Qa (hbox); have GW325 := Qa ((by rw [hg]; exact (Qv (Bb0 HB.out)) : w.heap.size ≤ gb325)); have GE325 := Qa ((by rw [hg]; exact (Qv (Bb0 HB.out)) : w.heap.size ≤ gb325)); replace HB := Qa (below_step (Bb0 HB.out) hb); clear hb hbox hg) | ((with_reducible refine gate_dst (N := 2) rfl ?_); refine box_event ?hg (N := 2) ?hd (cs := #[.int .i64 0, .int .i64 0, .int .i64 0, .int .i64 0, .slice none 0 0]) (t := 32) ?hr ?_; (case hd => rfl); (case hg => rfl); (case hr => first | (go_simp; done) | (go_simp; rfl)); intro gb326 hg w3 hbox hb; have BK326 := Qa (hbox); have GW326 := Qa ((by rw [hg]; exact (Qv (Bb1 HB.out GE325.out)) : w.heap.size ≤ gb326)); have GE326 := Qa ((by rw [hg]; exact (Qv (Bb1 HB.out GE325.out)) : w.heap.size ≤ gb326)); replace HB := Qa (below_step (Bb1 HB.out GE325.out) hb); have NB325_326 := Qa ((by rw [hg]; exact Zp (blk_lt (g := gb325) (o := .cells #[.int .i64 a0_0, .int .i64 a0_1, .int .i64 a0_2, .int .i64 a0_3, .slice A0_4 l0_4.length c0_4] 32 (0, 0)) (Ba BK325.out)) : gb325 ≠ gb326)); have NB326_325 := Qa ((by rw [hg]; exact Zy (blk_lt (g := gb325) (o := .cells #[.int .i64 a0_0, .int .i64 a0_1, .int .i64 a0_2, .int .i64 a0_3, .slice A0_4 l0_4.length c0_4] 32 (0, 0)) (Ba BK325.out)) : gb326 ≠ gb325)); replace BK325 := Qa (blk_below (g := gb325) (o := .cells #[.int .i64 a0_0, .int .i64 a0_1, .int .i64 a0_2, .int .i64 a0_3, .slice A0_4 l0_4.length c0_4] 32 (0, 0)) (Ba BK325.out) hb); clear hb hbox hg; have hnb4 := NB325_326.out; have hnc4 := NB326_325.out; have q5_0 : w3.cell? ⟨gb325, 0, none⟩ = some (.int .i64 a0_0) := (Qb BK325.out 0).trans rfl; have q5_1 : w3.cell? ⟨gb325, 1, none⟩ = some (.int .i64 a0_1) := (Qb BK325.out 1).trans rfl; have q5_2 : w3.cell? ⟨gb325, 2, none⟩ = some (.int .i64 a0_2) := (Qb BK325.out 2).trans rfl; have q5_3 : w3.cell? ⟨gb325, 3, none⟩ = some (.int .i64 a0_3) := (Qb BK325.out 3).trans rfl; have q5_4 : w3.cell? ⟨gb325, 4, none⟩ = some (.slice A0_4 l0_4.length c0_4) := (Qb BK325.out 4).trans rfl; have u5_0 := Qc BK325.out 0; have u5_1 := Qc BK325.out 1; have u5_2 := Qc BK325.out 2; have u5_3 := Qc BK325.out 3; have u5_4 := Qc BK325.out 4) | ((with_reducible refine gate_dst (N := 3) rfl ?_); refine box_event ?hg (N := 3) ?hd (cs := #[.int .i64 0, .int .i64 0, .int .i64 0, .int .i64 0, .slice none 0 0]) (t := 32) ?hr ?_; (case hd => rfl); (case hg => rfl); (case hr => first | (go_simp; done) | (go_simp; rfl)); intro gb327 hg w6 hbox hb; have BK327 := Qa (hbox); have GW327 := Qa ((by rw [hg]; exact (Qv (Bb2 HB.out GE325.out GE326.out)) : w.heap.size ≤ gb327)); have GE327 := Qa ((by rw [hg]; exact (Qv (Bb2 HB.out GE325.out GE326.out)) : w.heap.size ≤ gb327)); replace HB := Qa (below_step (Bb2 HB.out GE325.out GE326.out) hb); have NB325_327 := Qa ((by rw [hg]; exact Zp (blk_lt (g := gb325) (o := .cells #[.int .i64 a0_0, .int .i64 a0_1, .int .i64 a0_2, .int .i64 a0_3, .slice A0_4 l0_4.length c0_4] 32 (0, 0)) (Ba BK325.out)) : gb325 ≠ gb327)); have NB327_325 := Qa ((by rw [hg]; exact Zy (blk_lt (g := gb325) (o := .cells #[.int .i64 a0_0, .int .i64 a0_1, .int .i64 a0_2, .int .i64 a0_3, .slice A0_4 l0_4.length c0_4] 32 (0, 0)) (Ba BK325.out)) : gb327 ≠ gb325)); replace BK325 := Qa (blk_below (g := gb325) (o := .cells #[.int .i64 a0_0, .int .i64 a0_1, .int .i64 a0_2, .int .i64 a0_3, .slice A0_4 l0_4.length c0_4] 32 (0, 0)) (Ba BK325.out) hb); have NB326_327 := Qa ((by rw [hg]; exact Zp (blk_lt (g := gb326) (o := .cells #[.int .i64 0, .int .i64 0, .int .i64 0, .int .i64 0, .slice none 0 0] 32 (0, 0)) (Ba BK326.out)) : gb326 ≠ gb327)); have NB327_326 := Qa ((by rw [hg]; exact Zy (blk_lt (g := gb326) (o := .cells #[.int .i64 0, .int .i64 0, .int .i64 0, .int .i64 0, .slice none 0 0] 32 (0, 0)) (Ba BK326.out)) : gb327 ≠ gb326)); replace BK326 := Qa (blk_below (g := gb326) (o := .cells #[.int .i64 0, .int .i64 0, .int .i64 0, .int .i64 0, .slice none 0 0] 32 (0, 0)) (Ba BK326.out) hb); clear hb hbox hg; have hnb7 := NB327_325.out; have hnc7 := NB325_327.out; have hnb8 := NB327_326.out; have hnc8 := NB326_327.out; have q9_0 : w6.cell? ⟨gb327, 0, none⟩ = some (.int .i64 0) := (Qb BK327.out 0).trans rfl; have q9_1 : w6.cell? ⟨gb327, 1, none⟩ = some (.int .i64 0) := (Qb BK327.out 1).trans rfl; have q9_2 : w6.cell? ⟨gb327, 2, none⟩ = some (.int .i64 0) := (Qb BK327.out 2).trans rfl; have q9_3 : w6.cell? ⟨gb327, 3, none⟩ = some (.int .i64 0) := (Qb BK327.out 3).trans rfl; have q9_4 : w6.cell? ⟨gb327, 4, none⟩ = some (.slice none 0 0) := (Qb BK327.out 4).trans rfl; have u9_0 := Qc BK327.out 0; have u9_1 := Qc BK327.out 1; have u9_2 := Qc BK327.out 2; have u9_3 := Qc BK327.out 3; have u9_4 := Qc BK327.out 4))
 go_loopg [4] k (fun kq v4 w' => ∃ (x4_1 : Int) (x328004_1 : List (S32)) (u328004 : Value), v4 = .int .i64 x4_1 ∧ Aside0 (spec_l10Copy.l0 kq x4_1 a0_0 a0_1 a0_2 a0_3 l0_4 a0_0 a0_1 a0_2 a0_3 x328004_1 = some (r1, r2, r3, r4, r5)) ∧ Aside0 (kq ≤ k) ∧ Aside0 (Kd.R k32 32 w' w.heap.size (fun k_ => k_ ≠ gb325 ∧ k_ ≠ gb326 ∧ k_ ≠ gb327) u328004 x328004_1) ∧ Aside0 (w'.heap[gb325]? = some (.cells #[.int .i64 a0_0, .int .i64 a0_1, .int .i64 a0_2, .int .i64 a0_3, (.slice A0_4 l0_4.length c0_4)] 32 (0, 0))) ∧ Aside0 (w'.heap[gb326]? = some (.cells #[.int .i64 0, .int .i64 0, .int .i64 0, .int .i64 0, (.slice none 0 0)] 32 (0, 0))) ∧ Aside0 (w'.heap[gb327]? = some (.cells #[.int .i64 a0_0, .int .i64 a0_1, .int .i64 a0_2, .int .i64 a0_3, u328004] 32 (0, 0))) ∧ Aside0 (Below w.heap.size w w'))
 case atStart => exact ⟨(0), (([] : List (S32))), (.slice none 0 0), (by first | rfl | (simp; done) | (simp [*]; done) | (simp; rw [Qx]; simp; done)), H', ⟨Nat.le_refl _⟩, ⟨by first | exact Kd.R_nil _ _ _ _ _ | exact Kd.N_nil _ _ _ _ _ | exact Kd.V_nil _ _ _ _ _ | exact Kd.Q_nil _ _ _ _ _ | exact Kd.S_nil _ _ _ _ _⟩, ⟨by (iterate 5 ((with_reducible repeat (first | refine Qg ?_ _ | refine Qh ?_ | refine Qf ?_ _)); refine blk_far ?_ NB325_327.out _)); (with_reducible repeat (first | refine Qg ?_ _ | refine Qh ?_ | refine Qf ?_ _)); exact BK325.out⟩, ⟨by (iterate 5 ((with_reducible repeat (first | refine Qg ?_ _ | refine Qh ?_ | refine Qf ?_ _)); refine blk_far ?_ NB326_327.out _)); (with_reducible repeat (first | refine Qg ?_ _ | refine Qh ?_ | refine Qf ?_ _)); exact BK326.out⟩, ⟨by (with_reducible repeat (first | refine Qg ?_ _ | refine Qh ?_ | refine Qf ?_ _)); refine Qr (cs := #[.int .i64 a0_0, .int .i64 a0_1, .int .i64 a0_2, .int .i64 a0_3, .slice none 0 0]) ?_ 4 _ rfl; (with_reducible repeat (first | refine Qg ?_ _ | refine Qh ?_ | refine Qf ?_ _)); refine Qr (cs := #[.int .i64 a0_0, .int .i64 a0_1, .int .i64 a0_2, .int .i64 0, .slice none 0 0]) ?_ 3 _ rfl; (with_reducible repeat (first | refine Qg ?_ _ | refine Qh ?_ | refine Qf ?_ _)); refine Qr (cs := #[.int .i64 a0_0, .int .i64 a0_1, .int .i64 0, .int .i64 0, .slice none 0 0]) ?_ 2 _ rfl; (with_reducible repeat (first | refine Qg ?_ _ | refine Qh ?_ | refine Qf ?_ _)); refine Qr (cs := #[.int .i64 a0_0, .int .i64 0, .int .i64 0, .int .i64 0, .slice none 0 0]) ?_ 1 _ rfl; (with_reducible repeat (first | refine Qg ?_ _ | refine Qh ?_ | refine Qf ?_ _)); refine Qr (cs := #[.int .i64 0, .int .i64 0, .int .i64 0, .int .i64 0, .slice none 0 0]) ?_ 0 _ rfl; (with_reducible repeat (first | refine Qg ?_ _ | refine Qh ?_ | refine Qf ?_ _)); exact BK327.out⟩, ⟨Bb3 HB.out GE325.out GE326.out GE327.out⟩⟩
 case round =>
  clear H'
  try clear p2
  try clear c4
  try clear c7
  try clear c8
  try clear q5_0
  try clear q5_1
  try clear q5_2
  try clear q5_3
  try clear q5_4
  try clear q9_0
  try clear q9_1
  try clear q9_2
  try clear q9_3
  try clear q9_4
  try clear u5_0
  try clear u5_1
  try clear u5_2
  try clear u5_3
  try clear u5_4
  try clear u9_0
  try clear u9_1
  try clear u9_2
  try clear u9_3
  try clear u9_4
  obtain ⟨x4_1, x328004_1, u328004, rfl, HA, HK1, HO_328004, BK325, BK326, BK327, HB⟩ := hrel
  cases gk with
  | zero => exact absurd HA.out (by simp [spec_l10Copy.l0])
  | succ k1 =>
   have H := HA.out
   clear HA
   simp only [spec_l10Copy.l0] at H
   by_cases c10 : x4_1 < (l0_4.length : Int)
   ·rw [if_pos c10] at H
    have c10b0 : decide (x4_1 < (l0_4.length : Int)) = true := decide_eq_true c10
    clear c10
    by_cases c11 : 0 ≤ x4_1
    ·rw [if_pos c11] at H
     have c11b0 : decide (0 ≤ x4_1) = true := decide_eq_true c11
     clear c11
     replace H := Option.bind_eq_some_iff.mp H
     obtain ⟨⟨t329, t330, t331, t332, t333⟩, A120, H⟩ := H
     replace H : (if x328004_1.length < 2513169434916 then (spec_l10Copy.l0 k1 (wrap64 (x4_1 + 1)) a0_0 a0_1 a0_2 a0_3 l0_4 a0_0 a0_1 a0_2 a0_3 (x328004_1 ++ [(⟨t329, t330, t331, t332, t333⟩ : S32)])) else (none)) = some (r1, r2, r3, r4, r5) := H
     have A12 := Qa A120
     clear A120
     by_cases c13 : x328004_1.length < 2513169434916
     ·rw [if_pos c13] at H
      have LMc13 := Qa c13
      clear c13
      obtain ⟨y336, hy336⟩ : ∃ y_ : List (S32), y_ = (x328004_1 ++ [(⟨t329, t330, t331, t332, t333⟩ : S32)]) := ⟨_, rfl⟩
      replace H : (spec_l10Copy.l0 k1 (wrap64 (x4_1 + 1)) a0_0 a0_1 a0_2 a0_3 l0_4 a0_0 a0_1 a0_2 a0_3 y336) = some (r1, r2, r3, r4, r5) := by first | (rw [hy336]; with_reducible exact H) | (have H2_ := (Option.bind_some _ _).symm.trans H; rw [hy336]; with_reducible exact H2_) | (have H2_ := (Option.bind_some _ _).symm.trans H; with_reducible exact H2_) | with_reducible exact H | (rw [hy336]; exact H) | exact H
      have Ny336 := Qa hy336
      clear hy336
      have H' := Qa H
      clear H
      have hnb14 := NB325_326.out
      have hnc14 := NB326_325.out
      have hnb15 := NB325_327.out
      have hnc15 := NB327_325.out
      have q16_0 : wr.cell? ⟨gb325, 0, none⟩ = some (.int .i64 a0_0) := (Qb BK325.out 0).trans rfl
      have q16_1 : wr.cell? ⟨gb325, 1, none⟩ = some (.int .i64 a0_1) := (Qb BK325.out 1).trans rfl
      have q16_2 : wr.cell? ⟨gb325, 2, none⟩ = some (.int .i64 a0_2) := (Qb BK325.out 2).trans rfl
      have q16_3 : wr.cell? ⟨gb325, 3, none⟩ = some (.int .i64 a0_3) := (Qb BK325.out 3).trans rfl
      have q16_4 : wr.cell? ⟨gb325, 4, none⟩ = some (.slice A0_4 l0_4.length c0_4) := (Qb BK325.out 4).trans rfl
      have u16_0 := Qc BK325.out 0
      have u16_1 := Qc BK325.out 1
      have u16_2 := Qc BK325.out 2
      have u16_3 := Qc BK325.out 3
      have u16_4 := Qc BK325.out 4
      try go_wp2
      replace HO_328004 := Qa (Kd.R_drew HO_328004.out)
      replace BK325 := Qa (Qh BK325.out)
      replace BK326 := Qa (Qh BK326.out)
      replace BK327 := Qa (Qh BK327.out)
      replace HB := Qa (below_drew1 HB.out)
      have p328 : 0 ≤ (x4_1 : Int) := of_decide_eq_true (by first | (with_reducible assumption) | assumption)
      have q328 : x4_1 < (l0_4.length : Int) := of_decide_eq_true (by first | (with_reducible assumption) | assumption)
      obtain ⟨ad328, A328_4, c328_4, e328, hx328_0, hx328_1, hx328_2, hx328_3, hx328_4, hl328_4, hi328_4⟩ := at_T32 HR0_4.out x4_1 p328 q328
      have hw328_4 := hx328_4
      have hw328_3 := hx328_3
      have hw328_2 := hx328_2
      have hw328_1 := hx328_1
      have hw328_0 := hx328_0
      cases e328
      replace hx328_0 := (HB.out.cell (Qd w _ hx328_0)).trans hx328_0
      replace hx328_1 := (HB.out.cell (Qd w _ hx328_1)).trans hx328_1
      replace hx328_2 := (HB.out.cell (Qd w _ hx328_2)).trans hx328_2
      replace hx328_3 := (HB.out.cell (Qd w _ hx328_3)).trans hx328_3
      replace hx328_4 := (HB.out.cell (Qd w _ hx328_4)).trans hx328_4
      have HR328_4 := Qa hi328_4
      have HC328_4 := Qa hl328_4
      clear hi328_4 hl328_4
      replace p328 := eq_true p328
      replace q328 := eq_true q328
      refine start_ (n := 12) (S := fun w' => w'.cell? ⟨gb327, 0, none⟩ = some (.int .i64 a0_0) ∧ w'.cell? ⟨gb327, 1, none⟩ = some (.int .i64 a0_1) ∧ w'.cell? ⟨gb327, 2, none⟩ = some (.int .i64 a0_2) ∧ w'.cell? ⟨gb327, 3, none⟩ = some (.int .i64 a0_3) ∧ w'.cell? ⟨gb327, 4, none⟩ = some (u328004) ∧ w'.cell? ⟨gb325, 0, none⟩ = some (.int .i64 a0_0) ∧ w'.cell? ⟨gb325, 1, none⟩ = some (.int .i64 a0_1) ∧ w'.cell? ⟨gb325, 2, none⟩ = some (.int .i64 a0_2) ∧ w'.cell? ⟨gb325, 3, none⟩ = some (.int .i64 a0_3) ∧ w'.cell? ⟨gb325, 4, none⟩ = some (.slice (some ad328) l0_4.length c0_4) ∧ w'.cell? (ad328.add ((x4_1).toNat * 5)) = some (.int .i64 ((rd_T32 l0_4 x4_1).f0)) ∧ w'.cell? ⟨(ad328.add ((x4_1).toNat * 5)).block, (ad328.add ((x4_1).toNat * 5)).off + 1, none⟩ = some (.int .i64 ((rd_T32 l0_4 x4_1).f1)) ∧ w'.cell? ⟨(ad328.add ((x4_1).toNat * 5)).block, (ad328.add ((x4_1).toNat * 5)).off + 2, none⟩ = some (.int .i64 ((rd_T32 l0_4 x4_1).f2)) ∧ w'.cell? ⟨(ad328.add ((x4_1).toNat * 5)).block, (ad328.add ((x4_1).toNat * 5)).off + 3, none⟩ = some (.int .i64 ((rd_T32 l0_4 x4_1).f3)) ∧ w'.cell? ⟨(ad328.add ((x4_1).toNat * 5)).block, (ad328.add ((x4_1).toNat * 5)).off + 4, none⟩ = some (.slice A328_4 ((rd_T32 l0_4 x4_1).f4).length c328_4)) (ds := [11]) #[false, false, false, false, false, false, false, false, false, false, false, false] (by kernel_rfl) rfl rfl ⟨(Qb BK327.out 0).trans rfl, (Qb BK327.out 1).trans rfl, (Qb BK327.out 2).trans rfl, (Qb BK327.out 3).trans rfl, (Qb BK327.out 4).trans rfl, (Qb BK325.out 0).trans rfl, (Qb BK325.out 1).trans rfl, (Qb BK325.out 2).trans rfl, (Qb BK325.out 3).trans rfl, (Qb BK325.out 4).trans rfl, ((HB.out.cell (Qd w _ hw328_0)).trans hw328_0), ((HB.out.cell (Qd w _ hw328_1)).trans hw328_1), ((HB.out.cell (Qd w _ hw328_2)).trans hw328_2), ((HB.out.cell (Qd w _ hw328_3)).trans hw328_3), ((HB.out.cell (Qd w _ hw328_4)).trans hw328_4)⟩ (fun hHeld => ?_); refine with_tabW spec_l10Copy.tab5 spec_l10Copy.bits5 (fun HT_ HW_ => ?_)
      generalize wr.drew = w17 at HO_328004 BK325 BK326 BK327 HB HR328_4 hx328_0 hx328_1 hx328_2 hx328_3 hx328_4 hHeld ⊢
      refine pure_ (i := 0) (N := some 21) (v := ?_) (a' := ?_) #[true, false, false, false, false, false, false, false, false, false, false, false] rfl rfl (any_of HT_.out (by kernel_rfl)) (fun _ _ _ h => h) (Xt ⟨by rfl, ?_⟩) ?_ ?_
      rotate_left
      ·intro w'
       go_simp
       with_reducible rfl
      rotate_left
      ·simp only [Zg, Qe, Qj, Qk, i64_w, i32_w]
       rfl
      refine pure_ (i := 2) (N := some 23) (v := ?_) (a' := ?_) #[true, false, true, false, false, false, false, false, false, false, false, false] rfl rfl (any_of HT_.out (by kernel_rfl)) (fun _ _ _ h => h) (Xt ⟨by rfl, ?_⟩) ?_ ?_
      rotate_left
      ·intro w'
       go_simp
       with_reducible rfl
      rotate_left
      ·simp only [Zg, Qe, Qj, Qk, i64_w, i32_w]
       rfl
      refine pure_ (i := 4) (N := some 25) (v := ?_) (a' := ?_) #[true, false, true, false, true, false, false, false, false, false, false, false] rfl rfl (any_of HT_.out (by kernel_rfl)) (fun _ _ _ h => h) (Xt ⟨by rfl, ?_⟩) ?_ ?_
      rotate_left
      ·intro w'
       go_simp
       with_reducible rfl
      rotate_left
      ·simp only [Zg, Qe, Qj, Qk, i64_w, i32_w]
       rfl
      refine take_ (i := 1) (N := some 22) (v := ?_) (a' := ?_) #[true, true, true, false, true, false, false, false, false, false, false, false] rfl rfl (take_ofW HT_.out HW_.out (by kernel_rfl)) (fun _ _ _ h => h) (Xt ⟨by rfl, ?_⟩) hHeld ?_ ?_
      rotate_left
      ·rintro w' ⟨s0, s1, s2, s3, s4, s5, s6, s7, s8, s9, s10, s11, s12, s13, s14⟩
       go_simp
       with_reducible rfl
      rotate_left
      ·simp only [Zg, Qe, Qj, Qk, i64_w, i32_w]
       rfl
      refine take_ (i := 3) (N := some 24) (v := ?_) (a' := ?_) #[true, true, true, true, true, false, false, false, false, false, false, false] rfl rfl (take_ofW HT_.out HW_.out (by kernel_rfl)) (fun _ _ _ h => h) (Xt ⟨by rfl, ?_⟩) hHeld ?_ ?_
      rotate_left
      ·rintro w' ⟨s0, s1, s2, s3, s4, s5, s6, s7, s8, s9, s10, s11, s12, s13, s14⟩
       go_simp
       with_reducible rfl
      rotate_left
      ·simp only [Zg, Qe, Qj, Qk, i64_w, i32_w]
       rfl
      refine pure_ (i := 5) (N := some 26) (v := ?_) (a' := ?_) #[true, true, true, true, true, true, false, false, false, false, false, false] rfl rfl (any_of HT_.out (by kernel_rfl)) (fun _ _ _ h => h) (Xt ⟨by rfl, ?_⟩) ?_ ?_
      rotate_left
      ·intro w'
       go_simp
       with_reducible rfl
      rotate_left
      ·simp only [Zg, Qe, Qj, Qk, i64_w, i32_w]
       rfl
      refine take_ (i := 6) (N := some 27) (v := ?_) (a' := ?_) #[true, true, true, true, true, true, true, false, false, false, false, false] rfl rfl (take_ofW HT_.out HW_.out (by kernel_rfl)) (fun _ _ _ h => h) (Xt ⟨by rfl, ?_⟩) hHeld ?_ ?_
      rotate_left
      ·rintro w' ⟨s0, s1, s2, s3, s4, s5, s6, s7, s8, s9, s10, s11, s12, s13, s14⟩
       go_simp
       with_reducible rfl
      rotate_left
      ·simp only [Zg, Qe, Qj, Qk, i64_w, i32_w]
       rfl
      refine one_ (i := 7) (N := some 28) #[true, true, true, true, true, true, true, true, false, false, false, false] rfl rfl (one_of HT_.out (by kernel_rfl)) (by decide) (fun K hK => ?_)
      refine goes_ Try.func72 (by kernel_rfl) rfl #[.agg #[.int .i64 ((rd_T32 l0_4 x4_1).f0), .int .i64 ((rd_T32 l0_4 x4_1).f1), .int .i64 ((rd_T32 l0_4 x4_1).f2), .int .i64 ((rd_T32 l0_4 x4_1).f3), .slice A328_4 ((rd_T32 l0_4 x4_1).f4).length c328_4]] (by rfl) rfl rfl (by (try simp only [List.map_toArray, List.map_cons, List.map_nil]); first | done | rfl | (simp only [List.length_drop, List.length_take]; rfl)) ?_
      with_reducible refine (ih k1 (by have := HK1.out; omega) ((rd_T32 l0_4 x4_1).f0) ((rd_T32 l0_4 x4_1).f1) ((rd_T32 l0_4 x4_1).f2) ((rd_T32 l0_4 x4_1).f3) _ _ ((rd_T32 l0_4 x4_1).f4) t329 t330 t331 t332 t333 _ ?side1 ?side2 A12.out).mono ?_
      (case side1 => repeat (first | exact (Kd.C_below HR328_4.out HB.out) | (with_reducible refine Kd.C_alloc ?_ _) | (with_reducible refine Kd.C_drewN ?_ _) | (with_reducible refine Kd.C_drew ?_)))
      (case side2 => exact HC328_4.out)
      rintro e w18 ⟨v334, rfl, ho0, hb⟩
      refine ⟨_, rfl, ?_⟩
      have HO335 := Qa (Kd.R_lower (Kd.R_newB (Kd.R_newB (Kd.R_newB (Kd.R_new' ho0 (Kd.R_lt (Br HO_328004.out))) (g := gb325) (o := .cells #[.int .i64 a0_0, .int .i64 a0_1, .int .i64 a0_2, .int .i64 a0_3, .slice (some ad328) l0_4.length c0_4] 32 (0, 0)) (Ba BK325.out)) (g := gb326) (o := .cells #[.int .i64 0, .int .i64 0, .int .i64 0, .int .i64 0, .slice none 0 0] 32 (0, 0)) (Ba BK326.out)) (g := gb327) (o := .cells #[.int .i64 a0_0, .int .i64 a0_1, .int .i64 a0_2, .int .i64 a0_3, u328004] 32 (0, 0)) (Ba BK327.out)) (Qv (Bb3 HB.out GE325.out GE326.out GE327.out)))
      replace HO_328004 := Qa (Kd.R_elder' (Br HO_328004.out) (Kd.R_base ho0) hb)
      replace BK325 := Qa (blk_below (g := gb325) (o := .cells #[.int .i64 a0_0, .int .i64 a0_1, .int .i64 a0_2, .int .i64 a0_3, .slice (some ad328) l0_4.length c0_4] 32 (0, 0)) (Ba BK325.out) hb)
      replace BK326 := Qa (blk_below (g := gb326) (o := .cells #[.int .i64 0, .int .i64 0, .int .i64 0, .int .i64 0, .slice none 0 0] 32 (0, 0)) (Ba BK326.out) hb)
      replace BK327 := Qa (blk_below (g := gb327) (o := .cells #[.int .i64 a0_0, .int .i64 a0_1, .int .i64 a0_2, .int .i64 a0_3, u328004] 32 (0, 0)) (Ba BK327.out) hb)
      replace HB := Qa (below_step (Bb3 HB.out GE325.out GE326.out GE327.out) hb)
      (try clear hb)
      (try clear hb2)
      (try clear hk)
      (try clear hi)
      (try clear ho0)
      obtain ⟨Ao20, co20, eo20⟩ := Kd.R_slice HO335.out
      (first | subst eo20 | (injection eo20 with f1_ f2_ f3_; have f4_ := f1_.symm; have f5_ := f3_.symm; clear f1_ f2_ f3_; subst f4_; subst f5_))
      refine hK.out _ _ ⟨(Qb BK327.out 0).trans rfl, (Qb BK327.out 1).trans rfl, (Qb BK327.out 2).trans rfl, (Qb BK327.out 3).trans rfl, (Qb BK327.out 4).trans rfl, (Qb BK325.out 0).trans rfl, (Qb BK325.out 1).trans rfl, (Qb BK325.out 2).trans rfl, (Qb BK325.out 3).trans rfl, (Qb BK325.out 4).trans rfl, ((HB.out.cell (Qd w _ hw328_0)).trans hw328_0), ((HB.out.cell (Qd w _ hw328_1)).trans hw328_1), ((HB.out.cell (Qd w _ hw328_2)).trans hw328_2), ((HB.out.cell (Qd w _ hw328_3)).trans hw328_3), ((HB.out.cell (Qd w _ hw328_4)).trans hw328_4)⟩ (fun hHeld => ?_)
      clear hK K
      refine norm_ (a' := ?_) ?_ ?_
      rotate_left
      ·show Zg _ (some 28) _ = _
       simp only [Zg, Qe, Qj, Qk, i64_w, i32_w]
       rfl
      refine one_ (i := 8) (N := some 29) #[true, true, true, true, true, true, true, true, true, false, false, false] rfl rfl (one_of HT_.out (by kernel_rfl)) (by decide) (fun K hK => ?_)
      refine value_ (w1 := ?_) (v := ?_) (by rfl) rfl ?_ ?_
      rotate_left 2
      ·go_simp
       constructor
       ·rfl
       ·rfl
      refine hK.out _ _ ⟨(Qb (Qf BK327.out _) 0).trans rfl, (Qb (Qf BK327.out _) 1).trans rfl, (Qb (Qf BK327.out _) 2).trans rfl, (Qb (Qf BK327.out _) 3).trans rfl, (Qb (Qf BK327.out _) 4).trans rfl, (Qb (Qf BK325.out _) 0).trans rfl, (Qb (Qf BK325.out _) 1).trans rfl, (Qb (Qf BK325.out _) 2).trans rfl, (Qb (Qf BK325.out _) 3).trans rfl, (Qb (Qf BK325.out _) 4).trans rfl, (World.cell?_alloc_lt _ _ _ (Qd _ _ (((HB.out.cell (Qd w _ hw328_0)).trans hw328_0)))).trans (((HB.out.cell (Qd w _ hw328_0)).trans hw328_0)), (World.cell?_alloc_lt _ _ _ (Qd _ _ (((HB.out.cell (Qd w _ hw328_1)).trans hw328_1)))).trans (((HB.out.cell (Qd w _ hw328_1)).trans hw328_1)), (World.cell?_alloc_lt _ _ _ (Qd _ _ (((HB.out.cell (Qd w _ hw328_2)).trans hw328_2)))).trans (((HB.out.cell (Qd w _ hw328_2)).trans hw328_2)), (World.cell?_alloc_lt _ _ _ (Qd _ _ (((HB.out.cell (Qd w _ hw328_3)).trans hw328_3)))).trans (((HB.out.cell (Qd w _ hw328_3)).trans hw328_3)), (World.cell?_alloc_lt _ _ _ (Qd _ _ (((HB.out.cell (Qd w _ hw328_4)).trans hw328_4)))).trans (((HB.out.cell (Qd w _ hw328_4)).trans hw328_4))⟩ (fun hHeld => ?_)
      clear hK K
      refine norm_ (a' := ?_) ?_ ?_
      rotate_left
      ·show Zg _ (some 29) _ = _
       simp only [Zg, Qe, Qj, Qk, i64_w, i32_w]
       rfl
      refine one_ (i := 9) (N := some 30) #[true, true, true, true, true, true, true, true, true, true, false, false] rfl rfl (one_of HT_.out (by kernel_rfl)) (by decide) (fun K hK => ?_)
      refine Kd.R_append_step k32 (w0 := w) w.heap.size (by rfl) (.tmp 22) (.tmp 29) 30 32 (.agg #[(.int .i64 0), (.int .i64 0), (.int .i64 0), (.int .i64 0), (.slice none 0 0)]) 56 rfl Try.underlying30 info32 rfl (by decide) (by omega) u328004 x328004_1 (⟨t329, t330, t331, t332, t333⟩ : S32) [.int .i64 t329, .int .i64 t330, .int .i64 t331, .int .i64 t332, .slice Ao20 t333.length co20] (fun k_ => k_ ≠ gb325 ∧ k_ ≠ gb326 ∧ k_ ≠ gb327) (fun k_ => ((fun k_ => k_ ≠ gb325 ∧ k_ ≠ gb326 ∧ k_ ≠ gb327)) k_ ∧ some k_ ≠ (u328004 : Value).ownBlock) rfl rfl ?aP (fun _ hk => hk) ?aF ?aO ?aB ?aS ?aL ?_
      (case aP => exact k32_mkM _ _ _ (⟨t329, t330, t331, t332, t333⟩ : S32) (Kd.R_mono (HO335.out) (fun k_ hk => ⟨⟨hk.1.1.2, ⟨hk.1.2, hk.2⟩⟩, hk.1.1.1.2⟩)))
      (case aB => exact (Bb3 HB.out GE325.out GE326.out GE327.out))
      (case aF => exact (fun k_ hk => ⟨Kd.freshB (g := gb325) (o := .cells #[.int .i64 a0_0, .int .i64 a0_1, .int .i64 a0_2, .int .i64 a0_3, .slice (some ad328) l0_4.length c0_4] 32 (0, 0)) (Ba BK325.out) k_ hk, Kd.freshB (g := gb326) (o := .cells #[.int .i64 0, .int .i64 0, .int .i64 0, .int .i64 0, .slice none 0 0] 32 (0, 0)) (Ba BK326.out) k_ hk, Kd.freshB (g := gb327) (o := .cells #[.int .i64 a0_0, .int .i64 a0_1, .int .i64 a0_2, .int .i64 a0_3, u328004] 32 (0, 0)) (Ba BK327.out) k_ hk⟩))
      (case aO => exact (by (with_reducible repeat (first | apply Kd.R_alloc | apply Kd.R_drewN | apply Kd.R_drew)); exact Kd.R_mono HO_328004.out (fun _ hk => ⟨hk.1.1, ⟨hk.1.2.1, hk.1.2.2⟩⟩)))
      (case aS => exact (Qv (Bb3 HB.out GE325.out GE326.out GE327.out)))
      (case aL => have := LMc13.out; omega)
      intro v337 w19 ho hb hg hat
      rw [← Ny336.out] at ho
      replace BK325 := Qa (blk_grown (g := gb325) (o := .cells #[.int .i64 a0_0, .int .i64 a0_1, .int .i64 a0_2, .int .i64 a0_3, .slice (some ad328) l0_4.length c0_4] 32 (0, 0)) (Ba BK325.out) hg (Kd.R_away HO_328004.out (fun _ hk => hk.1.1)))
      replace BK326 := Qa (blk_grown (g := gb326) (o := .cells #[.int .i64 0, .int .i64 0, .int .i64 0, .int .i64 0, .slice none 0 0] 32 (0, 0)) (Ba BK326.out) hg (Kd.R_away HO_328004.out (fun _ hk => hk.1.2.1)))
      replace BK327 := Qa (blk_grown (g := gb327) (o := .cells #[.int .i64 a0_0, .int .i64 a0_1, .int .i64 a0_2, .int .i64 a0_3, u328004] 32 (0, 0)) (Ba BK327.out) hg (Kd.R_away HO_328004.out (fun _ hk => hk.1.2.2)))
      replace HB := Qa (hb)
      have HO338 := Qa (ho)
      clear HO_328004 HO335 ho hb hg hat
      obtain ⟨Ao21, co21, eo21⟩ := Kd.R_slice HO338.out
      (first | subst eo21 | (injection eo21 with f1_ f2_ f3_; have f4_ := f1_.symm; have f5_ := f3_.symm; clear f1_ f2_ f3_; subst f4_; subst f5_))
      refine hK.out _ _ ⟨(Qb BK327.out 0).trans rfl, (Qb BK327.out 1).trans rfl, (Qb BK327.out 2).trans rfl, (Qb BK327.out 3).trans rfl, (Qb BK327.out 4).trans rfl, (Qb BK325.out 0).trans rfl, (Qb BK325.out 1).trans rfl, (Qb BK325.out 2).trans rfl, (Qb BK325.out 3).trans rfl, (Qb BK325.out 4).trans rfl, ((HB.out.cell (Qd w _ hw328_0)).trans hw328_0), ((HB.out.cell (Qd w _ hw328_1)).trans hw328_1), ((HB.out.cell (Qd w _ hw328_2)).trans hw328_2), ((HB.out.cell (Qd w _ hw328_3)).trans hw328_3), ((HB.out.cell (Qd w _ hw328_4)).trans hw328_4)⟩ (fun hHeld => ?_)
      clear hK K
      refine norm_ (a' := ?_) ?_ ?_
      rotate_left
      ·show Zg _ (some 30) _ = _
       simp only [Zg, Qe, Qj, Qk, i64_w, i32_w]
       rfl
      refine pure_ (i := 10) (N := some 31) (v := ?_) (a' := ?_) #[true, true, true, true, true, true, true, true, true, true, true, false] rfl rfl (any_of HT_.out (by kernel_rfl)) (fun _ _ _ h => h) (Xt ⟨by rfl, ?_⟩) ?_ ?_
      rotate_left
      ·intro w'
       go_simp
       with_reducible rfl
      rotate_left
      ·simp only [Zg, Qe, Qj, Qk, i64_w, i32_w]
       rfl
      refine last_ (i := 11) (N := none) #[true, true, true, true, true, true, true, true, true, true, true, true] rfl rfl (one_of HT_.out (by kernel_rfl)) (by decide) (fun K hK => ?_)
      have hs22 : w19.cell? ⟨gb327, 4, none⟩ = some (u328004) := (Qb BK327.out 4).trans rfl
      have hfs22 := Qc BK327.out 4
      have hns22_0 := NB325_327.out
      have hns22_1 := NB326_327.out
      have hms22_0 := NB327_325.out
      have hms22_1 := NB327_326.out
      refine skip_ (w1 := ?_) (by rfl) rfl ?_ ?_
      rotate_left
      ·go_simp
       rfl
      refine hK.out _ _ ?_
      clear hK K
      refine done_ (done_of HT_.out (by kernel_rfl)) ?_
      try go_wp2
      go_roundg k1
      case measure => have := HK1.out; omega
      case rel => exact ⟨(wrap64 (x4_1 + 1)), (y336), (.slice Ao21 y336.length co21), (by first | rfl | (simp; done) | (simp [*]; done) | (simp; rw [Qx]; simp; done)), H', ⟨by have := HK1.out; omega⟩, ⟨by (with_reducible repeat (first | apply Kd.R_alloc | apply Kd.R_drewN | apply Kd.R_drew)); exact Kd.R_mono (Kd.R_far (p := ⟨gb327, 4, none⟩) (Kd.R_mono HO338.out (fun k_ hk => (⟨hk, hk.2.2⟩ : _ ∧ k_ ≠ gb327))) (fun _ hk => hk.2) (.slice Ao21 y336.length co21)) (fun _ hk => ⟨hk.1.1, ⟨hk.1.2.1, hk.1.2.2⟩⟩)⟩, ⟨by (with_reducible repeat (first | refine Qg ?_ _ | refine Qh ?_ | refine Qf ?_ _)); refine blk_far ?_ NB325_327.out _; (with_reducible repeat (first | refine Qg ?_ _ | refine Qh ?_ | refine Qf ?_ _)); exact BK325.out⟩, ⟨by (with_reducible repeat (first | refine Qg ?_ _ | refine Qh ?_ | refine Qf ?_ _)); refine blk_far ?_ NB326_327.out _; (with_reducible repeat (first | refine Qg ?_ _ | refine Qh ?_ | refine Qf ?_ _)); exact BK326.out⟩, ⟨by (with_reducible repeat (first | refine Qg ?_ _ | refine Qh ?_ | refine Qf ?_ _)); refine Qr (cs := #[.int .i64 a0_0, .int .i64 a0_1, .int .i64 a0_2, .int .i64 a0_3, u328004]) ?_ 4 _ rfl; (with_reducible repeat (first | refine Qg ?_ _ | refine Qh ?_ | refine Qf ?_ _)); exact BK327.out⟩, ⟨Bb3 HB.out GE325.out GE326.out GE327.out⟩⟩
     ·rw [if_neg c13] at H
      exact absurd H (by simp)
    ·rw [if_neg c11] at H
     exact absurd H (by simp)
   ·rw [if_neg c10] at H
    have c10b0 : decide (x4_1 < (l0_4.length : Int)) = false := decide_eq_false c10
    clear c10
    simp only [Option.some.injEq, Prod.mk.injEq] at H
    obtain ⟨rfl, rfl, rfl, rfl, rfl⟩ := H
    have hnb23 := NB325_326.out
    have hnc23 := NB326_325.out
    have hnb24 := NB325_327.out
    have hnc24 := NB327_325.out
    have q25_0 : wr.cell? ⟨gb325, 0, none⟩ = some (.int .i64 a0_0) := (Qb BK325.out 0).trans rfl
    have q25_1 : wr.cell? ⟨gb325, 1, none⟩ = some (.int .i64 a0_1) := (Qb BK325.out 1).trans rfl
    have q25_2 : wr.cell? ⟨gb325, 2, none⟩ = some (.int .i64 a0_2) := (Qb BK325.out 2).trans rfl
    have q25_3 : wr.cell? ⟨gb325, 3, none⟩ = some (.int .i64 a0_3) := (Qb BK325.out 3).trans rfl
    have q25_4 : wr.cell? ⟨gb325, 4, none⟩ = some (.slice A0_4 l0_4.length c0_4) := (Qb BK325.out 4).trans rfl
    have u25_0 := Qc BK325.out 0
    have u25_1 := Qc BK325.out 1
    have u25_2 := Qc BK325.out 2
    have u25_3 := Qc BK325.out 3
    have u25_4 := Qc BK325.out 4
    have hnb26 := NB327_326.out
    have hnc26 := NB326_327.out
    have q27_0 : wr.cell? ⟨gb327, 0, none⟩ = some (.int .i64 a0_0) := (Qb BK327.out 0).trans rfl
    have q27_1 : wr.cell? ⟨gb327, 1, none⟩ = some (.int .i64 a0_1) := (Qb BK327.out 1).trans rfl
    have q27_2 : wr.cell? ⟨gb327, 2, none⟩ = some (.int .i64 a0_2) := (Qb BK327.out 2).trans rfl
    have q27_3 : wr.cell? ⟨gb327, 3, none⟩ = some (.int .i64 a0_3) := (Qb BK327.out 3).trans rfl
    have q27_4 : wr.cell? ⟨gb327, 4, none⟩ = some (u328004) := (Qb BK327.out 4).trans rfl
    have u27_0 := Qc BK327.out 0
    have u27_1 := Qc BK327.out 1
    have u27_2 := Qc BK327.out 2
    have u27_3 := Qc BK327.out 3
    have u27_4 := Qc BK327.out 4
    have q28_0 : wr.cell? ⟨gb326, 0, none⟩ = some (.int .i64 0) := (Qb BK326.out 0).trans rfl
    have q28_1 : wr.cell? ⟨gb326, 1, none⟩ = some (.int .i64 0) := (Qb BK326.out 1).trans rfl
    have q28_2 : wr.cell? ⟨gb326, 2, none⟩ = some (.int .i64 0) := (Qb BK326.out 2).trans rfl
    have q28_3 : wr.cell? ⟨gb326, 3, none⟩ = some (.int .i64 0) := (Qb BK326.out 3).trans rfl
    have q28_4 : wr.cell? ⟨gb326, 4, none⟩ = some (.slice none 0 0) := (Qb BK326.out 4).trans rfl
    have u28_0 := Qc BK326.out 0
    have u28_1 := Qc BK326.out 1
    have u28_2 := Qc BK326.out 2
    have u28_3 := Qc BK326.out 3
    have u28_4 := Qc BK326.out 4
    obtain ⟨Ao29, co29, eo29⟩ := Kd.R_slice HO_328004.out
    subst eo29
    go_wp2
    refine bodyPost_ret (results_cell_row rfl _ _ gb326 32 #[.int .i64 a0_0, .int .i64 a0_1, .int .i64 a0_2, .int .i64 a0_3, .slice Ao29 x328004_1.length co29] (0, 0) _ rfl (by (with_reducible repeat (first | refine Qg ?_ _ | refine Qh ?_ | refine Qf ?_ _)); refine Qr (cs := #[.int .i64 a0_0, .int .i64 a0_1, .int .i64 a0_2, .int .i64 a0_3, .slice none 0 0]) ?_ 4 _ rfl; (with_reducible repeat (first | refine Qg ?_ _ | refine Qh ?_ | refine Qf ?_ _)); refine Qr (cs := #[.int .i64 a0_0, .int .i64 a0_1, .int .i64 a0_2, .int .i64 0, .slice none 0 0]) ?_ 3 _ rfl; (with_reducible repeat (first | refine Qg ?_ _ | refine Qh ?_ | refine Qf ?_ _)); refine Qr (cs := #[.int .i64 a0_0, .int .i64 a0_1, .int .i64 0, .int .i64 0, .slice none 0 0]) ?_ 2 _ rfl; (with_reducible repeat (first | refine Qg ?_ _ | refine Qh ?_ | refine Qf ?_ _)); refine Qr (cs := #[.int .i64 a0_0, .int .i64 0, .int .i64 0, .int .i64 0, .slice none 0 0]) ?_ 1 _ rfl; (with_reducible repeat (first | refine Qg ?_ _ | refine Qh ?_ | refine Qf ?_ _)); refine Qr (cs := #[.int .i64 0, .int .i64 0, .int .i64 0, .int .i64 0, .slice none 0 0]) ?_ 0 _ rfl; (with_reducible repeat (first | refine Qg ?_ _ | refine Qh ?_ | refine Qf ?_ _)); exact BK326.out) Try.underlying32 rfl (by kernel_rfl)) rfl ?_
    exact ⟨_, by first | rfl | (simp [errW_none, errW_some] <;> rfl) | (simp [*, errW_none, errW_some] <;> rfl), by (with_reducible repeat (first | apply Kd.R_alloc | apply Kd.R_drewN | apply Kd.R_drew)); exact Kd.R_mono (Kd.R_far (p := ⟨gb326, 4, none⟩) (Kd.R_far (p := ⟨gb326, 3, none⟩) (Kd.R_far (p := ⟨gb326, 2, none⟩) (Kd.R_far (p := ⟨gb326, 1, none⟩) (Kd.R_far (p := ⟨gb326, 0, none⟩) (Kd.R_mono HO_328004.out (fun k_ hk => (⟨hk, hk.2.1⟩ : _ ∧ k_ ≠ gb326))) (fun _ hk => hk.2) (.int .i64 a0_0)) (fun _ hk => hk.2) (.int .i64 a0_1)) (fun _ hk => hk.2) (.int .i64 a0_2)) (fun _ hk => hk.2) (.int .i64 a0_3)) (fun _ hk => hk.2) (.slice Ao29 x328004_1.length co29)) (fun _ hk => trivial), by repeat (first | (with_reducible first | exact HB.out | apply below_alloc | apply pw_below_drewN | apply below_drew1 | refine below_set ?_ GE325.out | refine below_set ?_ GE326.out | refine below_set ?_ GE327.out) | exact HB.out)⟩
end Go.Proofs.Ytoljagpjejpmpaa.PFnFormulas
