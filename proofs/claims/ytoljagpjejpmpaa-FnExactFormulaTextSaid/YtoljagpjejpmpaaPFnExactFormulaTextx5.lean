-- Laid by wip/tools/xprint.py (a program of this session over the kit's print). Not trusted: Lean checks it.
import Derived.Test.YtoljagpjejpmpaaPFnExactFormulaTextx0
import Derived.Test.YtoljagpjejpmpaaPFnExactFormulaTextx4
namespace Go.Proofs.Ytoljagpjejpmpaa.PFnExactFormulaText
open Go.RowKit Go.Proofs.YtoljagpjejpmpaaW.PrintWords Go.Proofs.YtoljagpjejpmpaaW.PrintLast Go.Proofs.YtoljagpjejpmpaaW.PrintMore
attribute [local go_sem] max2_int min2_int max_two min_two max_three min_three max_four min_four   -- for this text's walks alone
set_option linter.unusedVariables false
set_option linter.unusedSimpArgs false

/-! ### spec_l11Text: function 44 -/
mutual
def spec_l11Text.l0 : Nat → List ByteArray → List ByteArray → Int → Int → Int → Int → Int → List (S32) → Option (ByteArray)
  | 0, _, _, _, _, _, _, _, _ => none
  | k + 1, x0, x5, x6, x133000, x133001, x133002, x133003, x133004 => if x6 < (x133004.length : Int) then (if 0 ≤ x6 then ((spec_l11Text.f k x0 ((rd_T32 x133004 x6).f0) ((rd_T32 x133004 x6).f1) ((rd_T32 x133004 x6).f2) ((rd_T32 x133004 x6).f3) ((rd_T32 x133004 x6).f4)).bind fun t137 => (if x5.length < 8796093022208 then (spec_l11Text.l0 k x0 (x5 ++ [t137]) (wrap64 (x6 + 1)) x133000 x133001 x133002 x133003 x133004) else (none))) else (none)) else (if x133000 = 1 then (some (⟨#[116, 114, 117, 101]⟩ : ByteArray)) else (if x133000 = 2 then (if 0 ≤ x133001 then (if x133001 < (x0.length : Int) then (if 3 + (rdOf ByteArray.empty x0 x133001).size ≤ 9223372036854775807 then (if ((⟨#[111, 110, 32]⟩ : ByteArray) ++ (rdOf ByteArray.empty x0 x133001)).size + 1 ≤ 9223372036854775807 then ((spec_l11Logic.f x133002).bind fun t142 => (if (((⟨#[111, 110, 32]⟩ : ByteArray) ++ (rdOf ByteArray.empty x0 x133001)) ++ (⟨#[58]⟩ : ByteArray)).size + t142.size ≤ 9223372036854775807 then (some ((((⟨#[111, 110, 32]⟩ : ByteArray) ++ (rdOf ByteArray.empty x0 x133001)) ++ (⟨#[58]⟩ : ByteArray)) ++ t142)) else (none))) else (none)) else (none)) else (none)) else (none)) else (if x133000 = 3 then (if 0 ≤ x133001 then (if x133001 < (x0.length : Int) then (if 5 + (rdOf ByteArray.empty x0 x133001).size ≤ 9223372036854775807 then (if ((⟨#[102, 114, 111, 109, 32]⟩ : ByteArray) ++ (rdOf ByteArray.empty x0 x133001)).size + 1 ≤ 9223372036854775807 then ((spec_l11Logic.f x133002).bind fun t144 => (if (((⟨#[102, 114, 111, 109, 32]⟩ : ByteArray) ++ (rdOf ByteArray.empty x0 x133001)) ++ (⟨#[58]⟩ : ByteArray)).size + t144.size ≤ 9223372036854775807 then (some ((((⟨#[102, 114, 111, 109, 32]⟩ : ByteArray) ++ (rdOf ByteArray.empty x0 x133001)) ++ (⟨#[58]⟩ : ByteArray)) ++ t144)) else (none))) else (none)) else (none)) else (none)) else (none)) else (if x133000 = 4 then ((spec_l11Logic.f x133002).bind fun t145 => (if 7 + t145.size ≤ 9223372036854775807 then (some ((⟨#[115, 104, 97, 114, 101, 100, 58]⟩ : ByteArray) ++ t145)) else (none))) else (if x133000 = 5 then ((spec_l11Logic.f x133002).bind fun t146 => (if 5 + t146.size ≤ 9223372036854775807 then ((spec_l11Logic.f x133003).bind fun t147 => (if ((⟨#[110, 101, 120, 116, 58]⟩ : ByteArray) ++ t146).size + t147.size ≤ 9223372036854775807 then (some (((⟨#[110, 101, 120, 116, 58]⟩ : ByteArray) ++ t146) ++ t147)) else (none))) else (none))) else (if x133000 = 6 then ((spec_l11Logic.f x133002).bind fun t148 => (if 5 + t148.size ≤ 9223372036854775807 then ((spec_l11Logic.f x133003).bind fun t149 => (if ((⟨#[115, 97, 109, 101, 58]⟩ : ByteArray) ++ t148).size + t149.size ≤ 9223372036854775807 then (some (((⟨#[115, 97, 109, 101, 58]⟩ : ByteArray) ++ t148) ++ t149)) else (none))) else (none))) else (if x133000 = 7 then ((spec_l11Logic.f x133002).bind fun t150 => (if 5 + t150.size ≤ 9223372036854775807 then ((spec_l11Logic.f x133003).bind fun t151 => (if ((⟨#[112, 97, 116, 104, 58]⟩ : ByteArray) ++ t150).size + t151.size ≤ 9223372036854775807 then (some (((⟨#[112, 97, 116, 104, 58]⟩ : ByteArray) ++ t150) ++ t151)) else (none))) else (none))) else (if x133000 = 8 then (if 0 < (x5.length : Int) then (if 1 + (rdOf ByteArray.empty x5 0).size ≤ 9223372036854775807 then (some ((⟨#[33]⟩ : ByteArray) ++ (rdOf ByteArray.empty x5 0))) else (none)) else (none)) else (if x133000 = 9 then (if 0 < (x5.length : Int) then (if 1 + (rdOf ByteArray.empty x5 0).size ≤ 9223372036854775807 then (if ((⟨#[40]⟩ : ByteArray) ++ (rdOf ByteArray.empty x5 0)).size + 1 ≤ 9223372036854775807 then (if 1 < (x5.length : Int) then (if (((⟨#[40]⟩ : ByteArray) ++ (rdOf ByteArray.empty x5 0)) ++ (⟨#[38]⟩ : ByteArray)).size + (rdOf ByteArray.empty x5 1).size ≤ 9223372036854775807 then (if ((((⟨#[40]⟩ : ByteArray) ++ (rdOf ByteArray.empty x5 0)) ++ (⟨#[38]⟩ : ByteArray)) ++ (rdOf ByteArray.empty x5 1)).size + 1 ≤ 9223372036854775807 then (some (((((⟨#[40]⟩ : ByteArray) ++ (rdOf ByteArray.empty x5 0)) ++ (⟨#[38]⟩ : ByteArray)) ++ (rdOf ByteArray.empty x5 1)) ++ (⟨#[41]⟩ : ByteArray))) else (none)) else (none)) else (none)) else (none)) else (none)) else (none)) else (if x133000 = 10 then (if 0 < (x5.length : Int) then (if 1 + (rdOf ByteArray.empty x5 0).size ≤ 9223372036854775807 then (if ((⟨#[40]⟩ : ByteArray) ++ (rdOf ByteArray.empty x5 0)).size + 1 ≤ 9223372036854775807 then (if 1 < (x5.length : Int) then (if (((⟨#[40]⟩ : ByteArray) ++ (rdOf ByteArray.empty x5 0)) ++ (⟨#[124]⟩ : ByteArray)).size + (rdOf ByteArray.empty x5 1).size ≤ 9223372036854775807 then (if ((((⟨#[40]⟩ : ByteArray) ++ (rdOf ByteArray.empty x5 0)) ++ (⟨#[124]⟩ : ByteArray)) ++ (rdOf ByteArray.empty x5 1)).size + 1 ≤ 9223372036854775807 then (some (((((⟨#[40]⟩ : ByteArray) ++ (rdOf ByteArray.empty x5 0)) ++ (⟨#[124]⟩ : ByteArray)) ++ (rdOf ByteArray.empty x5 1)) ++ (⟨#[41]⟩ : ByteArray))) else (none)) else (none)) else (none)) else (none)) else (none)) else (none)) else (if x133000 = 11 then ((spec_l11Logic.f x133002).bind fun t157 => (if 5 + t157.size ≤ 9223372036854775807 then (if ((⟨#[115, 111, 109, 101, 32]⟩ : ByteArray) ++ t157).size + 1 ≤ 9223372036854775807 then (if 0 < (x5.length : Int) then (if (((⟨#[115, 111, 109, 101, 32]⟩ : ByteArray) ++ t157) ++ (⟨#[46]⟩ : ByteArray)).size + (rdOf ByteArray.empty x5 0).size ≤ 9223372036854775807 then (some ((((⟨#[115, 111, 109, 101, 32]⟩ : ByteArray) ++ t157) ++ (⟨#[46]⟩ : ByteArray)) ++ (rdOf ByteArray.empty x5 0))) else (none)) else (none)) else (none)) else (none))) else ((spec_l11Logic.f x133002).bind fun t159 => (if 4 + t159.size ≤ 9223372036854775807 then (if ((⟨#[97, 108, 108, 32]⟩ : ByteArray) ++ t159).size + 1 ≤ 9223372036854775807 then (if 0 < (x5.length : Int) then (if (((⟨#[97, 108, 108, 32]⟩ : ByteArray) ++ t159) ++ (⟨#[46]⟩ : ByteArray)).size + (rdOf ByteArray.empty x5 0).size ≤ 9223372036854775807 then (some ((((⟨#[97, 108, 108, 32]⟩ : ByteArray) ++ t159) ++ (⟨#[46]⟩ : ByteArray)) ++ (rdOf ByteArray.empty x5 0))) else (none)) else (none)) else (none)) else (none))))))))))))))
def spec_l11Text.f : Nat → List ByteArray → Int → Int → Int → Int → List (S32) → Option (ByteArray)
  | 0, _, _, _, _, _, _ => none
  | k + 1, l0, a1_0, a1_1, a1_2, a1_3, l1_4 => spec_l11Text.l0 k l0 (([] : List ByteArray)) 0 a1_0 a1_1 a1_2 a1_3 l1_4
end
theorem spec_l11Text.mono_l : ∀ k, (∀ y0 y1 y2 y3 y4 y5, LeO (spec_l11Text.f k y0 y1 y2 y3 y4 y5) (spec_l11Text.f (k + 1) y0 y1 y2 y3 y4 y5)) ∧ (∀ y0 y1 y2 y3 y4 y5 y6 y7, LeO (spec_l11Text.l0 k y0 y1 y2 y3 y4 y5 y6 y7) (spec_l11Text.l0 (k + 1) y0 y1 y2 y3 y4 y5 y6 y7))
  | 0 => ⟨fun _ _ _ _ _ _ r h => by simp [spec_l11Text.f] at h, fun _ _ _ _ _ _ _ _ r h => by simp [spec_l11Text.l0] at h⟩
  | k + 1 => by
    obtain ⟨ih0, ih1⟩ := spec_l11Text.mono_l k
    refine ⟨?_, ?_⟩
    · intro y0 y1 y2 y3 y4 y5
      unfold spec_l11Text.f
      repeat' first
      | (with_reducible exact ih0 _ _ _ _ _ _)
      | (with_reducible exact ih1 _ _ _ _ _ _ _ _)
      | (with_reducible exact LeO.refl _)
      | (with_reducible exact LeO.none _)
      | (with_reducible refine LeO.ite ?_ ?_)
      | (with_reducible refine LeO.bind ?_ (fun _ => ?_))
      | exact ih0 _ _ _ _ _ _
      | exact ih1 _ _ _ _ _ _ _ _
      | exact LeO.none _
      | refine LeO.ite ?_ ?_
      | refine LeO.bind ?_ (fun _ => ?_)
    · intro y0 y1 y2 y3 y4 y5 y6 y7
      unfold spec_l11Text.l0
      repeat' first
      | (with_reducible exact ih0 _ _ _ _ _ _)
      | (with_reducible exact ih1 _ _ _ _ _ _ _ _)
      | (with_reducible exact LeO.refl _)
      | (with_reducible exact LeO.none _)
      | (with_reducible refine LeO.ite ?_ ?_)
      | (with_reducible refine LeO.bind ?_ (fun _ => ?_))
      | exact ih0 _ _ _ _ _ _
      | exact ih1 _ _ _ _ _ _ _ _
      | exact LeO.none _
      | refine LeO.ite ?_ ?_
      | refine LeO.bind ?_ (fun _ => ?_)
theorem spec_l11Text.mono : ∀ a0 a1 a2 a3 a4 a5 k, LeO (spec_l11Text.f k a0 a1 a2 a3 a4 a5) (spec_l11Text.f (k + 1) a0 a1 a2 a3 a4 a5) := by
  intro a0 a1 a2 a3 a4 a5 k
  obtain ⟨ih0, ih1⟩ := spec_l11Text.mono_l k
  exact ih0 a0 a1 a2 a3 a4 a5
set_option maxHeartbeats 8000000 in
set_option maxRecDepth 100000 in
theorem spec_l11Text.calls (k : Nat) : ∀ (A0 : Option Addr) (c0 : Nat) (l0 : List ByteArray) (a1_0 : Int) (a1_1 : Int) (a1_2 : Int) (a1_3 : Int) (A1_4 : Option Addr) (c1_4 : Nat) (l1_4 : List (S32)) (r : ByteArray) (w : World) (hr0 : Kd.C Kd.string w A0 l0.length l0) (hc0 : l0.length ≤ c0) (hr1_4 : Kd.C k32 w A1_4 l1_4.length l1_4) (hc1_4 : l1_4.length ≤ c1_4) (h : spec_l11Text.f k l0 a1_0 a1_1 a1_2 a1_3 l1_4 = some r),
    Calls Try.prog 44 #[.slice A0 l0.length c0, .agg #[.int .i64 a1_0, .int .i64 a1_1, .int .i64 a1_2, .int .i64 a1_3, .slice A1_4 l1_4.length c1_4]] w fun e w' => e = .returned (.string r) ∧ Below w.heap.size w w' := by
  induction k using Nat.strongRecOn with
  | _ k ih =>
  intro A0 c0 l0 a1_0 a1_1 a1_2 a1_3 A1_4 c1_4 l1_4 r w hr0 hc0 hr1_4 hc1_4 h
  cases k with
  | zero => exact absurd h (by simp [spec_l11Text.f])
  | succ k =>
  simp only [spec_l11Text.f] at h
  have hu32 := Try.underlying32
  have HR0 := Aside0.mk hr0
  have HC0 := Aside0.mk hc0
  clear hr0 hc0
  have HR1_4 := Aside0.mk hr1_4
  have HC1_4 := Aside0.mk hc1_4
  clear hr1_4 hc1_4
  have HB := Aside0.mk (Below.refl w.heap.size w)
  have H : (spec_l11Text.l0 k l0 (([] : List ByteArray)) 0 a1_0 a1_1 a1_2 a1_3 l1_4) = some r := h
  clear h
  obtain ⟨y133, hy133⟩ : ∃ y_ : List ByteArray, y_ = (([] : List ByteArray)) := ⟨_, rfl⟩
  replace H : (spec_l11Text.l0 k l0 y133 0 a1_0 a1_1 a1_2 a1_3 l1_4) = some r := by first | (rw [hy133]; with_reducible exact H) | (have H2_ := (Option.bind_some _ _).symm.trans H; rw [hy133]; with_reducible exact H2_) | (have H2_ := (Option.bind_some _ _).symm.trans H; with_reducible exact H2_) | with_reducible exact H | (rw [hy133]; exact H) | exact H
  have Ny133 := Aside0.mk hy133
  clear hy133
  have H' := Aside0.mk H
  clear H
  go_enter Try.func44, Try.ntmps44
  go_wp2_with (first | ((with_reducible refine gate_dst (N := 3) rfl ?_); refine box_event ?hg (N := 3) ?hd (cs := #[.int .i64 a1_0, .int .i64 a1_1, .int .i64 a1_2, .int .i64 a1_3, .slice A1_4 l1_4.length c1_4]) (t := 32) ?hr ?_; (case hd => rfl); (case hg => rfl); (case hr => first | (go_simp; done) | (go_simp; rfl)); intro gb132 hg w3 hbox hb; have n0_ := Aside0.mk (below_step (by repeat (first | (with_reducible first | exact HB.out | apply below_alloc | apply pw_below_drewN | apply below_drew1) | exact HB.out)) hb); have n1_ := Aside0.mk (hbox); have n2_ := Aside0.mk ((by rw [hg]; exact (below_size (by repeat (first | (with_reducible first | exact HB.out | apply below_alloc | apply pw_below_drewN | apply below_drew1) | exact HB.out))) : w.heap.size ≤ gb132)); have n3_ := Aside0.mk ((by rw [hg]; exact (below_size (by repeat (first | (with_reducible first | exact HB.out | apply below_alloc | apply pw_below_drewN | apply below_drew1) | exact HB.out))) : w.heap.size ≤ gb132)); clear HB; have HB := n0_; have BK132 := n1_; have GW132 := n2_; have GE132 := n3_; clear n0_ n1_ n2_ n3_; clear hb hbox hg) | ((with_reducible refine gate_dst (N := 7) rfl ?_); refine Kd.R_lit Kd.string _ 9 ?hg (N := 7) ?hd (xs := ([] : List ByteArray)) (inner := []) (ok := fun _ => True) (okp := fun _ => True) ?hr ?hp (fun _ hk => hk) trivial (Below.refl _ _) (Nat.le_refl _) (by simp) ?_; (case hd => rfl); (case hg => rfl); (case hr => first | (go_simp; done) | (go_simp; rfl)); (case hp => exact (Reps.none _ _)); intro v134 w4 ho5 hb hg_ hnew_; clear hg_ hnew_; (first | rw [← Ny133.out] at ho5 | (simp only [Int.reduceToNat] at ho5; rw [← Ny133.out] at ho5)); have n0_ := Aside0.mk (Kd.R_lower ho5 (below_size (by repeat (first | (with_reducible first | exact HB.out | apply below_alloc | apply pw_below_drewN | apply below_drew1 | refine below_set ?_ GE132.out) | exact HB.out)))); have n1_ := Aside0.mk (blk_below (g := gb132) (o := .cells #[.int .i64 a1_0, .int .i64 a1_1, .int .i64 a1_2, .int .i64 a1_3, .slice A1_4 l1_4.length c1_4] 32 (0, 0)) (by (with_reducible repeat (first | refine blk_drewN ?_ _ | refine blk_drew ?_ | refine blk_alloc ?_ _)); exact BK132.out) hb); have n2_ := Aside0.mk (below_step (by repeat (first | (with_reducible first | exact HB.out | apply below_alloc | apply pw_below_drewN | apply below_drew1 | refine below_set ?_ GE132.out) | exact HB.out)) hb); clear BK132; clear HB; have HO135 := n0_; have BK132 := n1_; have HB := n2_; clear n0_ n1_ n2_; clear hb ho5))
  repeat (go_quiet (first | ((with_reducible refine gate_dst (N := 3) rfl ?_); refine box_event ?hg (N := 3) ?hd (cs := #[.int .i64 a1_0, .int .i64 a1_1, .int .i64 a1_2, .int .i64 a1_3, .slice A1_4 l1_4.length c1_4]) (t := 32) ?hr ?_; (case hd => rfl); (case hg => rfl); (case hr => first | (go_simp; done) | (go_simp; rfl)); intro gb132 hg w3 hbox hb; have n0_ := Aside0.mk (below_step (by repeat (first | (with_reducible first | exact HB.out | apply below_alloc | apply pw_below_drewN | apply below_drew1) | exact HB.out)) hb); have n1_ := Aside0.mk (hbox); have n2_ := Aside0.mk ((by rw [hg]; exact (below_size (by repeat (first | (with_reducible first | exact HB.out | apply below_alloc | apply pw_below_drewN | apply below_drew1) | exact HB.out))) : w.heap.size ≤ gb132)); have n3_ := Aside0.mk ((by rw [hg]; exact (below_size (by repeat (first | (with_reducible first | exact HB.out | apply below_alloc | apply pw_below_drewN | apply below_drew1) | exact HB.out))) : w.heap.size ≤ gb132)); clear HB; have HB := n0_; have BK132 := n1_; have GW132 := n2_; have GE132 := n3_; clear n0_ n1_ n2_ n3_; clear hb hbox hg) | ((with_reducible refine gate_dst (N := 7) rfl ?_); refine Kd.R_lit Kd.string _ 9 ?hg (N := 7) ?hd (xs := ([] : List ByteArray)) (inner := []) (ok := fun _ => True) (okp := fun _ => True) ?hr ?hp (fun _ hk => hk) trivial (Below.refl _ _) (Nat.le_refl _) (by simp) ?_; (case hd => rfl); (case hg => rfl); (case hr => first | (go_simp; done) | (go_simp; rfl)); (case hp => exact (Reps.none _ _)); intro v134 w4 ho5 hb hg_ hnew_; clear hg_ hnew_; (first | rw [← Ny133.out] at ho5 | (simp only [Int.reduceToNat] at ho5; rw [← Ny133.out] at ho5)); have n0_ := Aside0.mk (Kd.R_lower ho5 (below_size (by repeat (first | (with_reducible first | exact HB.out | apply below_alloc | apply pw_below_drewN | apply below_drew1 | refine below_set ?_ GE132.out) | exact HB.out)))); have n1_ := Aside0.mk (blk_below (g := gb132) (o := .cells #[.int .i64 a1_0, .int .i64 a1_1, .int .i64 a1_2, .int .i64 a1_3, .slice A1_4 l1_4.length c1_4] 32 (0, 0)) (by (with_reducible repeat (first | refine blk_drewN ?_ _ | refine blk_drew ?_ | refine blk_alloc ?_ _)); exact BK132.out) hb); have n2_ := Aside0.mk (below_step (by repeat (first | (with_reducible first | exact HB.out | apply below_alloc | apply pw_below_drewN | apply below_drew1 | refine below_set ?_ GE132.out) | exact HB.out)) hb); clear BK132; clear HB; have HO135 := n0_; have BK132 := n1_; have HB := n2_; clear n0_ n1_ n2_; clear hb ho5)); try go_wp2_with (first | ((with_reducible refine gate_dst (N := 3) rfl ?_); refine box_event ?hg (N := 3) ?hd (cs := #[.int .i64 a1_0, .int .i64 a1_1, .int .i64 a1_2, .int .i64 a1_3, .slice A1_4 l1_4.length c1_4]) (t := 32) ?hr ?_; (case hd => rfl); (case hg => rfl); (case hr => first | (go_simp; done) | (go_simp; rfl)); intro gb132 hg w3 hbox hb; have n0_ := Aside0.mk (below_step (by repeat (first | (with_reducible first | exact HB.out | apply below_alloc | apply pw_below_drewN | apply below_drew1) | exact HB.out)) hb); have n1_ := Aside0.mk (hbox); have n2_ := Aside0.mk ((by rw [hg]; exact (below_size (by repeat (first | (with_reducible first | exact HB.out | apply below_alloc | apply pw_below_drewN | apply below_drew1) | exact HB.out))) : w.heap.size ≤ gb132)); have n3_ := Aside0.mk ((by rw [hg]; exact (below_size (by repeat (first | (with_reducible first | exact HB.out | apply below_alloc | apply pw_below_drewN | apply below_drew1) | exact HB.out))) : w.heap.size ≤ gb132)); clear HB; have HB := n0_; have BK132 := n1_; have GW132 := n2_; have GE132 := n3_; clear n0_ n1_ n2_ n3_; clear hb hbox hg) | ((with_reducible refine gate_dst (N := 7) rfl ?_); refine Kd.R_lit Kd.string _ 9 ?hg (N := 7) ?hd (xs := ([] : List ByteArray)) (inner := []) (ok := fun _ => True) (okp := fun _ => True) ?hr ?hp (fun _ hk => hk) trivial (Below.refl _ _) (Nat.le_refl _) (by simp) ?_; (case hd => rfl); (case hg => rfl); (case hr => first | (go_simp; done) | (go_simp; rfl)); (case hp => exact (Reps.none _ _)); intro v134 w4 ho5 hb hg_ hnew_; clear hg_ hnew_; (first | rw [← Ny133.out] at ho5 | (simp only [Int.reduceToNat] at ho5; rw [← Ny133.out] at ho5)); have n0_ := Aside0.mk (Kd.R_lower ho5 (below_size (by repeat (first | (with_reducible first | exact HB.out | apply below_alloc | apply pw_below_drewN | apply below_drew1 | refine below_set ?_ GE132.out) | exact HB.out)))); have n1_ := Aside0.mk (blk_below (g := gb132) (o := .cells #[.int .i64 a1_0, .int .i64 a1_1, .int .i64 a1_2, .int .i64 a1_3, .slice A1_4 l1_4.length c1_4] 32 (0, 0)) (by (with_reducible repeat (first | refine blk_drewN ?_ _ | refine blk_drew ?_ | refine blk_alloc ?_ _)); exact BK132.out) hb); have n2_ := Aside0.mk (below_step (by repeat (first | (with_reducible first | exact HB.out | apply below_alloc | apply pw_below_drewN | apply below_drew1 | refine below_set ?_ GE132.out) | exact HB.out)) hb); clear BK132; clear HB; have HO135 := n0_; have BK132 := n1_; have HB := n2_; clear n0_ n1_ n2_; clear hb ho5)))
  go_loopg [5, 6] k (fun kq v5 v6 w' => ∃ (x5_1 : List ByteArray) (x6_1 : Int), v6 = .int .i64 x6_1 ∧ Aside0 (spec_l11Text.l0 kq l0 x5_1 x6_1 a1_0 a1_1 a1_2 a1_3 l1_4 = some r) ∧ Aside0 (kq ≤ k) ∧ Aside0 (Kd.R Kd.string 9 w' w.heap.size (fun _ => True) v5 x5_1) ∧ Aside0 (w'.heap[gb132]? = some (.cells #[.int .i64 a1_0, .int .i64 a1_1, .int .i64 a1_2, .int .i64 a1_3, (.slice A1_4 l1_4.length c1_4)] 32 (0, 0))) ∧ Aside0 (Below w.heap.size w w'))
  case atStart => exact ⟨(y133), (0), (by first | rfl | (simp; done) | (simp [*]; done) | (simp; rw [Bool.eq_iff_iff]; simp; done)), H', ⟨Nat.le_refl _⟩, ⟨by (with_reducible repeat (first | apply Kd.R_alloc | apply Kd.R_drewN | apply Kd.R_drew)); exact HO135.out⟩, ⟨by (with_reducible repeat (first | refine blk_drewN ?_ _ | refine blk_drew ?_ | refine blk_alloc ?_ _)); exact BK132.out⟩, ⟨by repeat (first | (with_reducible first | exact HB.out | apply below_alloc | apply pw_below_drewN | apply below_drew1 | refine below_set ?_ GE132.out) | exact HB.out)⟩⟩
  case round =>
    clear H'
    try clear c1
    try clear p2
    try clear c4
    obtain ⟨x5_1, x6_1, rfl, HA, HK1, HO_5, BK132, HB⟩ := hrel
    cases gk with
    | zero => exact absurd HA.out (by simp [spec_l11Text.l0])
    | succ k1 =>
      have H := HA.out
      clear HA
      simp only [spec_l11Text.l0] at H
      by_cases c6 : x6_1 < (l1_4.length : Int)
      · rw [if_pos c6] at H
        have c6b0 : decide (x6_1 < (l1_4.length : Int)) = true := decide_eq_true c6
        clear c6
        by_cases c7 : 0 ≤ x6_1
        · rw [if_pos c7] at H
          have c7b0 : decide (0 ≤ x6_1) = true := decide_eq_true c7
          clear c7
          replace H := Option.bind_eq_some_iff.mp H
          obtain ⟨t137, A80, H⟩ := H
          replace H : (if x5_1.length < 8796093022208 then (spec_l11Text.l0 k1 l0 (x5_1 ++ [t137]) (wrap64 (x6_1 + 1)) a1_0 a1_1 a1_2 a1_3 l1_4) else (none)) = some r := H
          have A8 := Aside0.mk A80
          clear A80
          by_cases c9 : x5_1.length < 8796093022208
          · rw [if_pos c9] at H
            have LMc9 := Aside0.mk c9
            clear c9
            obtain ⟨y138, hy138⟩ : ∃ y_ : List ByteArray, y_ = (x5_1 ++ [t137]) := ⟨_, rfl⟩
            replace H : (spec_l11Text.l0 k1 l0 y138 (wrap64 (x6_1 + 1)) a1_0 a1_1 a1_2 a1_3 l1_4) = some r := by first | (rw [hy138]; with_reducible exact H) | (have H2_ := (Option.bind_some _ _).symm.trans H; rw [hy138]; with_reducible exact H2_) | (have H2_ := (Option.bind_some _ _).symm.trans H; with_reducible exact H2_) | with_reducible exact H | (rw [hy138]; exact H) | exact H
            have Ny138 := Aside0.mk hy138
            clear hy138
            have H' := Aside0.mk H
            clear H
            have hcz10_0 : wr.cell? ⟨gb132, 0, none⟩ = some (.int .i64 a1_0) := (blk_cell BK132.out 0).trans rfl
            have hcz10_1 : wr.cell? ⟨gb132, 1, none⟩ = some (.int .i64 a1_1) := (blk_cell BK132.out 1).trans rfl
            have hcz10_2 : wr.cell? ⟨gb132, 2, none⟩ = some (.int .i64 a1_2) := (blk_cell BK132.out 2).trans rfl
            have hcz10_3 : wr.cell? ⟨gb132, 3, none⟩ = some (.int .i64 a1_3) := (blk_cell BK132.out 3).trans rfl
            have hcz10_4 : wr.cell? ⟨gb132, 4, none⟩ = some (.slice A1_4 l1_4.length c1_4) := (blk_cell BK132.out 4).trans rfl
            have hfz10_0 := blk_frozen BK132.out 0
            have hfz10_1 := blk_frozen BK132.out 1
            have hfz10_2 := blk_frozen BK132.out 2
            have hfz10_3 := blk_frozen BK132.out 3
            have hfz10_4 := blk_frozen BK132.out 4
            have p136 : 0 ≤ (x6_1 : Int) := of_decide_eq_true (by first | (with_reducible assumption) | assumption)
            have q136 : x6_1 < (l1_4.length : Int) := of_decide_eq_true (by first | (with_reducible assumption) | assumption)
            obtain ⟨ad136, A136_4, c136_4, e136, hx136_0, hx136_1, hx136_2, hx136_3, hx136_4, hl136_4, hi136_4⟩ := at_T32 HR1_4.out x6_1 p136 q136
            cases e136
            replace hx136_0 := (HB.out.cell (World.block_lt_of_cell? w _ hx136_0)).trans hx136_0
            replace hx136_1 := (HB.out.cell (World.block_lt_of_cell? w _ hx136_1)).trans hx136_1
            replace hx136_2 := (HB.out.cell (World.block_lt_of_cell? w _ hx136_2)).trans hx136_2
            replace hx136_3 := (HB.out.cell (World.block_lt_of_cell? w _ hx136_3)).trans hx136_3
            replace hx136_4 := (HB.out.cell (World.block_lt_of_cell? w _ hx136_4)).trans hx136_4
            have HR136_4 := Aside0.mk hi136_4
            have HC136_4 := Aside0.mk hl136_4
            clear hi136_4 hl136_4
            replace p136 := eq_true p136
            replace q136 := eq_true q136
            go_wp2_with (first | (go_at_call 44; (with_reducible refine (ih k1 (by have := HK1.out; omega) _ _ l0 ((rd_T32 l1_4 x6_1).f0) ((rd_T32 l1_4 x6_1).f1) ((rd_T32 l1_4 x6_1).f2) ((rd_T32 l1_4 x6_1).f3) _ _ ((rd_T32 l1_4 x6_1).f4) t137 _ ?side1 ?side2 ?side3 ?side4 A8.out).mono ?_); (case side1 => repeat (first | exact (Kd.C_below HR0.out HB.out) | (with_reducible refine Kd.C_alloc ?_ _) | (with_reducible refine Kd.C_drewN ?_ _) | (with_reducible refine Kd.C_drew ?_))); (case side2 => exact HC0.out); (case side3 => repeat (first | exact (Kd.C_below HR136_4.out HB.out) | (with_reducible refine Kd.C_alloc ?_ _) | (with_reducible refine Kd.C_drewN ?_ _) | (with_reducible refine Kd.C_drew ?_))); (case side4 => exact HC136_4.out); rintro e w11 ⟨rfl, hb⟩; have n0_ := Aside0.mk (Kd.R_below (by (with_reducible repeat (first | apply Kd.R_alloc | apply Kd.R_drewN | apply Kd.R_drew)); exact HO_5.out) hb); have n1_ := Aside0.mk (blk_below (g := gb132) (o := .cells #[.int .i64 a1_0, .int .i64 a1_1, .int .i64 a1_2, .int .i64 a1_3, .slice (some ad136) l1_4.length c1_4] 32 (0, 0)) (by (with_reducible repeat (first | refine blk_drewN ?_ _ | refine blk_drew ?_ | refine blk_alloc ?_ _)); exact BK132.out) hb); have n2_ := Aside0.mk (below_step (by repeat (first | (with_reducible first | exact HB.out | apply below_alloc | apply pw_below_drewN | apply below_drew1 | refine below_set ?_ GE132.out) | exact HB.out)) hb); clear HO_5; clear BK132; clear HB; have HO_5 := n0_; have BK132 := n1_; have HB := n2_; clear n0_ n1_ n2_; (try clear hb); (try clear hb2); (try clear hk); (try clear hi)) | ((with_reducible refine gate_builtin (b := .append) (xs := #[.tmp 15, .tmp 23]) rfl ?_); at_builtin; refine Kd.R_append Kd.string (w0 := w) w.heap.size rfl (.tmp 15) (.tmp 23) 22 9 (.string ⟨#[]⟩) 16 rfl Try.underlying22 info9 rfl (by decide) (by omega) u5 x5_1 t137 [.string t137] (fun _ => True) (fun _ => False) rfl rfl ?aP (fun _ hk => hk.elim) ?aF ?aO ?aB ?aS ?aL ?_; (case aP => exact rfl); (case aB => exact (by repeat (first | (with_reducible first | exact HB.out | apply below_alloc | apply pw_below_drewN | apply below_drew1 | refine below_set ?_ GE132.out) | exact HB.out))); (case aF => exact (fun _ _ => trivial)); (case aO => exact (by (with_reducible repeat (first | apply Kd.R_alloc | apply Kd.R_drewN | apply Kd.R_drew)); exact HO_5.out)); (case aS => exact (below_size (by repeat (first | (with_reducible first | exact HB.out | apply below_alloc | apply pw_below_drewN | apply below_drew1 | refine below_set ?_ GE132.out) | exact HB.out)))); (case aL => have := LMc9.out; omega); intro v139 w12 ho hb hg hat; rw [← Ny138.out] at ho; have n0_ := Aside0.mk (blk_grown (g := gb132) (o := .cells #[.int .i64 a1_0, .int .i64 a1_1, .int .i64 a1_2, .int .i64 a1_3, .slice (some ad136) l1_4.length c1_4] 32 (0, 0)) (by (with_reducible repeat (first | refine blk_drewN ?_ _ | refine blk_drew ?_ | refine blk_alloc ?_ _)); exact BK132.out) hg (Kd.R_ne HO_5.out BK132.out (by decide))); have n1_ := Aside0.mk (hb); have n2_ := Aside0.mk (ho); clear BK132; clear HB; clear HO_5; have BK132 := n0_; have HB := n1_; have HO140 := n2_; clear n0_ n1_ n2_; clear ho hb hg hat))
            repeat (go_quiet (first | (go_at_call 44; (with_reducible refine (ih k1 (by have := HK1.out; omega) _ _ l0 ((rd_T32 l1_4 x6_1).f0) ((rd_T32 l1_4 x6_1).f1) ((rd_T32 l1_4 x6_1).f2) ((rd_T32 l1_4 x6_1).f3) _ _ ((rd_T32 l1_4 x6_1).f4) t137 _ ?side1 ?side2 ?side3 ?side4 A8.out).mono ?_); (case side1 => repeat (first | exact (Kd.C_below HR0.out HB.out) | (with_reducible refine Kd.C_alloc ?_ _) | (with_reducible refine Kd.C_drewN ?_ _) | (with_reducible refine Kd.C_drew ?_))); (case side2 => exact HC0.out); (case side3 => repeat (first | exact (Kd.C_below HR136_4.out HB.out) | (with_reducible refine Kd.C_alloc ?_ _) | (with_reducible refine Kd.C_drewN ?_ _) | (with_reducible refine Kd.C_drew ?_))); (case side4 => exact HC136_4.out); rintro e w11 ⟨rfl, hb⟩; have n0_ := Aside0.mk (Kd.R_below (by (with_reducible repeat (first | apply Kd.R_alloc | apply Kd.R_drewN | apply Kd.R_drew)); exact HO_5.out) hb); have n1_ := Aside0.mk (blk_below (g := gb132) (o := .cells #[.int .i64 a1_0, .int .i64 a1_1, .int .i64 a1_2, .int .i64 a1_3, .slice (some ad136) l1_4.length c1_4] 32 (0, 0)) (by (with_reducible repeat (first | refine blk_drewN ?_ _ | refine blk_drew ?_ | refine blk_alloc ?_ _)); exact BK132.out) hb); have n2_ := Aside0.mk (below_step (by repeat (first | (with_reducible first | exact HB.out | apply below_alloc | apply pw_below_drewN | apply below_drew1 | refine below_set ?_ GE132.out) | exact HB.out)) hb); clear HO_5; clear BK132; clear HB; have HO_5 := n0_; have BK132 := n1_; have HB := n2_; clear n0_ n1_ n2_; (try clear hb); (try clear hb2); (try clear hk); (try clear hi)) | ((with_reducible refine gate_builtin (b := .append) (xs := #[.tmp 15, .tmp 23]) rfl ?_); at_builtin; refine Kd.R_append Kd.string (w0 := w) w.heap.size rfl (.tmp 15) (.tmp 23) 22 9 (.string ⟨#[]⟩) 16 rfl Try.underlying22 info9 rfl (by decide) (by omega) u5 x5_1 t137 [.string t137] (fun _ => True) (fun _ => False) rfl rfl ?aP (fun _ hk => hk.elim) ?aF ?aO ?aB ?aS ?aL ?_; (case aP => exact rfl); (case aB => exact (by repeat (first | (with_reducible first | exact HB.out | apply below_alloc | apply pw_below_drewN | apply below_drew1 | refine below_set ?_ GE132.out) | exact HB.out))); (case aF => exact (fun _ _ => trivial)); (case aO => exact (by (with_reducible repeat (first | apply Kd.R_alloc | apply Kd.R_drewN | apply Kd.R_drew)); exact HO_5.out)); (case aS => exact (below_size (by repeat (first | (with_reducible first | exact HB.out | apply below_alloc | apply pw_below_drewN | apply below_drew1 | refine below_set ?_ GE132.out) | exact HB.out)))); (case aL => have := LMc9.out; omega); intro v139 w12 ho hb hg hat; rw [← Ny138.out] at ho; have n0_ := Aside0.mk (blk_grown (g := gb132) (o := .cells #[.int .i64 a1_0, .int .i64 a1_1, .int .i64 a1_2, .int .i64 a1_3, .slice (some ad136) l1_4.length c1_4] 32 (0, 0)) (by (with_reducible repeat (first | refine blk_drewN ?_ _ | refine blk_drew ?_ | refine blk_alloc ?_ _)); exact BK132.out) hg (Kd.R_ne HO_5.out BK132.out (by decide))); have n1_ := Aside0.mk (hb); have n2_ := Aside0.mk (ho); clear BK132; clear HB; clear HO_5; have BK132 := n0_; have HB := n1_; have HO140 := n2_; clear n0_ n1_ n2_; clear ho hb hg hat)); try go_wp2_with (first | (go_at_call 44; (with_reducible refine (ih k1 (by have := HK1.out; omega) _ _ l0 ((rd_T32 l1_4 x6_1).f0) ((rd_T32 l1_4 x6_1).f1) ((rd_T32 l1_4 x6_1).f2) ((rd_T32 l1_4 x6_1).f3) _ _ ((rd_T32 l1_4 x6_1).f4) t137 _ ?side1 ?side2 ?side3 ?side4 A8.out).mono ?_); (case side1 => repeat (first | exact (Kd.C_below HR0.out HB.out) | (with_reducible refine Kd.C_alloc ?_ _) | (with_reducible refine Kd.C_drewN ?_ _) | (with_reducible refine Kd.C_drew ?_))); (case side2 => exact HC0.out); (case side3 => repeat (first | exact (Kd.C_below HR136_4.out HB.out) | (with_reducible refine Kd.C_alloc ?_ _) | (with_reducible refine Kd.C_drewN ?_ _) | (with_reducible refine Kd.C_drew ?_))); (case side4 => exact HC136_4.out); rintro e w11 ⟨rfl, hb⟩; have n0_ := Aside0.mk (Kd.R_below (by (with_reducible repeat (first | apply Kd.R_alloc | apply Kd.R_drewN | apply Kd.R_drew)); exact HO_5.out) hb); have n1_ := Aside0.mk (blk_below (g := gb132) (o := .cells #[.int .i64 a1_0, .int .i64 a1_1, .int .i64 a1_2, .int .i64 a1_3, .slice (some ad136) l1_4.length c1_4] 32 (0, 0)) (by (with_reducible repeat (first | refine blk_drewN ?_ _ | refine blk_drew ?_ | refine blk_alloc ?_ _)); exact BK132.out) hb); have n2_ := Aside0.mk (below_step (by repeat (first | (with_reducible first | exact HB.out | apply below_alloc | apply pw_below_drewN | apply below_drew1 | refine below_set ?_ GE132.out) | exact HB.out)) hb); clear HO_5; clear BK132; clear HB; have HO_5 := n0_; have BK132 := n1_; have HB := n2_; clear n0_ n1_ n2_; (try clear hb); (try clear hb2); (try clear hk); (try clear hi)) | ((with_reducible refine gate_builtin (b := .append) (xs := #[.tmp 15, .tmp 23]) rfl ?_); at_builtin; refine Kd.R_append Kd.string (w0 := w) w.heap.size rfl (.tmp 15) (.tmp 23) 22 9 (.string ⟨#[]⟩) 16 rfl Try.underlying22 info9 rfl (by decide) (by omega) u5 x5_1 t137 [.string t137] (fun _ => True) (fun _ => False) rfl rfl ?aP (fun _ hk => hk.elim) ?aF ?aO ?aB ?aS ?aL ?_; (case aP => exact rfl); (case aB => exact (by repeat (first | (with_reducible first | exact HB.out | apply below_alloc | apply pw_below_drewN | apply below_drew1 | refine below_set ?_ GE132.out) | exact HB.out))); (case aF => exact (fun _ _ => trivial)); (case aO => exact (by (with_reducible repeat (first | apply Kd.R_alloc | apply Kd.R_drewN | apply Kd.R_drew)); exact HO_5.out)); (case aS => exact (below_size (by repeat (first | (with_reducible first | exact HB.out | apply below_alloc | apply pw_below_drewN | apply below_drew1 | refine below_set ?_ GE132.out) | exact HB.out)))); (case aL => have := LMc9.out; omega); intro v139 w12 ho hb hg hat; rw [← Ny138.out] at ho; have n0_ := Aside0.mk (blk_grown (g := gb132) (o := .cells #[.int .i64 a1_0, .int .i64 a1_1, .int .i64 a1_2, .int .i64 a1_3, .slice (some ad136) l1_4.length c1_4] 32 (0, 0)) (by (with_reducible repeat (first | refine blk_drewN ?_ _ | refine blk_drew ?_ | refine blk_alloc ?_ _)); exact BK132.out) hg (Kd.R_ne HO_5.out BK132.out (by decide))); have n1_ := Aside0.mk (hb); have n2_ := Aside0.mk (ho); clear BK132; clear HB; clear HO_5; have BK132 := n0_; have HB := n1_; have HO140 := n2_; clear n0_ n1_ n2_; clear ho hb hg hat)))
            go_roundg k1
            case measure => have := HK1.out; omega
            case rel => exact ⟨(y138), (wrap64 (x6_1 + 1)), (by first | rfl | (simp; done) | (simp [*]; done) | (simp; rw [Bool.eq_iff_iff]; simp; done)), H', ⟨by have := HK1.out; omega⟩, ⟨by (with_reducible repeat (first | apply Kd.R_alloc | apply Kd.R_drewN | apply Kd.R_drew)); exact HO140.out⟩, ⟨by (with_reducible repeat (first | refine blk_drewN ?_ _ | refine blk_drew ?_ | refine blk_alloc ?_ _)); exact BK132.out⟩, ⟨by repeat (first | (with_reducible first | exact HB.out | apply below_alloc | apply pw_below_drewN | apply below_drew1 | refine below_set ?_ GE132.out) | exact HB.out)⟩⟩
          · rw [if_neg c9] at H
            exact absurd H (by simp)
        · rw [if_neg c7] at H
          exact absurd H (by simp)
      · rw [if_neg c6] at H
        have c6b0 : decide (x6_1 < (l1_4.length : Int)) = false := decide_eq_false c6
        clear c6
        by_cases c13 : a1_0 = 1
        · rw [if_pos c13] at H
          have c13b0 : (a1_0 == 1) = true := beq_iff_eq.mpr c13
          have c13b1 : (a1_0 != 1) = false := bne_eq_false_iff_eq.mpr c13
          clear c13
          obtain rfl := Option.some.inj H
          have hcz14_0 : wr.cell? ⟨gb132, 0, none⟩ = some (.int .i64 a1_0) := (blk_cell BK132.out 0).trans rfl
          have hcz14_1 : wr.cell? ⟨gb132, 1, none⟩ = some (.int .i64 a1_1) := (blk_cell BK132.out 1).trans rfl
          have hcz14_2 : wr.cell? ⟨gb132, 2, none⟩ = some (.int .i64 a1_2) := (blk_cell BK132.out 2).trans rfl
          have hcz14_3 : wr.cell? ⟨gb132, 3, none⟩ = some (.int .i64 a1_3) := (blk_cell BK132.out 3).trans rfl
          have hcz14_4 : wr.cell? ⟨gb132, 4, none⟩ = some (.slice A1_4 l1_4.length c1_4) := (blk_cell BK132.out 4).trans rfl
          have hfz14_0 := blk_frozen BK132.out 0
          have hfz14_1 := blk_frozen BK132.out 1
          have hfz14_2 := blk_frozen BK132.out 2
          have hfz14_3 := blk_frozen BK132.out 3
          have hfz14_4 := blk_frozen BK132.out 4
          go_wp2
          repeat (go_quiet (fail); try go_wp2)
          go_ret
          exact ⟨by first | rfl | (simp [errW_none, errW_some] <;> rfl) | (simp [*, errW_none, errW_some] <;> rfl), by repeat (first | (with_reducible first | exact HB.out | apply below_alloc | apply pw_below_drewN | apply below_drew1 | refine below_set ?_ GE132.out) | exact HB.out)⟩
        · rw [if_neg c13] at H
          have c13b0 : (a1_0 == 1) = false := beq_eq_false_iff_ne.mpr c13
          have c13b1 : (a1_0 != 1) = true := bne_iff_ne.mpr c13
          by_cases c15 : a1_0 = 2
          · rw [if_pos c15] at H
            have c15b0 : (a1_0 == 2) = true := beq_iff_eq.mpr c15
            have c15b1 : (a1_0 != 2) = false := bne_eq_false_iff_eq.mpr c15
            clear c15
            by_cases c16 : 0 ≤ a1_1
            · rw [if_pos c16] at H
              have c16b0 : decide (0 ≤ a1_1) = true := decide_eq_true c16
              clear c16
              by_cases c17 : a1_1 < (l0.length : Int)
              · rw [if_pos c17] at H
                have c17b0 : decide (a1_1 < (l0.length : Int)) = true := decide_eq_true c17
                clear c17
                by_cases c18 : 3 + (rdOf ByteArray.empty l0 a1_1).size ≤ 9223372036854775807
                · rw [if_pos c18] at H
                  have c18b0 := eq_true c18
                  have c18b1 : decide (3 + (rdOf ByteArray.empty l0 a1_1).size ≤ 9223372036854775807) = true := decide_eq_true c18
                  try have c18b2 : (9223372036854775807 < 3 + (rdOf ByteArray.empty l0 a1_1).size) = False := eq_false (Nat.not_lt.2 c18)
                  by_cases c19 : ((⟨#[111, 110, 32]⟩ : ByteArray) ++ (rdOf ByteArray.empty l0 a1_1)).size + 1 ≤ 9223372036854775807
                  · rw [if_pos c19] at H
                    have c19b0 := eq_true c19
                    have c19b1 : decide (((⟨#[111, 110, 32]⟩ : ByteArray) ++ (rdOf ByteArray.empty l0 a1_1)).size + 1 ≤ 9223372036854775807) = true := decide_eq_true c19
                    try have c19b2 : (9223372036854775807 < ((⟨#[111, 110, 32]⟩ : ByteArray) ++ (rdOf ByteArray.empty l0 a1_1)).size + 1) = False := eq_false (Nat.not_lt.2 c19)
                    try have c19s : (9223372036854775807 < 3 + (rdOf ByteArray.empty l0 a1_1).size + 1) = False := by have h := c19b2; simp only [ByteArray.size_append] at h; exact h
                    replace H := Option.bind_eq_some_iff.mp H
                    obtain ⟨t142, A200, H⟩ := H
                    replace H : (if (((⟨#[111, 110, 32]⟩ : ByteArray) ++ (rdOf ByteArray.empty l0 a1_1)) ++ (⟨#[58]⟩ : ByteArray)).size + t142.size ≤ 9223372036854775807 then (some ((((⟨#[111, 110, 32]⟩ : ByteArray) ++ (rdOf ByteArray.empty l0 a1_1)) ++ (⟨#[58]⟩ : ByteArray)) ++ t142)) else (none)) = some r := H
                    have A20 := Aside0.mk A200
                    clear A200
                    by_cases c21 : (((⟨#[111, 110, 32]⟩ : ByteArray) ++ (rdOf ByteArray.empty l0 a1_1)) ++ (⟨#[58]⟩ : ByteArray)).size + t142.size ≤ 9223372036854775807
                    · rw [if_pos c21] at H
                      have c21b0 := eq_true c21
                      have c21b1 : decide ((((⟨#[111, 110, 32]⟩ : ByteArray) ++ (rdOf ByteArray.empty l0 a1_1)) ++ (⟨#[58]⟩ : ByteArray)).size + t142.size ≤ 9223372036854775807) = true := decide_eq_true c21
                      try have c21b2 : (9223372036854775807 < (((⟨#[111, 110, 32]⟩ : ByteArray) ++ (rdOf ByteArray.empty l0 a1_1)) ++ (⟨#[58]⟩ : ByteArray)).size + t142.size) = False := eq_false (Nat.not_lt.2 c21)
                      try have c21s : (9223372036854775807 < 3 + (rdOf ByteArray.empty l0 a1_1).size + 1 + t142.size) = False := by have h := c21b2; simp only [ByteArray.size_append] at h; exact h
                      obtain rfl := Option.some.inj H
                      have hcz22_0 : wr.cell? ⟨gb132, 0, none⟩ = some (.int .i64 a1_0) := (blk_cell BK132.out 0).trans rfl
                      have hcz22_1 : wr.cell? ⟨gb132, 1, none⟩ = some (.int .i64 a1_1) := (blk_cell BK132.out 1).trans rfl
                      have hcz22_2 : wr.cell? ⟨gb132, 2, none⟩ = some (.int .i64 a1_2) := (blk_cell BK132.out 2).trans rfl
                      have hcz22_3 : wr.cell? ⟨gb132, 3, none⟩ = some (.int .i64 a1_3) := (blk_cell BK132.out 3).trans rfl
                      have hcz22_4 : wr.cell? ⟨gb132, 4, none⟩ = some (.slice A1_4 l1_4.length c1_4) := (blk_cell BK132.out 4).trans rfl
                      have hfz22_0 := blk_frozen BK132.out 0
                      have hfz22_1 := blk_frozen BK132.out 1
                      have hfz22_2 := blk_frozen BK132.out 2
                      have hfz22_3 := blk_frozen BK132.out 3
                      have hfz22_4 := blk_frozen BK132.out 4
                      have p141 : 0 ≤ (a1_1 : Int) := of_decide_eq_true (by first | (with_reducible assumption) | assumption)
                      have q141 : a1_1 < (l0.length : Int) := of_decide_eq_true (by first | (with_reducible assumption) | assumption)
                      obtain ⟨ad141, e141, hx141_0⟩ := Kd.at_string HR0.out a1_1 p141 q141
                      cases e141
                      replace hx141_0 := (HB.out.cell (World.block_lt_of_cell? w _ hx141_0)).trans hx141_0
                      replace p141 := eq_true p141
                      replace q141 := eq_true q141
                      go_wp2_with (first | (go_at_call 80; (with_reducible refine (spec_l11Logic.calls a1_2 t142 _ A20.out).mono ?_); rintro e w' ⟨rfl, ⟨nd, rfl⟩⟩; (try first | exact ⟨rfl, _, World.drewN_drewN _ _ _⟩ | exact ⟨rfl, _, Eq.trans (World.drewN_drewN _ _ _) (congrArg (World.drewN _) (Nat.add_assoc _ _ _))⟩)))
                      repeat (go_quiet (first | (go_at_call 80; (with_reducible refine (spec_l11Logic.calls a1_2 t142 _ A20.out).mono ?_); rintro e w' ⟨rfl, ⟨nd, rfl⟩⟩; (try first | exact ⟨rfl, _, World.drewN_drewN _ _ _⟩ | exact ⟨rfl, _, Eq.trans (World.drewN_drewN _ _ _) (congrArg (World.drewN _) (Nat.add_assoc _ _ _))⟩))); try go_wp2_with (first | (go_at_call 80; (with_reducible refine (spec_l11Logic.calls a1_2 t142 _ A20.out).mono ?_); rintro e w' ⟨rfl, ⟨nd, rfl⟩⟩; (try first | exact ⟨rfl, _, World.drewN_drewN _ _ _⟩ | exact ⟨rfl, _, Eq.trans (World.drewN_drewN _ _ _) (congrArg (World.drewN _) (Nat.add_assoc _ _ _))⟩))))
                      go_ret
                      exact ⟨by first | rfl | (simp [errW_none, errW_some] <;> rfl) | (simp [*, errW_none, errW_some] <;> rfl), by repeat (first | (with_reducible first | exact HB.out | apply below_alloc | apply pw_below_drewN | apply below_drew1 | refine below_set ?_ GE132.out) | exact HB.out)⟩
                    · rw [if_neg c21] at H
                      exact absurd H (by simp)
                  · rw [if_neg c19] at H
                    exact absurd H (by simp)
                · rw [if_neg c18] at H
                  exact absurd H (by simp)
              · rw [if_neg c17] at H
                exact absurd H (by simp)
            · rw [if_neg c16] at H
              exact absurd H (by simp)
          · rw [if_neg c15] at H
            have c15b0 : (a1_0 == 2) = false := beq_eq_false_iff_ne.mpr c15
            have c15b1 : (a1_0 != 2) = true := bne_iff_ne.mpr c15
            by_cases c23 : a1_0 = 3
            · rw [if_pos c23] at H
              have c23b0 : (a1_0 == 3) = true := beq_iff_eq.mpr c23
              have c23b1 : (a1_0 != 3) = false := bne_eq_false_iff_eq.mpr c23
              clear c23
              by_cases c24 : 0 ≤ a1_1
              · rw [if_pos c24] at H
                have c24b0 : decide (0 ≤ a1_1) = true := decide_eq_true c24
                clear c24
                by_cases c25 : a1_1 < (l0.length : Int)
                · rw [if_pos c25] at H
                  have c25b0 : decide (a1_1 < (l0.length : Int)) = true := decide_eq_true c25
                  clear c25
                  by_cases c26 : 5 + (rdOf ByteArray.empty l0 a1_1).size ≤ 9223372036854775807
                  · rw [if_pos c26] at H
                    have c26b0 := eq_true c26
                    have c26b1 : decide (5 + (rdOf ByteArray.empty l0 a1_1).size ≤ 9223372036854775807) = true := decide_eq_true c26
                    try have c26b2 : (9223372036854775807 < 5 + (rdOf ByteArray.empty l0 a1_1).size) = False := eq_false (Nat.not_lt.2 c26)
                    by_cases c27 : ((⟨#[102, 114, 111, 109, 32]⟩ : ByteArray) ++ (rdOf ByteArray.empty l0 a1_1)).size + 1 ≤ 9223372036854775807
                    · rw [if_pos c27] at H
                      have c27b0 := eq_true c27
                      have c27b1 : decide (((⟨#[102, 114, 111, 109, 32]⟩ : ByteArray) ++ (rdOf ByteArray.empty l0 a1_1)).size + 1 ≤ 9223372036854775807) = true := decide_eq_true c27
                      try have c27b2 : (9223372036854775807 < ((⟨#[102, 114, 111, 109, 32]⟩ : ByteArray) ++ (rdOf ByteArray.empty l0 a1_1)).size + 1) = False := eq_false (Nat.not_lt.2 c27)
                      try have c27s : (9223372036854775807 < 5 + (rdOf ByteArray.empty l0 a1_1).size + 1) = False := by have h := c27b2; simp only [ByteArray.size_append] at h; exact h
                      replace H := Option.bind_eq_some_iff.mp H
                      obtain ⟨t144, A280, H⟩ := H
                      replace H : (if (((⟨#[102, 114, 111, 109, 32]⟩ : ByteArray) ++ (rdOf ByteArray.empty l0 a1_1)) ++ (⟨#[58]⟩ : ByteArray)).size + t144.size ≤ 9223372036854775807 then (some ((((⟨#[102, 114, 111, 109, 32]⟩ : ByteArray) ++ (rdOf ByteArray.empty l0 a1_1)) ++ (⟨#[58]⟩ : ByteArray)) ++ t144)) else (none)) = some r := H
                      have A28 := Aside0.mk A280
                      clear A280
                      by_cases c29 : (((⟨#[102, 114, 111, 109, 32]⟩ : ByteArray) ++ (rdOf ByteArray.empty l0 a1_1)) ++ (⟨#[58]⟩ : ByteArray)).size + t144.size ≤ 9223372036854775807
                      · rw [if_pos c29] at H
                        have c29b0 := eq_true c29
                        have c29b1 : decide ((((⟨#[102, 114, 111, 109, 32]⟩ : ByteArray) ++ (rdOf ByteArray.empty l0 a1_1)) ++ (⟨#[58]⟩ : ByteArray)).size + t144.size ≤ 9223372036854775807) = true := decide_eq_true c29
                        try have c29b2 : (9223372036854775807 < (((⟨#[102, 114, 111, 109, 32]⟩ : ByteArray) ++ (rdOf ByteArray.empty l0 a1_1)) ++ (⟨#[58]⟩ : ByteArray)).size + t144.size) = False := eq_false (Nat.not_lt.2 c29)
                        try have c29s : (9223372036854775807 < 5 + (rdOf ByteArray.empty l0 a1_1).size + 1 + t144.size) = False := by have h := c29b2; simp only [ByteArray.size_append] at h; exact h
                        obtain rfl := Option.some.inj H
                        have hcz30_0 : wr.cell? ⟨gb132, 0, none⟩ = some (.int .i64 a1_0) := (blk_cell BK132.out 0).trans rfl
                        have hcz30_1 : wr.cell? ⟨gb132, 1, none⟩ = some (.int .i64 a1_1) := (blk_cell BK132.out 1).trans rfl
                        have hcz30_2 : wr.cell? ⟨gb132, 2, none⟩ = some (.int .i64 a1_2) := (blk_cell BK132.out 2).trans rfl
                        have hcz30_3 : wr.cell? ⟨gb132, 3, none⟩ = some (.int .i64 a1_3) := (blk_cell BK132.out 3).trans rfl
                        have hcz30_4 : wr.cell? ⟨gb132, 4, none⟩ = some (.slice A1_4 l1_4.length c1_4) := (blk_cell BK132.out 4).trans rfl
                        have hfz30_0 := blk_frozen BK132.out 0
                        have hfz30_1 := blk_frozen BK132.out 1
                        have hfz30_2 := blk_frozen BK132.out 2
                        have hfz30_3 := blk_frozen BK132.out 3
                        have hfz30_4 := blk_frozen BK132.out 4
                        have p143 : 0 ≤ (a1_1 : Int) := of_decide_eq_true (by first | (with_reducible assumption) | assumption)
                        have q143 : a1_1 < (l0.length : Int) := of_decide_eq_true (by first | (with_reducible assumption) | assumption)
                        obtain ⟨ad143, e143, hx143_0⟩ := Kd.at_string HR0.out a1_1 p143 q143
                        cases e143
                        replace hx143_0 := (HB.out.cell (World.block_lt_of_cell? w _ hx143_0)).trans hx143_0
                        replace p143 := eq_true p143
                        replace q143 := eq_true q143
                        go_wp2_with (first | (go_at_call 80; (with_reducible refine (spec_l11Logic.calls a1_2 t144 _ A28.out).mono ?_); rintro e w' ⟨rfl, ⟨nd, rfl⟩⟩; (try first | exact ⟨rfl, _, World.drewN_drewN _ _ _⟩ | exact ⟨rfl, _, Eq.trans (World.drewN_drewN _ _ _) (congrArg (World.drewN _) (Nat.add_assoc _ _ _))⟩)))
                        repeat (go_quiet (first | (go_at_call 80; (with_reducible refine (spec_l11Logic.calls a1_2 t144 _ A28.out).mono ?_); rintro e w' ⟨rfl, ⟨nd, rfl⟩⟩; (try first | exact ⟨rfl, _, World.drewN_drewN _ _ _⟩ | exact ⟨rfl, _, Eq.trans (World.drewN_drewN _ _ _) (congrArg (World.drewN _) (Nat.add_assoc _ _ _))⟩))); try go_wp2_with (first | (go_at_call 80; (with_reducible refine (spec_l11Logic.calls a1_2 t144 _ A28.out).mono ?_); rintro e w' ⟨rfl, ⟨nd, rfl⟩⟩; (try first | exact ⟨rfl, _, World.drewN_drewN _ _ _⟩ | exact ⟨rfl, _, Eq.trans (World.drewN_drewN _ _ _) (congrArg (World.drewN _) (Nat.add_assoc _ _ _))⟩))))
                        go_ret
                        exact ⟨by first | rfl | (simp [errW_none, errW_some] <;> rfl) | (simp [*, errW_none, errW_some] <;> rfl), by repeat (first | (with_reducible first | exact HB.out | apply below_alloc | apply pw_below_drewN | apply below_drew1 | refine below_set ?_ GE132.out) | exact HB.out)⟩
                      · rw [if_neg c29] at H
                        exact absurd H (by simp)
                    · rw [if_neg c27] at H
                      exact absurd H (by simp)
                  · rw [if_neg c26] at H
                    exact absurd H (by simp)
                · rw [if_neg c25] at H
                  exact absurd H (by simp)
              · rw [if_neg c24] at H
                exact absurd H (by simp)
            · rw [if_neg c23] at H
              have c23b0 : (a1_0 == 3) = false := beq_eq_false_iff_ne.mpr c23
              have c23b1 : (a1_0 != 3) = true := bne_iff_ne.mpr c23
              by_cases c31 : a1_0 = 4
              · rw [if_pos c31] at H
                have c31b0 : (a1_0 == 4) = true := beq_iff_eq.mpr c31
                have c31b1 : (a1_0 != 4) = false := bne_eq_false_iff_eq.mpr c31
                clear c31
                replace H := Option.bind_eq_some_iff.mp H
                obtain ⟨t145, A320, H⟩ := H
                replace H : (if 7 + t145.size ≤ 9223372036854775807 then (some ((⟨#[115, 104, 97, 114, 101, 100, 58]⟩ : ByteArray) ++ t145)) else (none)) = some r := H
                have A32 := Aside0.mk A320
                clear A320
                by_cases c33 : 7 + t145.size ≤ 9223372036854775807
                · rw [if_pos c33] at H
                  have c33b0 := eq_true c33
                  have c33b1 : decide (7 + t145.size ≤ 9223372036854775807) = true := decide_eq_true c33
                  try have c33b2 : (9223372036854775807 < 7 + t145.size) = False := eq_false (Nat.not_lt.2 c33)
                  obtain rfl := Option.some.inj H
                  have hcz34_0 : wr.cell? ⟨gb132, 0, none⟩ = some (.int .i64 a1_0) := (blk_cell BK132.out 0).trans rfl
                  have hcz34_1 : wr.cell? ⟨gb132, 1, none⟩ = some (.int .i64 a1_1) := (blk_cell BK132.out 1).trans rfl
                  have hcz34_2 : wr.cell? ⟨gb132, 2, none⟩ = some (.int .i64 a1_2) := (blk_cell BK132.out 2).trans rfl
                  have hcz34_3 : wr.cell? ⟨gb132, 3, none⟩ = some (.int .i64 a1_3) := (blk_cell BK132.out 3).trans rfl
                  have hcz34_4 : wr.cell? ⟨gb132, 4, none⟩ = some (.slice A1_4 l1_4.length c1_4) := (blk_cell BK132.out 4).trans rfl
                  have hfz34_0 := blk_frozen BK132.out 0
                  have hfz34_1 := blk_frozen BK132.out 1
                  have hfz34_2 := blk_frozen BK132.out 2
                  have hfz34_3 := blk_frozen BK132.out 3
                  have hfz34_4 := blk_frozen BK132.out 4
                  go_wp2_with (first | (go_at_call 80; (with_reducible refine (spec_l11Logic.calls a1_2 t145 _ A32.out).mono ?_); rintro e w' ⟨rfl, ⟨nd, rfl⟩⟩; (try first | exact ⟨rfl, _, World.drewN_drewN _ _ _⟩ | exact ⟨rfl, _, Eq.trans (World.drewN_drewN _ _ _) (congrArg (World.drewN _) (Nat.add_assoc _ _ _))⟩)))
                  repeat (go_quiet (first | (go_at_call 80; (with_reducible refine (spec_l11Logic.calls a1_2 t145 _ A32.out).mono ?_); rintro e w' ⟨rfl, ⟨nd, rfl⟩⟩; (try first | exact ⟨rfl, _, World.drewN_drewN _ _ _⟩ | exact ⟨rfl, _, Eq.trans (World.drewN_drewN _ _ _) (congrArg (World.drewN _) (Nat.add_assoc _ _ _))⟩))); try go_wp2_with (first | (go_at_call 80; (with_reducible refine (spec_l11Logic.calls a1_2 t145 _ A32.out).mono ?_); rintro e w' ⟨rfl, ⟨nd, rfl⟩⟩; (try first | exact ⟨rfl, _, World.drewN_drewN _ _ _⟩ | exact ⟨rfl, _, Eq.trans (World.drewN_drewN _ _ _) (congrArg (World.drewN _) (Nat.add_assoc _ _ _))⟩))))
                  go_ret
                  exact ⟨by first | rfl | (simp [errW_none, errW_some] <;> rfl) | (simp [*, errW_none, errW_some] <;> rfl), by repeat (first | (with_reducible first | exact HB.out | apply below_alloc | apply pw_below_drewN | apply below_drew1 | refine below_set ?_ GE132.out) | exact HB.out)⟩
                · rw [if_neg c33] at H
                  exact absurd H (by simp)
              · rw [if_neg c31] at H
                have c31b0 : (a1_0 == 4) = false := beq_eq_false_iff_ne.mpr c31
                have c31b1 : (a1_0 != 4) = true := bne_iff_ne.mpr c31
                by_cases c35 : a1_0 = 5
                · rw [if_pos c35] at H
                  have c35b0 : (a1_0 == 5) = true := beq_iff_eq.mpr c35
                  have c35b1 : (a1_0 != 5) = false := bne_eq_false_iff_eq.mpr c35
                  clear c35
                  replace H := Option.bind_eq_some_iff.mp H
                  obtain ⟨t146, A360, H⟩ := H
                  replace H : (if 5 + t146.size ≤ 9223372036854775807 then ((spec_l11Logic.f a1_3).bind fun t147 => (if ((⟨#[110, 101, 120, 116, 58]⟩ : ByteArray) ++ t146).size + t147.size ≤ 9223372036854775807 then (some (((⟨#[110, 101, 120, 116, 58]⟩ : ByteArray) ++ t146) ++ t147)) else (none))) else (none)) = some r := H
                  have A36 := Aside0.mk A360
                  clear A360
                  by_cases c37 : 5 + t146.size ≤ 9223372036854775807
                  · rw [if_pos c37] at H
                    have c37b0 := eq_true c37
                    have c37b1 : decide (5 + t146.size ≤ 9223372036854775807) = true := decide_eq_true c37
                    try have c37b2 : (9223372036854775807 < 5 + t146.size) = False := eq_false (Nat.not_lt.2 c37)
                    replace H := Option.bind_eq_some_iff.mp H
                    obtain ⟨t147, A380, H⟩ := H
                    replace H : (if ((⟨#[110, 101, 120, 116, 58]⟩ : ByteArray) ++ t146).size + t147.size ≤ 9223372036854775807 then (some (((⟨#[110, 101, 120, 116, 58]⟩ : ByteArray) ++ t146) ++ t147)) else (none)) = some r := H
                    have A38 := Aside0.mk A380
                    clear A380
                    by_cases c39 : ((⟨#[110, 101, 120, 116, 58]⟩ : ByteArray) ++ t146).size + t147.size ≤ 9223372036854775807
                    · rw [if_pos c39] at H
                      have c39b0 := eq_true c39
                      have c39b1 : decide (((⟨#[110, 101, 120, 116, 58]⟩ : ByteArray) ++ t146).size + t147.size ≤ 9223372036854775807) = true := decide_eq_true c39
                      try have c39b2 : (9223372036854775807 < ((⟨#[110, 101, 120, 116, 58]⟩ : ByteArray) ++ t146).size + t147.size) = False := eq_false (Nat.not_lt.2 c39)
                      try have c39s : (9223372036854775807 < 5 + t146.size + t147.size) = False := by have h := c39b2; simp only [ByteArray.size_append] at h; exact h
                      obtain rfl := Option.some.inj H
                      have hcz40_0 : wr.cell? ⟨gb132, 0, none⟩ = some (.int .i64 a1_0) := (blk_cell BK132.out 0).trans rfl
                      have hcz40_1 : wr.cell? ⟨gb132, 1, none⟩ = some (.int .i64 a1_1) := (blk_cell BK132.out 1).trans rfl
                      have hcz40_2 : wr.cell? ⟨gb132, 2, none⟩ = some (.int .i64 a1_2) := (blk_cell BK132.out 2).trans rfl
                      have hcz40_3 : wr.cell? ⟨gb132, 3, none⟩ = some (.int .i64 a1_3) := (blk_cell BK132.out 3).trans rfl
                      have hcz40_4 : wr.cell? ⟨gb132, 4, none⟩ = some (.slice A1_4 l1_4.length c1_4) := (blk_cell BK132.out 4).trans rfl
                      have hfz40_0 := blk_frozen BK132.out 0
                      have hfz40_1 := blk_frozen BK132.out 1
                      have hfz40_2 := blk_frozen BK132.out 2
                      have hfz40_3 := blk_frozen BK132.out 3
                      have hfz40_4 := blk_frozen BK132.out 4
                      go_wp2_with (first | (go_at_call 80; (with_reducible refine (spec_l11Logic.calls a1_2 t146 _ A36.out).mono ?_); rintro e w' ⟨rfl, ⟨nd, rfl⟩⟩; (try first | exact ⟨rfl, _, World.drewN_drewN _ _ _⟩ | exact ⟨rfl, _, Eq.trans (World.drewN_drewN _ _ _) (congrArg (World.drewN _) (Nat.add_assoc _ _ _))⟩)) | (go_at_call 80; (with_reducible refine (spec_l11Logic.calls a1_3 t147 _ A38.out).mono ?_); rintro e w' ⟨rfl, ⟨nd, rfl⟩⟩; (try first | exact ⟨rfl, _, World.drewN_drewN _ _ _⟩ | exact ⟨rfl, _, Eq.trans (World.drewN_drewN _ _ _) (congrArg (World.drewN _) (Nat.add_assoc _ _ _))⟩)))
                      repeat (go_quiet (first | (go_at_call 80; (with_reducible refine (spec_l11Logic.calls a1_2 t146 _ A36.out).mono ?_); rintro e w' ⟨rfl, ⟨nd, rfl⟩⟩; (try first | exact ⟨rfl, _, World.drewN_drewN _ _ _⟩ | exact ⟨rfl, _, Eq.trans (World.drewN_drewN _ _ _) (congrArg (World.drewN _) (Nat.add_assoc _ _ _))⟩)) | (go_at_call 80; (with_reducible refine (spec_l11Logic.calls a1_3 t147 _ A38.out).mono ?_); rintro e w' ⟨rfl, ⟨nd, rfl⟩⟩; (try first | exact ⟨rfl, _, World.drewN_drewN _ _ _⟩ | exact ⟨rfl, _, Eq.trans (World.drewN_drewN _ _ _) (congrArg (World.drewN _) (Nat.add_assoc _ _ _))⟩))); try go_wp2_with (first | (go_at_call 80; (with_reducible refine (spec_l11Logic.calls a1_2 t146 _ A36.out).mono ?_); rintro e w' ⟨rfl, ⟨nd, rfl⟩⟩; (try first | exact ⟨rfl, _, World.drewN_drewN _ _ _⟩ | exact ⟨rfl, _, Eq.trans (World.drewN_drewN _ _ _) (congrArg (World.drewN _) (Nat.add_assoc _ _ _))⟩)) | (go_at_call 80; (with_reducible refine (spec_l11Logic.calls a1_3 t147 _ A38.out).mono ?_); rintro e w' ⟨rfl, ⟨nd, rfl⟩⟩; (try first | exact ⟨rfl, _, World.drewN_drewN _ _ _⟩ | exact ⟨rfl, _, Eq.trans (World.drewN_drewN _ _ _) (congrArg (World.drewN _) (Nat.add_assoc _ _ _))⟩))))
                      go_ret
                      exact ⟨by first | rfl | (simp [errW_none, errW_some] <;> rfl) | (simp [*, errW_none, errW_some] <;> rfl), by repeat (first | (with_reducible first | exact HB.out | apply below_alloc | apply pw_below_drewN | apply below_drew1 | refine below_set ?_ GE132.out) | exact HB.out)⟩
                    · rw [if_neg c39] at H
                      exact absurd H (by simp)
                  · rw [if_neg c37] at H
                    exact absurd H (by simp)
                · rw [if_neg c35] at H
                  have c35b0 : (a1_0 == 5) = false := beq_eq_false_iff_ne.mpr c35
                  have c35b1 : (a1_0 != 5) = true := bne_iff_ne.mpr c35
                  by_cases c41 : a1_0 = 6
                  · rw [if_pos c41] at H
                    have c41b0 : (a1_0 == 6) = true := beq_iff_eq.mpr c41
                    have c41b1 : (a1_0 != 6) = false := bne_eq_false_iff_eq.mpr c41
                    clear c41
                    replace H := Option.bind_eq_some_iff.mp H
                    obtain ⟨t148, A420, H⟩ := H
                    replace H : (if 5 + t148.size ≤ 9223372036854775807 then ((spec_l11Logic.f a1_3).bind fun t149 => (if ((⟨#[115, 97, 109, 101, 58]⟩ : ByteArray) ++ t148).size + t149.size ≤ 9223372036854775807 then (some (((⟨#[115, 97, 109, 101, 58]⟩ : ByteArray) ++ t148) ++ t149)) else (none))) else (none)) = some r := H
                    have A42 := Aside0.mk A420
                    clear A420
                    by_cases c43 : 5 + t148.size ≤ 9223372036854775807
                    · rw [if_pos c43] at H
                      have c43b0 := eq_true c43
                      have c43b1 : decide (5 + t148.size ≤ 9223372036854775807) = true := decide_eq_true c43
                      try have c43b2 : (9223372036854775807 < 5 + t148.size) = False := eq_false (Nat.not_lt.2 c43)
                      replace H := Option.bind_eq_some_iff.mp H
                      obtain ⟨t149, A440, H⟩ := H
                      replace H : (if ((⟨#[115, 97, 109, 101, 58]⟩ : ByteArray) ++ t148).size + t149.size ≤ 9223372036854775807 then (some (((⟨#[115, 97, 109, 101, 58]⟩ : ByteArray) ++ t148) ++ t149)) else (none)) = some r := H
                      have A44 := Aside0.mk A440
                      clear A440
                      by_cases c45 : ((⟨#[115, 97, 109, 101, 58]⟩ : ByteArray) ++ t148).size + t149.size ≤ 9223372036854775807
                      · rw [if_pos c45] at H
                        have c45b0 := eq_true c45
                        have c45b1 : decide (((⟨#[115, 97, 109, 101, 58]⟩ : ByteArray) ++ t148).size + t149.size ≤ 9223372036854775807) = true := decide_eq_true c45
                        try have c45b2 : (9223372036854775807 < ((⟨#[115, 97, 109, 101, 58]⟩ : ByteArray) ++ t148).size + t149.size) = False := eq_false (Nat.not_lt.2 c45)
                        try have c45s : (9223372036854775807 < 5 + t148.size + t149.size) = False := by have h := c45b2; simp only [ByteArray.size_append] at h; exact h
                        obtain rfl := Option.some.inj H
                        have hcz46_0 : wr.cell? ⟨gb132, 0, none⟩ = some (.int .i64 a1_0) := (blk_cell BK132.out 0).trans rfl
                        have hcz46_1 : wr.cell? ⟨gb132, 1, none⟩ = some (.int .i64 a1_1) := (blk_cell BK132.out 1).trans rfl
                        have hcz46_2 : wr.cell? ⟨gb132, 2, none⟩ = some (.int .i64 a1_2) := (blk_cell BK132.out 2).trans rfl
                        have hcz46_3 : wr.cell? ⟨gb132, 3, none⟩ = some (.int .i64 a1_3) := (blk_cell BK132.out 3).trans rfl
                        have hcz46_4 : wr.cell? ⟨gb132, 4, none⟩ = some (.slice A1_4 l1_4.length c1_4) := (blk_cell BK132.out 4).trans rfl
                        have hfz46_0 := blk_frozen BK132.out 0
                        have hfz46_1 := blk_frozen BK132.out 1
                        have hfz46_2 := blk_frozen BK132.out 2
                        have hfz46_3 := blk_frozen BK132.out 3
                        have hfz46_4 := blk_frozen BK132.out 4
                        go_wp2_with (first | (go_at_call 80; (with_reducible refine (spec_l11Logic.calls a1_2 t148 _ A42.out).mono ?_); rintro e w' ⟨rfl, ⟨nd, rfl⟩⟩; (try first | exact ⟨rfl, _, World.drewN_drewN _ _ _⟩ | exact ⟨rfl, _, Eq.trans (World.drewN_drewN _ _ _) (congrArg (World.drewN _) (Nat.add_assoc _ _ _))⟩)) | (go_at_call 80; (with_reducible refine (spec_l11Logic.calls a1_3 t149 _ A44.out).mono ?_); rintro e w' ⟨rfl, ⟨nd, rfl⟩⟩; (try first | exact ⟨rfl, _, World.drewN_drewN _ _ _⟩ | exact ⟨rfl, _, Eq.trans (World.drewN_drewN _ _ _) (congrArg (World.drewN _) (Nat.add_assoc _ _ _))⟩)))
                        repeat (go_quiet (first | (go_at_call 80; (with_reducible refine (spec_l11Logic.calls a1_2 t148 _ A42.out).mono ?_); rintro e w' ⟨rfl, ⟨nd, rfl⟩⟩; (try first | exact ⟨rfl, _, World.drewN_drewN _ _ _⟩ | exact ⟨rfl, _, Eq.trans (World.drewN_drewN _ _ _) (congrArg (World.drewN _) (Nat.add_assoc _ _ _))⟩)) | (go_at_call 80; (with_reducible refine (spec_l11Logic.calls a1_3 t149 _ A44.out).mono ?_); rintro e w' ⟨rfl, ⟨nd, rfl⟩⟩; (try first | exact ⟨rfl, _, World.drewN_drewN _ _ _⟩ | exact ⟨rfl, _, Eq.trans (World.drewN_drewN _ _ _) (congrArg (World.drewN _) (Nat.add_assoc _ _ _))⟩))); try go_wp2_with (first | (go_at_call 80; (with_reducible refine (spec_l11Logic.calls a1_2 t148 _ A42.out).mono ?_); rintro e w' ⟨rfl, ⟨nd, rfl⟩⟩; (try first | exact ⟨rfl, _, World.drewN_drewN _ _ _⟩ | exact ⟨rfl, _, Eq.trans (World.drewN_drewN _ _ _) (congrArg (World.drewN _) (Nat.add_assoc _ _ _))⟩)) | (go_at_call 80; (with_reducible refine (spec_l11Logic.calls a1_3 t149 _ A44.out).mono ?_); rintro e w' ⟨rfl, ⟨nd, rfl⟩⟩; (try first | exact ⟨rfl, _, World.drewN_drewN _ _ _⟩ | exact ⟨rfl, _, Eq.trans (World.drewN_drewN _ _ _) (congrArg (World.drewN _) (Nat.add_assoc _ _ _))⟩))))
                        go_ret
                        exact ⟨by first | rfl | (simp [errW_none, errW_some] <;> rfl) | (simp [*, errW_none, errW_some] <;> rfl), by repeat (first | (with_reducible first | exact HB.out | apply below_alloc | apply pw_below_drewN | apply below_drew1 | refine below_set ?_ GE132.out) | exact HB.out)⟩
                      · rw [if_neg c45] at H
                        exact absurd H (by simp)
                    · rw [if_neg c43] at H
                      exact absurd H (by simp)
                  · rw [if_neg c41] at H
                    have c41b0 : (a1_0 == 6) = false := beq_eq_false_iff_ne.mpr c41
                    have c41b1 : (a1_0 != 6) = true := bne_iff_ne.mpr c41
                    by_cases c47 : a1_0 = 7
                    · rw [if_pos c47] at H
                      have c47b0 : (a1_0 == 7) = true := beq_iff_eq.mpr c47
                      have c47b1 : (a1_0 != 7) = false := bne_eq_false_iff_eq.mpr c47
                      clear c47
                      replace H := Option.bind_eq_some_iff.mp H
                      obtain ⟨t150, A480, H⟩ := H
                      replace H : (if 5 + t150.size ≤ 9223372036854775807 then ((spec_l11Logic.f a1_3).bind fun t151 => (if ((⟨#[112, 97, 116, 104, 58]⟩ : ByteArray) ++ t150).size + t151.size ≤ 9223372036854775807 then (some (((⟨#[112, 97, 116, 104, 58]⟩ : ByteArray) ++ t150) ++ t151)) else (none))) else (none)) = some r := H
                      have A48 := Aside0.mk A480
                      clear A480
                      by_cases c49 : 5 + t150.size ≤ 9223372036854775807
                      · rw [if_pos c49] at H
                        have c49b0 := eq_true c49
                        have c49b1 : decide (5 + t150.size ≤ 9223372036854775807) = true := decide_eq_true c49
                        try have c49b2 : (9223372036854775807 < 5 + t150.size) = False := eq_false (Nat.not_lt.2 c49)
                        replace H := Option.bind_eq_some_iff.mp H
                        obtain ⟨t151, A500, H⟩ := H
                        replace H : (if ((⟨#[112, 97, 116, 104, 58]⟩ : ByteArray) ++ t150).size + t151.size ≤ 9223372036854775807 then (some (((⟨#[112, 97, 116, 104, 58]⟩ : ByteArray) ++ t150) ++ t151)) else (none)) = some r := H
                        have A50 := Aside0.mk A500
                        clear A500
                        by_cases c51 : ((⟨#[112, 97, 116, 104, 58]⟩ : ByteArray) ++ t150).size + t151.size ≤ 9223372036854775807
                        · rw [if_pos c51] at H
                          have c51b0 := eq_true c51
                          have c51b1 : decide (((⟨#[112, 97, 116, 104, 58]⟩ : ByteArray) ++ t150).size + t151.size ≤ 9223372036854775807) = true := decide_eq_true c51
                          try have c51b2 : (9223372036854775807 < ((⟨#[112, 97, 116, 104, 58]⟩ : ByteArray) ++ t150).size + t151.size) = False := eq_false (Nat.not_lt.2 c51)
                          try have c51s : (9223372036854775807 < 5 + t150.size + t151.size) = False := by have h := c51b2; simp only [ByteArray.size_append] at h; exact h
                          obtain rfl := Option.some.inj H
                          have hcz52_0 : wr.cell? ⟨gb132, 0, none⟩ = some (.int .i64 a1_0) := (blk_cell BK132.out 0).trans rfl
                          have hcz52_1 : wr.cell? ⟨gb132, 1, none⟩ = some (.int .i64 a1_1) := (blk_cell BK132.out 1).trans rfl
                          have hcz52_2 : wr.cell? ⟨gb132, 2, none⟩ = some (.int .i64 a1_2) := (blk_cell BK132.out 2).trans rfl
                          have hcz52_3 : wr.cell? ⟨gb132, 3, none⟩ = some (.int .i64 a1_3) := (blk_cell BK132.out 3).trans rfl
                          have hcz52_4 : wr.cell? ⟨gb132, 4, none⟩ = some (.slice A1_4 l1_4.length c1_4) := (blk_cell BK132.out 4).trans rfl
                          have hfz52_0 := blk_frozen BK132.out 0
                          have hfz52_1 := blk_frozen BK132.out 1
                          have hfz52_2 := blk_frozen BK132.out 2
                          have hfz52_3 := blk_frozen BK132.out 3
                          have hfz52_4 := blk_frozen BK132.out 4
                          go_wp2_with (first | (go_at_call 80; (with_reducible refine (spec_l11Logic.calls a1_2 t150 _ A48.out).mono ?_); rintro e w' ⟨rfl, ⟨nd, rfl⟩⟩; (try first | exact ⟨rfl, _, World.drewN_drewN _ _ _⟩ | exact ⟨rfl, _, Eq.trans (World.drewN_drewN _ _ _) (congrArg (World.drewN _) (Nat.add_assoc _ _ _))⟩)) | (go_at_call 80; (with_reducible refine (spec_l11Logic.calls a1_3 t151 _ A50.out).mono ?_); rintro e w' ⟨rfl, ⟨nd, rfl⟩⟩; (try first | exact ⟨rfl, _, World.drewN_drewN _ _ _⟩ | exact ⟨rfl, _, Eq.trans (World.drewN_drewN _ _ _) (congrArg (World.drewN _) (Nat.add_assoc _ _ _))⟩)))
                          repeat (go_quiet (first | (go_at_call 80; (with_reducible refine (spec_l11Logic.calls a1_2 t150 _ A48.out).mono ?_); rintro e w' ⟨rfl, ⟨nd, rfl⟩⟩; (try first | exact ⟨rfl, _, World.drewN_drewN _ _ _⟩ | exact ⟨rfl, _, Eq.trans (World.drewN_drewN _ _ _) (congrArg (World.drewN _) (Nat.add_assoc _ _ _))⟩)) | (go_at_call 80; (with_reducible refine (spec_l11Logic.calls a1_3 t151 _ A50.out).mono ?_); rintro e w' ⟨rfl, ⟨nd, rfl⟩⟩; (try first | exact ⟨rfl, _, World.drewN_drewN _ _ _⟩ | exact ⟨rfl, _, Eq.trans (World.drewN_drewN _ _ _) (congrArg (World.drewN _) (Nat.add_assoc _ _ _))⟩))); try go_wp2_with (first | (go_at_call 80; (with_reducible refine (spec_l11Logic.calls a1_2 t150 _ A48.out).mono ?_); rintro e w' ⟨rfl, ⟨nd, rfl⟩⟩; (try first | exact ⟨rfl, _, World.drewN_drewN _ _ _⟩ | exact ⟨rfl, _, Eq.trans (World.drewN_drewN _ _ _) (congrArg (World.drewN _) (Nat.add_assoc _ _ _))⟩)) | (go_at_call 80; (with_reducible refine (spec_l11Logic.calls a1_3 t151 _ A50.out).mono ?_); rintro e w' ⟨rfl, ⟨nd, rfl⟩⟩; (try first | exact ⟨rfl, _, World.drewN_drewN _ _ _⟩ | exact ⟨rfl, _, Eq.trans (World.drewN_drewN _ _ _) (congrArg (World.drewN _) (Nat.add_assoc _ _ _))⟩))))
                          go_ret
                          exact ⟨by first | rfl | (simp [errW_none, errW_some] <;> rfl) | (simp [*, errW_none, errW_some] <;> rfl), by repeat (first | (with_reducible first | exact HB.out | apply below_alloc | apply pw_below_drewN | apply below_drew1 | refine below_set ?_ GE132.out) | exact HB.out)⟩
                        · rw [if_neg c51] at H
                          exact absurd H (by simp)
                      · rw [if_neg c49] at H
                        exact absurd H (by simp)
                    · rw [if_neg c47] at H
                      have c47b0 : (a1_0 == 7) = false := beq_eq_false_iff_ne.mpr c47
                      have c47b1 : (a1_0 != 7) = true := bne_iff_ne.mpr c47
                      by_cases c53 : a1_0 = 8
                      · rw [if_pos c53] at H
                        have c53b0 : (a1_0 == 8) = true := beq_iff_eq.mpr c53
                        have c53b1 : (a1_0 != 8) = false := bne_eq_false_iff_eq.mpr c53
                        clear c53
                        by_cases c54 : 0 < (x5_1.length : Int)
                        · rw [if_pos c54] at H
                          have c54b0 : decide (0 < (x5_1.length : Int)) = true := decide_eq_true c54
                          have c54b1 : decide (0 < x5_1.length) = true := decide_eq_true (by omega)
                          clear c54
                          by_cases c55 : 1 + (rdOf ByteArray.empty x5_1 0).size ≤ 9223372036854775807
                          · rw [if_pos c55] at H
                            have c55b0 := eq_true c55
                            have c55b1 : decide (1 + (rdOf ByteArray.empty x5_1 0).size ≤ 9223372036854775807) = true := decide_eq_true c55
                            try have c55b2 : (9223372036854775807 < 1 + (rdOf ByteArray.empty x5_1 0).size) = False := eq_false (Nat.not_lt.2 c55)
                            obtain rfl := Option.some.inj H
                            have hcz56_0 : wr.cell? ⟨gb132, 0, none⟩ = some (.int .i64 a1_0) := (blk_cell BK132.out 0).trans rfl
                            have hcz56_1 : wr.cell? ⟨gb132, 1, none⟩ = some (.int .i64 a1_1) := (blk_cell BK132.out 1).trans rfl
                            have hcz56_2 : wr.cell? ⟨gb132, 2, none⟩ = some (.int .i64 a1_2) := (blk_cell BK132.out 2).trans rfl
                            have hcz56_3 : wr.cell? ⟨gb132, 3, none⟩ = some (.int .i64 a1_3) := (blk_cell BK132.out 3).trans rfl
                            have hcz56_4 : wr.cell? ⟨gb132, 4, none⟩ = some (.slice A1_4 l1_4.length c1_4) := (blk_cell BK132.out 4).trans rfl
                            have hfz56_0 := blk_frozen BK132.out 0
                            have hfz56_1 := blk_frozen BK132.out 1
                            have hfz56_2 := blk_frozen BK132.out 2
                            have hfz56_3 := blk_frozen BK132.out 3
                            have hfz56_4 := blk_frozen BK132.out 4
                            obtain ⟨Ao57, co57, eo57⟩ := Kd.R_slice HO_5.out
                            subst eo57
                            have p152 : 0 ≤ (0 : Int) := (by omega)
                            have q152 : 0 < (x5_1.length : Int) := of_decide_eq_true (by first | (with_reducible assumption) | assumption)
                            obtain ⟨ad152, e152, hx152_0⟩ := Kd.at_string (Kd.R_reads' HO_5.out).2.2 0 p152 q152
                            cases e152
                            have qi152 : (0 < x5_1.length) = True := eq_true (by omega)
                            (try rw [show ((0 : Int)).toNat = 0 from rfl] at hx152_0)
                            (try rw [Addr.add_zero'] at hx152_0)
                            replace p152 := eq_true p152
                            replace q152 := eq_true q152
                            go_wp2
                            repeat (go_quiet (fail); try go_wp2)
                            go_ret
                            exact ⟨by first | rfl | (simp [errW_none, errW_some] <;> rfl) | (simp [*, errW_none, errW_some] <;> rfl), by repeat (first | (with_reducible first | exact HB.out | apply below_alloc | apply pw_below_drewN | apply below_drew1 | refine below_set ?_ GE132.out) | exact HB.out)⟩
                          · rw [if_neg c55] at H
                            exact absurd H (by simp)
                        · rw [if_neg c54] at H
                          exact absurd H (by simp)
                      · rw [if_neg c53] at H
                        have c53b0 : (a1_0 == 8) = false := beq_eq_false_iff_ne.mpr c53
                        have c53b1 : (a1_0 != 8) = true := bne_iff_ne.mpr c53
                        by_cases c58 : a1_0 = 9
                        · rw [if_pos c58] at H
                          have c58b0 : (a1_0 == 9) = true := beq_iff_eq.mpr c58
                          have c58b1 : (a1_0 != 9) = false := bne_eq_false_iff_eq.mpr c58
                          clear c58
                          by_cases c59 : 0 < (x5_1.length : Int)
                          · rw [if_pos c59] at H
                            have c59b0 : decide (0 < (x5_1.length : Int)) = true := decide_eq_true c59
                            have c59b1 : decide (0 < x5_1.length) = true := decide_eq_true (by omega)
                            clear c59
                            by_cases c60 : 1 + (rdOf ByteArray.empty x5_1 0).size ≤ 9223372036854775807
                            · rw [if_pos c60] at H
                              have c60b0 := eq_true c60
                              have c60b1 : decide (1 + (rdOf ByteArray.empty x5_1 0).size ≤ 9223372036854775807) = true := decide_eq_true c60
                              try have c60b2 : (9223372036854775807 < 1 + (rdOf ByteArray.empty x5_1 0).size) = False := eq_false (Nat.not_lt.2 c60)
                              by_cases c61 : ((⟨#[40]⟩ : ByteArray) ++ (rdOf ByteArray.empty x5_1 0)).size + 1 ≤ 9223372036854775807
                              · rw [if_pos c61] at H
                                have c61b0 := eq_true c61
                                have c61b1 : decide (((⟨#[40]⟩ : ByteArray) ++ (rdOf ByteArray.empty x5_1 0)).size + 1 ≤ 9223372036854775807) = true := decide_eq_true c61
                                try have c61b2 : (9223372036854775807 < ((⟨#[40]⟩ : ByteArray) ++ (rdOf ByteArray.empty x5_1 0)).size + 1) = False := eq_false (Nat.not_lt.2 c61)
                                try have c61s : (9223372036854775807 < 1 + (rdOf ByteArray.empty x5_1 0).size + 1) = False := by have h := c61b2; simp only [ByteArray.size_append] at h; exact h
                                by_cases c62 : 1 < (x5_1.length : Int)
                                · rw [if_pos c62] at H
                                  have c62b0 : decide (1 < (x5_1.length : Int)) = true := decide_eq_true c62
                                  have c62b1 : decide (1 < x5_1.length) = true := decide_eq_true (by omega)
                                  clear c62
                                  by_cases c63 : (((⟨#[40]⟩ : ByteArray) ++ (rdOf ByteArray.empty x5_1 0)) ++ (⟨#[38]⟩ : ByteArray)).size + (rdOf ByteArray.empty x5_1 1).size ≤ 9223372036854775807
                                  · rw [if_pos c63] at H
                                    have c63b0 := eq_true c63
                                    have c63b1 : decide ((((⟨#[40]⟩ : ByteArray) ++ (rdOf ByteArray.empty x5_1 0)) ++ (⟨#[38]⟩ : ByteArray)).size + (rdOf ByteArray.empty x5_1 1).size ≤ 9223372036854775807) = true := decide_eq_true c63
                                    try have c63b2 : (9223372036854775807 < (((⟨#[40]⟩ : ByteArray) ++ (rdOf ByteArray.empty x5_1 0)) ++ (⟨#[38]⟩ : ByteArray)).size + (rdOf ByteArray.empty x5_1 1).size) = False := eq_false (Nat.not_lt.2 c63)
                                    try have c63s : (9223372036854775807 < 1 + (rdOf ByteArray.empty x5_1 0).size + 1 + (rdOf ByteArray.empty x5_1 1).size) = False := by have h := c63b2; simp only [ByteArray.size_append] at h; exact h
                                    by_cases c64 : ((((⟨#[40]⟩ : ByteArray) ++ (rdOf ByteArray.empty x5_1 0)) ++ (⟨#[38]⟩ : ByteArray)) ++ (rdOf ByteArray.empty x5_1 1)).size + 1 ≤ 9223372036854775807
                                    · rw [if_pos c64] at H
                                      have c64b0 := eq_true c64
                                      have c64b1 : decide (((((⟨#[40]⟩ : ByteArray) ++ (rdOf ByteArray.empty x5_1 0)) ++ (⟨#[38]⟩ : ByteArray)) ++ (rdOf ByteArray.empty x5_1 1)).size + 1 ≤ 9223372036854775807) = true := decide_eq_true c64
                                      try have c64b2 : (9223372036854775807 < ((((⟨#[40]⟩ : ByteArray) ++ (rdOf ByteArray.empty x5_1 0)) ++ (⟨#[38]⟩ : ByteArray)) ++ (rdOf ByteArray.empty x5_1 1)).size + 1) = False := eq_false (Nat.not_lt.2 c64)
                                      try have c64s : (9223372036854775807 < 1 + (rdOf ByteArray.empty x5_1 0).size + 1 + (rdOf ByteArray.empty x5_1 1).size + 1) = False := by have h := c64b2; simp only [ByteArray.size_append] at h; exact h
                                      obtain rfl := Option.some.inj H
                                      have hcz65_0 : wr.cell? ⟨gb132, 0, none⟩ = some (.int .i64 a1_0) := (blk_cell BK132.out 0).trans rfl
                                      have hcz65_1 : wr.cell? ⟨gb132, 1, none⟩ = some (.int .i64 a1_1) := (blk_cell BK132.out 1).trans rfl
                                      have hcz65_2 : wr.cell? ⟨gb132, 2, none⟩ = some (.int .i64 a1_2) := (blk_cell BK132.out 2).trans rfl
                                      have hcz65_3 : wr.cell? ⟨gb132, 3, none⟩ = some (.int .i64 a1_3) := (blk_cell BK132.out 3).trans rfl
                                      have hcz65_4 : wr.cell? ⟨gb132, 4, none⟩ = some (.slice A1_4 l1_4.length c1_4) := (blk_cell BK132.out 4).trans rfl
                                      have hfz65_0 := blk_frozen BK132.out 0
                                      have hfz65_1 := blk_frozen BK132.out 1
                                      have hfz65_2 := blk_frozen BK132.out 2
                                      have hfz65_3 := blk_frozen BK132.out 3
                                      have hfz65_4 := blk_frozen BK132.out 4
                                      obtain ⟨Ao66, co66, eo66⟩ := Kd.R_slice HO_5.out
                                      subst eo66
                                      have p153 : 0 ≤ (0 : Int) := (by omega)
                                      have q153 : 0 < (x5_1.length : Int) := of_decide_eq_true (by first | (with_reducible assumption) | assumption)
                                      obtain ⟨ad153, e153, hx153_0⟩ := Kd.at_string (Kd.R_reads' HO_5.out).2.2 0 p153 q153
                                      cases e153
                                      have qi153 : (0 < x5_1.length) = True := eq_true (by omega)
                                      (try rw [show ((0 : Int)).toNat = 0 from rfl] at hx153_0)
                                      (try rw [Addr.add_zero'] at hx153_0)
                                      replace p153 := eq_true p153
                                      replace q153 := eq_true q153
                                      have p154 : 0 ≤ (1 : Int) := (by omega)
                                      have q154 : 1 < (x5_1.length : Int) := of_decide_eq_true (by first | (with_reducible assumption) | assumption)
                                      obtain ⟨ad154, e154, hx154_0⟩ := Kd.at_string (Kd.R_reads' HO_5.out).2.2 1 p154 q154
                                      obtain rfl : ad153 = ad154 := (by injection e154)
                                      (try simp only [show (1 : Int).toNat = 1 from rfl, Nat.reduceMul, Nat.reduceEqDiff, Go.Addr.add, ↓reduceIte] at hx154_0)
                                      have qi154 : (1 < x5_1.length) = True := eq_true (by omega)
                                      (try rw [show ((1 : Int)).toNat = 1 from rfl] at hx154_0)
                                      replace p154 := eq_true p154
                                      replace q154 := eq_true q154
                                      go_wp2
                                      repeat (go_quiet (fail); try go_wp2)
                                      go_ret
                                      exact ⟨by first | rfl | (simp [errW_none, errW_some] <;> rfl) | (simp [*, errW_none, errW_some] <;> rfl), by repeat (first | (with_reducible first | exact HB.out | apply below_alloc | apply pw_below_drewN | apply below_drew1 | refine below_set ?_ GE132.out) | exact HB.out)⟩
                                    · rw [if_neg c64] at H
                                      exact absurd H (by simp)
                                  · rw [if_neg c63] at H
                                    exact absurd H (by simp)
                                · rw [if_neg c62] at H
                                  exact absurd H (by simp)
                              · rw [if_neg c61] at H
                                exact absurd H (by simp)
                            · rw [if_neg c60] at H
                              exact absurd H (by simp)
                          · rw [if_neg c59] at H
                            exact absurd H (by simp)
                        · rw [if_neg c58] at H
                          have c58b0 : (a1_0 == 9) = false := beq_eq_false_iff_ne.mpr c58
                          have c58b1 : (a1_0 != 9) = true := bne_iff_ne.mpr c58
                          by_cases c67 : a1_0 = 10
                          · rw [if_pos c67] at H
                            have c67b0 : (a1_0 == 10) = true := beq_iff_eq.mpr c67
                            have c67b1 : (a1_0 != 10) = false := bne_eq_false_iff_eq.mpr c67
                            clear c67
                            by_cases c68 : 0 < (x5_1.length : Int)
                            · rw [if_pos c68] at H
                              have c68b0 : decide (0 < (x5_1.length : Int)) = true := decide_eq_true c68
                              have c68b1 : decide (0 < x5_1.length) = true := decide_eq_true (by omega)
                              clear c68
                              by_cases c69 : 1 + (rdOf ByteArray.empty x5_1 0).size ≤ 9223372036854775807
                              · rw [if_pos c69] at H
                                have c69b0 := eq_true c69
                                have c69b1 : decide (1 + (rdOf ByteArray.empty x5_1 0).size ≤ 9223372036854775807) = true := decide_eq_true c69
                                try have c69b2 : (9223372036854775807 < 1 + (rdOf ByteArray.empty x5_1 0).size) = False := eq_false (Nat.not_lt.2 c69)
                                by_cases c70 : ((⟨#[40]⟩ : ByteArray) ++ (rdOf ByteArray.empty x5_1 0)).size + 1 ≤ 9223372036854775807
                                · rw [if_pos c70] at H
                                  have c70b0 := eq_true c70
                                  have c70b1 : decide (((⟨#[40]⟩ : ByteArray) ++ (rdOf ByteArray.empty x5_1 0)).size + 1 ≤ 9223372036854775807) = true := decide_eq_true c70
                                  try have c70b2 : (9223372036854775807 < ((⟨#[40]⟩ : ByteArray) ++ (rdOf ByteArray.empty x5_1 0)).size + 1) = False := eq_false (Nat.not_lt.2 c70)
                                  try have c70s : (9223372036854775807 < 1 + (rdOf ByteArray.empty x5_1 0).size + 1) = False := by have h := c70b2; simp only [ByteArray.size_append] at h; exact h
                                  by_cases c71 : 1 < (x5_1.length : Int)
                                  · rw [if_pos c71] at H
                                    have c71b0 : decide (1 < (x5_1.length : Int)) = true := decide_eq_true c71
                                    have c71b1 : decide (1 < x5_1.length) = true := decide_eq_true (by omega)
                                    clear c71
                                    by_cases c72 : (((⟨#[40]⟩ : ByteArray) ++ (rdOf ByteArray.empty x5_1 0)) ++ (⟨#[124]⟩ : ByteArray)).size + (rdOf ByteArray.empty x5_1 1).size ≤ 9223372036854775807
                                    · rw [if_pos c72] at H
                                      have c72b0 := eq_true c72
                                      have c72b1 : decide ((((⟨#[40]⟩ : ByteArray) ++ (rdOf ByteArray.empty x5_1 0)) ++ (⟨#[124]⟩ : ByteArray)).size + (rdOf ByteArray.empty x5_1 1).size ≤ 9223372036854775807) = true := decide_eq_true c72
                                      try have c72b2 : (9223372036854775807 < (((⟨#[40]⟩ : ByteArray) ++ (rdOf ByteArray.empty x5_1 0)) ++ (⟨#[124]⟩ : ByteArray)).size + (rdOf ByteArray.empty x5_1 1).size) = False := eq_false (Nat.not_lt.2 c72)
                                      try have c72s : (9223372036854775807 < 1 + (rdOf ByteArray.empty x5_1 0).size + 1 + (rdOf ByteArray.empty x5_1 1).size) = False := by have h := c72b2; simp only [ByteArray.size_append] at h; exact h
                                      by_cases c73 : ((((⟨#[40]⟩ : ByteArray) ++ (rdOf ByteArray.empty x5_1 0)) ++ (⟨#[124]⟩ : ByteArray)) ++ (rdOf ByteArray.empty x5_1 1)).size + 1 ≤ 9223372036854775807
                                      · rw [if_pos c73] at H
                                        have c73b0 := eq_true c73
                                        have c73b1 : decide (((((⟨#[40]⟩ : ByteArray) ++ (rdOf ByteArray.empty x5_1 0)) ++ (⟨#[124]⟩ : ByteArray)) ++ (rdOf ByteArray.empty x5_1 1)).size + 1 ≤ 9223372036854775807) = true := decide_eq_true c73
                                        try have c73b2 : (9223372036854775807 < ((((⟨#[40]⟩ : ByteArray) ++ (rdOf ByteArray.empty x5_1 0)) ++ (⟨#[124]⟩ : ByteArray)) ++ (rdOf ByteArray.empty x5_1 1)).size + 1) = False := eq_false (Nat.not_lt.2 c73)
                                        try have c73s : (9223372036854775807 < 1 + (rdOf ByteArray.empty x5_1 0).size + 1 + (rdOf ByteArray.empty x5_1 1).size + 1) = False := by have h := c73b2; simp only [ByteArray.size_append] at h; exact h
                                        obtain rfl := Option.some.inj H
                                        have hcz74_0 : wr.cell? ⟨gb132, 0, none⟩ = some (.int .i64 a1_0) := (blk_cell BK132.out 0).trans rfl
                                        have hcz74_1 : wr.cell? ⟨gb132, 1, none⟩ = some (.int .i64 a1_1) := (blk_cell BK132.out 1).trans rfl
                                        have hcz74_2 : wr.cell? ⟨gb132, 2, none⟩ = some (.int .i64 a1_2) := (blk_cell BK132.out 2).trans rfl
                                        have hcz74_3 : wr.cell? ⟨gb132, 3, none⟩ = some (.int .i64 a1_3) := (blk_cell BK132.out 3).trans rfl
                                        have hcz74_4 : wr.cell? ⟨gb132, 4, none⟩ = some (.slice A1_4 l1_4.length c1_4) := (blk_cell BK132.out 4).trans rfl
                                        have hfz74_0 := blk_frozen BK132.out 0
                                        have hfz74_1 := blk_frozen BK132.out 1
                                        have hfz74_2 := blk_frozen BK132.out 2
                                        have hfz74_3 := blk_frozen BK132.out 3
                                        have hfz74_4 := blk_frozen BK132.out 4
                                        obtain ⟨Ao75, co75, eo75⟩ := Kd.R_slice HO_5.out
                                        subst eo75
                                        have p155 : 0 ≤ (0 : Int) := (by omega)
                                        have q155 : 0 < (x5_1.length : Int) := of_decide_eq_true (by first | (with_reducible assumption) | assumption)
                                        obtain ⟨ad155, e155, hx155_0⟩ := Kd.at_string (Kd.R_reads' HO_5.out).2.2 0 p155 q155
                                        cases e155
                                        have qi155 : (0 < x5_1.length) = True := eq_true (by omega)
                                        (try rw [show ((0 : Int)).toNat = 0 from rfl] at hx155_0)
                                        (try rw [Addr.add_zero'] at hx155_0)
                                        replace p155 := eq_true p155
                                        replace q155 := eq_true q155
                                        have p156 : 0 ≤ (1 : Int) := (by omega)
                                        have q156 : 1 < (x5_1.length : Int) := of_decide_eq_true (by first | (with_reducible assumption) | assumption)
                                        obtain ⟨ad156, e156, hx156_0⟩ := Kd.at_string (Kd.R_reads' HO_5.out).2.2 1 p156 q156
                                        obtain rfl : ad155 = ad156 := (by injection e156)
                                        (try simp only [show (1 : Int).toNat = 1 from rfl, Nat.reduceMul, Nat.reduceEqDiff, Go.Addr.add, ↓reduceIte] at hx156_0)
                                        have qi156 : (1 < x5_1.length) = True := eq_true (by omega)
                                        (try rw [show ((1 : Int)).toNat = 1 from rfl] at hx156_0)
                                        replace p156 := eq_true p156
                                        replace q156 := eq_true q156
                                        go_wp2
                                        repeat (go_quiet (fail); try go_wp2)
                                        go_ret
                                        exact ⟨by first | rfl | (simp [errW_none, errW_some] <;> rfl) | (simp [*, errW_none, errW_some] <;> rfl), by repeat (first | (with_reducible first | exact HB.out | apply below_alloc | apply pw_below_drewN | apply below_drew1 | refine below_set ?_ GE132.out) | exact HB.out)⟩
                                      · rw [if_neg c73] at H
                                        exact absurd H (by simp)
                                    · rw [if_neg c72] at H
                                      exact absurd H (by simp)
                                  · rw [if_neg c71] at H
                                    exact absurd H (by simp)
                                · rw [if_neg c70] at H
                                  exact absurd H (by simp)
                              · rw [if_neg c69] at H
                                exact absurd H (by simp)
                            · rw [if_neg c68] at H
                              exact absurd H (by simp)
                          · rw [if_neg c67] at H
                            have c67b0 : (a1_0 == 10) = false := beq_eq_false_iff_ne.mpr c67
                            have c67b1 : (a1_0 != 10) = true := bne_iff_ne.mpr c67
                            by_cases c76 : a1_0 = 11
                            · rw [if_pos c76] at H
                              have c76b0 : (a1_0 == 11) = true := beq_iff_eq.mpr c76
                              have c76b1 : (a1_0 != 11) = false := bne_eq_false_iff_eq.mpr c76
                              clear c76
                              replace H := Option.bind_eq_some_iff.mp H
                              obtain ⟨t157, A770, H⟩ := H
                              replace H : (if 5 + t157.size ≤ 9223372036854775807 then (if ((⟨#[115, 111, 109, 101, 32]⟩ : ByteArray) ++ t157).size + 1 ≤ 9223372036854775807 then (if 0 < (x5_1.length : Int) then (if (((⟨#[115, 111, 109, 101, 32]⟩ : ByteArray) ++ t157) ++ (⟨#[46]⟩ : ByteArray)).size + (rdOf ByteArray.empty x5_1 0).size ≤ 9223372036854775807 then (some ((((⟨#[115, 111, 109, 101, 32]⟩ : ByteArray) ++ t157) ++ (⟨#[46]⟩ : ByteArray)) ++ (rdOf ByteArray.empty x5_1 0))) else (none)) else (none)) else (none)) else (none)) = some r := H
                              have A77 := Aside0.mk A770
                              clear A770
                              by_cases c78 : 5 + t157.size ≤ 9223372036854775807
                              · rw [if_pos c78] at H
                                have c78b0 := eq_true c78
                                have c78b1 : decide (5 + t157.size ≤ 9223372036854775807) = true := decide_eq_true c78
                                try have c78b2 : (9223372036854775807 < 5 + t157.size) = False := eq_false (Nat.not_lt.2 c78)
                                by_cases c79 : ((⟨#[115, 111, 109, 101, 32]⟩ : ByteArray) ++ t157).size + 1 ≤ 9223372036854775807
                                · rw [if_pos c79] at H
                                  have c79b0 := eq_true c79
                                  have c79b1 : decide (((⟨#[115, 111, 109, 101, 32]⟩ : ByteArray) ++ t157).size + 1 ≤ 9223372036854775807) = true := decide_eq_true c79
                                  try have c79b2 : (9223372036854775807 < ((⟨#[115, 111, 109, 101, 32]⟩ : ByteArray) ++ t157).size + 1) = False := eq_false (Nat.not_lt.2 c79)
                                  try have c79s : (9223372036854775807 < 5 + t157.size + 1) = False := by have h := c79b2; simp only [ByteArray.size_append] at h; exact h
                                  by_cases c80 : 0 < (x5_1.length : Int)
                                  · rw [if_pos c80] at H
                                    have c80b0 : decide (0 < (x5_1.length : Int)) = true := decide_eq_true c80
                                    have c80b1 : decide (0 < x5_1.length) = true := decide_eq_true (by omega)
                                    clear c80
                                    by_cases c81 : (((⟨#[115, 111, 109, 101, 32]⟩ : ByteArray) ++ t157) ++ (⟨#[46]⟩ : ByteArray)).size + (rdOf ByteArray.empty x5_1 0).size ≤ 9223372036854775807
                                    · rw [if_pos c81] at H
                                      have c81b0 := eq_true c81
                                      have c81b1 : decide ((((⟨#[115, 111, 109, 101, 32]⟩ : ByteArray) ++ t157) ++ (⟨#[46]⟩ : ByteArray)).size + (rdOf ByteArray.empty x5_1 0).size ≤ 9223372036854775807) = true := decide_eq_true c81
                                      try have c81b2 : (9223372036854775807 < (((⟨#[115, 111, 109, 101, 32]⟩ : ByteArray) ++ t157) ++ (⟨#[46]⟩ : ByteArray)).size + (rdOf ByteArray.empty x5_1 0).size) = False := eq_false (Nat.not_lt.2 c81)
                                      try have c81s : (9223372036854775807 < 5 + t157.size + 1 + (rdOf ByteArray.empty x5_1 0).size) = False := by have h := c81b2; simp only [ByteArray.size_append] at h; exact h
                                      obtain rfl := Option.some.inj H
                                      have hcz82_0 : wr.cell? ⟨gb132, 0, none⟩ = some (.int .i64 a1_0) := (blk_cell BK132.out 0).trans rfl
                                      have hcz82_1 : wr.cell? ⟨gb132, 1, none⟩ = some (.int .i64 a1_1) := (blk_cell BK132.out 1).trans rfl
                                      have hcz82_2 : wr.cell? ⟨gb132, 2, none⟩ = some (.int .i64 a1_2) := (blk_cell BK132.out 2).trans rfl
                                      have hcz82_3 : wr.cell? ⟨gb132, 3, none⟩ = some (.int .i64 a1_3) := (blk_cell BK132.out 3).trans rfl
                                      have hcz82_4 : wr.cell? ⟨gb132, 4, none⟩ = some (.slice A1_4 l1_4.length c1_4) := (blk_cell BK132.out 4).trans rfl
                                      have hfz82_0 := blk_frozen BK132.out 0
                                      have hfz82_1 := blk_frozen BK132.out 1
                                      have hfz82_2 := blk_frozen BK132.out 2
                                      have hfz82_3 := blk_frozen BK132.out 3
                                      have hfz82_4 := blk_frozen BK132.out 4
                                      go_wp2_with (first | (go_at_call 80; (with_reducible refine (spec_l11Logic.calls a1_2 t157 _ A77.out).mono ?_); rintro e w' ⟨rfl, ⟨nd, rfl⟩⟩; (try first | exact ⟨rfl, _, World.drewN_drewN _ _ _⟩ | exact ⟨rfl, _, Eq.trans (World.drewN_drewN _ _ _) (congrArg (World.drewN _) (Nat.add_assoc _ _ _))⟩); obtain ⟨Ao83, co83, eo83⟩ := Kd.R_slice HO_5.out; subst eo83; have p158 : 0 ≤ (0 : Int) := (by omega); have q158 : 0 < (x5_1.length : Int) := of_decide_eq_true (by first | (with_reducible assumption) | assumption); obtain ⟨ad158, e158, hx158_0⟩ := Kd.at_string (Kd.R_reads' HO_5.out).2.2 0 p158 q158; cases e158; have qi158 : (0 < x5_1.length) = True := eq_true (by omega); (try rw [show ((0 : Int)).toNat = 0 from rfl] at hx158_0); (try rw [Addr.add_zero'] at hx158_0); replace p158 := eq_true p158; replace q158 := eq_true q158))
                                      repeat (go_quiet (first | (go_at_call 80; (with_reducible refine (spec_l11Logic.calls a1_2 t157 _ A77.out).mono ?_); rintro e w' ⟨rfl, ⟨nd, rfl⟩⟩; (try first | exact ⟨rfl, _, World.drewN_drewN _ _ _⟩ | exact ⟨rfl, _, Eq.trans (World.drewN_drewN _ _ _) (congrArg (World.drewN _) (Nat.add_assoc _ _ _))⟩); obtain ⟨Ao83, co83, eo83⟩ := Kd.R_slice HO_5.out; subst eo83; have p158 : 0 ≤ (0 : Int) := (by omega); have q158 : 0 < (x5_1.length : Int) := of_decide_eq_true (by first | (with_reducible assumption) | assumption); obtain ⟨ad158, e158, hx158_0⟩ := Kd.at_string (Kd.R_reads' HO_5.out).2.2 0 p158 q158; cases e158; have qi158 : (0 < x5_1.length) = True := eq_true (by omega); (try rw [show ((0 : Int)).toNat = 0 from rfl] at hx158_0); (try rw [Addr.add_zero'] at hx158_0); replace p158 := eq_true p158; replace q158 := eq_true q158)); try go_wp2_with (first | (go_at_call 80; (with_reducible refine (spec_l11Logic.calls a1_2 t157 _ A77.out).mono ?_); rintro e w' ⟨rfl, ⟨nd, rfl⟩⟩; (try first | exact ⟨rfl, _, World.drewN_drewN _ _ _⟩ | exact ⟨rfl, _, Eq.trans (World.drewN_drewN _ _ _) (congrArg (World.drewN _) (Nat.add_assoc _ _ _))⟩); obtain ⟨Ao83, co83, eo83⟩ := Kd.R_slice HO_5.out; subst eo83; have p158 : 0 ≤ (0 : Int) := (by omega); have q158 : 0 < (x5_1.length : Int) := of_decide_eq_true (by first | (with_reducible assumption) | assumption); obtain ⟨ad158, e158, hx158_0⟩ := Kd.at_string (Kd.R_reads' HO_5.out).2.2 0 p158 q158; cases e158; have qi158 : (0 < x5_1.length) = True := eq_true (by omega); (try rw [show ((0 : Int)).toNat = 0 from rfl] at hx158_0); (try rw [Addr.add_zero'] at hx158_0); replace p158 := eq_true p158; replace q158 := eq_true q158)))
                                      go_ret
                                      exact ⟨by first | rfl | (simp [errW_none, errW_some] <;> rfl) | (simp [*, errW_none, errW_some] <;> rfl), by repeat (first | (with_reducible first | exact HB.out | apply below_alloc | apply pw_below_drewN | apply below_drew1 | refine below_set ?_ GE132.out) | exact HB.out)⟩
                                    · rw [if_neg c81] at H
                                      exact absurd H (by simp)
                                  · rw [if_neg c80] at H
                                    exact absurd H (by simp)
                                · rw [if_neg c79] at H
                                  exact absurd H (by simp)
                              · rw [if_neg c78] at H
                                exact absurd H (by simp)
                            · rw [if_neg c76] at H
                              have c76b0 : (a1_0 == 11) = false := beq_eq_false_iff_ne.mpr c76
                              have c76b1 : (a1_0 != 11) = true := bne_iff_ne.mpr c76
                              replace H := Option.bind_eq_some_iff.mp H
                              obtain ⟨t159, A840, H⟩ := H
                              replace H : (if 4 + t159.size ≤ 9223372036854775807 then (if ((⟨#[97, 108, 108, 32]⟩ : ByteArray) ++ t159).size + 1 ≤ 9223372036854775807 then (if 0 < (x5_1.length : Int) then (if (((⟨#[97, 108, 108, 32]⟩ : ByteArray) ++ t159) ++ (⟨#[46]⟩ : ByteArray)).size + (rdOf ByteArray.empty x5_1 0).size ≤ 9223372036854775807 then (some ((((⟨#[97, 108, 108, 32]⟩ : ByteArray) ++ t159) ++ (⟨#[46]⟩ : ByteArray)) ++ (rdOf ByteArray.empty x5_1 0))) else (none)) else (none)) else (none)) else (none)) = some r := H
                              have A84 := Aside0.mk A840
                              clear A840
                              by_cases c85 : 4 + t159.size ≤ 9223372036854775807
                              · rw [if_pos c85] at H
                                have c85b0 := eq_true c85
                                have c85b1 : decide (4 + t159.size ≤ 9223372036854775807) = true := decide_eq_true c85
                                try have c85b2 : (9223372036854775807 < 4 + t159.size) = False := eq_false (Nat.not_lt.2 c85)
                                by_cases c86 : ((⟨#[97, 108, 108, 32]⟩ : ByteArray) ++ t159).size + 1 ≤ 9223372036854775807
                                · rw [if_pos c86] at H
                                  have c86b0 := eq_true c86
                                  have c86b1 : decide (((⟨#[97, 108, 108, 32]⟩ : ByteArray) ++ t159).size + 1 ≤ 9223372036854775807) = true := decide_eq_true c86
                                  try have c86b2 : (9223372036854775807 < ((⟨#[97, 108, 108, 32]⟩ : ByteArray) ++ t159).size + 1) = False := eq_false (Nat.not_lt.2 c86)
                                  try have c86s : (9223372036854775807 < 4 + t159.size + 1) = False := by have h := c86b2; simp only [ByteArray.size_append] at h; exact h
                                  by_cases c87 : 0 < (x5_1.length : Int)
                                  · rw [if_pos c87] at H
                                    have c87b0 : decide (0 < (x5_1.length : Int)) = true := decide_eq_true c87
                                    have c87b1 : decide (0 < x5_1.length) = true := decide_eq_true (by omega)
                                    clear c87
                                    by_cases c88 : (((⟨#[97, 108, 108, 32]⟩ : ByteArray) ++ t159) ++ (⟨#[46]⟩ : ByteArray)).size + (rdOf ByteArray.empty x5_1 0).size ≤ 9223372036854775807
                                    · rw [if_pos c88] at H
                                      have c88b0 := eq_true c88
                                      have c88b1 : decide ((((⟨#[97, 108, 108, 32]⟩ : ByteArray) ++ t159) ++ (⟨#[46]⟩ : ByteArray)).size + (rdOf ByteArray.empty x5_1 0).size ≤ 9223372036854775807) = true := decide_eq_true c88
                                      try have c88b2 : (9223372036854775807 < (((⟨#[97, 108, 108, 32]⟩ : ByteArray) ++ t159) ++ (⟨#[46]⟩ : ByteArray)).size + (rdOf ByteArray.empty x5_1 0).size) = False := eq_false (Nat.not_lt.2 c88)
                                      try have c88s : (9223372036854775807 < 4 + t159.size + 1 + (rdOf ByteArray.empty x5_1 0).size) = False := by have h := c88b2; simp only [ByteArray.size_append] at h; exact h
                                      obtain rfl := Option.some.inj H
                                      have hcz89_0 : wr.cell? ⟨gb132, 0, none⟩ = some (.int .i64 a1_0) := (blk_cell BK132.out 0).trans rfl
                                      have hcz89_1 : wr.cell? ⟨gb132, 1, none⟩ = some (.int .i64 a1_1) := (blk_cell BK132.out 1).trans rfl
                                      have hcz89_2 : wr.cell? ⟨gb132, 2, none⟩ = some (.int .i64 a1_2) := (blk_cell BK132.out 2).trans rfl
                                      have hcz89_3 : wr.cell? ⟨gb132, 3, none⟩ = some (.int .i64 a1_3) := (blk_cell BK132.out 3).trans rfl
                                      have hcz89_4 : wr.cell? ⟨gb132, 4, none⟩ = some (.slice A1_4 l1_4.length c1_4) := (blk_cell BK132.out 4).trans rfl
                                      have hfz89_0 := blk_frozen BK132.out 0
                                      have hfz89_1 := blk_frozen BK132.out 1
                                      have hfz89_2 := blk_frozen BK132.out 2
                                      have hfz89_3 := blk_frozen BK132.out 3
                                      have hfz89_4 := blk_frozen BK132.out 4
                                      go_wp2_with (first | (go_at_call 80; (with_reducible refine (spec_l11Logic.calls a1_2 t159 _ A84.out).mono ?_); rintro e w' ⟨rfl, ⟨nd, rfl⟩⟩; (try first | exact ⟨rfl, _, World.drewN_drewN _ _ _⟩ | exact ⟨rfl, _, Eq.trans (World.drewN_drewN _ _ _) (congrArg (World.drewN _) (Nat.add_assoc _ _ _))⟩); obtain ⟨Ao90, co90, eo90⟩ := Kd.R_slice HO_5.out; subst eo90; have p160 : 0 ≤ (0 : Int) := (by omega); have q160 : 0 < (x5_1.length : Int) := of_decide_eq_true (by first | (with_reducible assumption) | assumption); obtain ⟨ad160, e160, hx160_0⟩ := Kd.at_string (Kd.R_reads' HO_5.out).2.2 0 p160 q160; cases e160; have qi160 : (0 < x5_1.length) = True := eq_true (by omega); (try rw [show ((0 : Int)).toNat = 0 from rfl] at hx160_0); (try rw [Addr.add_zero'] at hx160_0); replace p160 := eq_true p160; replace q160 := eq_true q160))
                                      repeat (go_quiet (first | (go_at_call 80; (with_reducible refine (spec_l11Logic.calls a1_2 t159 _ A84.out).mono ?_); rintro e w' ⟨rfl, ⟨nd, rfl⟩⟩; (try first | exact ⟨rfl, _, World.drewN_drewN _ _ _⟩ | exact ⟨rfl, _, Eq.trans (World.drewN_drewN _ _ _) (congrArg (World.drewN _) (Nat.add_assoc _ _ _))⟩); obtain ⟨Ao90, co90, eo90⟩ := Kd.R_slice HO_5.out; subst eo90; have p160 : 0 ≤ (0 : Int) := (by omega); have q160 : 0 < (x5_1.length : Int) := of_decide_eq_true (by first | (with_reducible assumption) | assumption); obtain ⟨ad160, e160, hx160_0⟩ := Kd.at_string (Kd.R_reads' HO_5.out).2.2 0 p160 q160; cases e160; have qi160 : (0 < x5_1.length) = True := eq_true (by omega); (try rw [show ((0 : Int)).toNat = 0 from rfl] at hx160_0); (try rw [Addr.add_zero'] at hx160_0); replace p160 := eq_true p160; replace q160 := eq_true q160)); try go_wp2_with (first | (go_at_call 80; (with_reducible refine (spec_l11Logic.calls a1_2 t159 _ A84.out).mono ?_); rintro e w' ⟨rfl, ⟨nd, rfl⟩⟩; (try first | exact ⟨rfl, _, World.drewN_drewN _ _ _⟩ | exact ⟨rfl, _, Eq.trans (World.drewN_drewN _ _ _) (congrArg (World.drewN _) (Nat.add_assoc _ _ _))⟩); obtain ⟨Ao90, co90, eo90⟩ := Kd.R_slice HO_5.out; subst eo90; have p160 : 0 ≤ (0 : Int) := (by omega); have q160 : 0 < (x5_1.length : Int) := of_decide_eq_true (by first | (with_reducible assumption) | assumption); obtain ⟨ad160, e160, hx160_0⟩ := Kd.at_string (Kd.R_reads' HO_5.out).2.2 0 p160 q160; cases e160; have qi160 : (0 < x5_1.length) = True := eq_true (by omega); (try rw [show ((0 : Int)).toNat = 0 from rfl] at hx160_0); (try rw [Addr.add_zero'] at hx160_0); replace p160 := eq_true p160; replace q160 := eq_true q160)))
                                      go_ret
                                      exact ⟨by first | rfl | (simp [errW_none, errW_some] <;> rfl) | (simp [*, errW_none, errW_some] <;> rfl), by repeat (first | (with_reducible first | exact HB.out | apply below_alloc | apply pw_below_drewN | apply below_drew1 | refine below_set ?_ GE132.out) | exact HB.out)⟩
                                    · rw [if_neg c88] at H
                                      exact absurd H (by simp)
                                  · rw [if_neg c87] at H
                                    exact absurd H (by simp)
                                · rw [if_neg c86] at H
                                  exact absurd H (by simp)
                              · rw [if_neg c85] at H
                                exact absurd H (by simp)

/-! ### spec_FormulaText: function 10 -/
def spec_FormulaText.f (k : Nat) (l0 : List ByteArray) (a1_0 : Int) (a1_1 : Int) (a1_2 : Int) (a1_3 : Int) (l1_4 : List (S32)) : Option (ByteArray) := (spec_AreVars.f k l0).bind fun t162 => (if t162 = true then ((spec_IsFormula.f k (l0.length : Int) a1_0 a1_1 a1_2 a1_3 l1_4).bind fun t163 => (if t163 = true then ((spec_l11Text.f k l0 a1_0 a1_1 a1_2 a1_3 l1_4).bind fun t164 => (some t164)) else (some (⟨#[]⟩ : ByteArray)))) else (some (⟨#[]⟩ : ByteArray)))
theorem spec_FormulaText.mono : ∀ a0 a1 a2 a3 a4 a5 k, LeO (spec_FormulaText.f k a0 a1 a2 a3 a4 a5) (spec_FormulaText.f (k + 1) a0 a1 a2 a3 a4 a5) := by
  intro a0 a1 a2 a3 a4 a5 k
  unfold spec_FormulaText.f
  repeat' first
      | (with_reducible exact spec_AreVars.mono _ _)
      | (with_reducible exact spec_IsFormula.mono _ _ _ _ _ _ _)
      | (with_reducible exact spec_l11Text.mono _ _ _ _ _ _ _)
      | (with_reducible exact LeO.refl _)
      | (with_reducible exact LeO.none _)
      | (with_reducible refine LeO.ite ?_ ?_)
      | (with_reducible refine LeO.bind ?_ (fun _ => ?_))
      | exact spec_AreVars.mono _ _
      | exact spec_IsFormula.mono _ _ _ _ _ _ _
      | exact spec_l11Text.mono _ _ _ _ _ _ _
      | exact LeO.none _
      | refine LeO.ite ?_ ?_
      | refine LeO.bind ?_ (fun _ => ?_)
set_option maxHeartbeats 8000000 in
set_option maxRecDepth 100000 in
theorem spec_FormulaText.calls (k : Nat) (A0 : Option Addr) (c0 : Nat) (l0 : List ByteArray) (a1_0 : Int) (a1_1 : Int) (a1_2 : Int) (a1_3 : Int) (A1_4 : Option Addr) (c1_4 : Nat) (l1_4 : List (S32)) (r : ByteArray) (w : World) (hr0 : Kd.C Kd.string w A0 l0.length l0) (hc0 : l0.length ≤ c0) (hr1_4 : Kd.C k32 w A1_4 l1_4.length l1_4) (hc1_4 : l1_4.length ≤ c1_4) (h : spec_FormulaText.f k l0 a1_0 a1_1 a1_2 a1_3 l1_4 = some r) :
    Calls Try.prog 10 #[.slice A0 l0.length c0, .agg #[.int .i64 a1_0, .int .i64 a1_1, .int .i64 a1_2, .int .i64 a1_3, .slice A1_4 l1_4.length c1_4]] w fun e w' => e = .returned (.string r) ∧ Below w.heap.size w w' := by
  have hu32 := Try.underlying32
  have HR0 := Aside0.mk hr0
  have HC0 := Aside0.mk hc0
  clear hr0 hc0
  have HR1_4 := Aside0.mk hr1_4
  have HC1_4 := Aside0.mk hc1_4
  clear hr1_4 hc1_4
  have HB := Aside0.mk (Below.refl w.heap.size w)
  have H : ((spec_AreVars.f k l0).bind fun t162 => (if t162 = true then ((spec_IsFormula.f k (l0.length : Int) a1_0 a1_1 a1_2 a1_3 l1_4).bind fun t163 => (if t163 = true then ((spec_l11Text.f k l0 a1_0 a1_1 a1_2 a1_3 l1_4).bind fun t164 => (some t164)) else (some (⟨#[]⟩ : ByteArray)))) else (some (⟨#[]⟩ : ByteArray)))) = some r := h
  clear h
  replace H := Option.bind_eq_some_iff.mp H
  obtain ⟨t162, A30, H⟩ := H
  replace H : (if t162 = true then ((spec_IsFormula.f k (l0.length : Int) a1_0 a1_1 a1_2 a1_3 l1_4).bind fun t163 => (if t163 = true then ((spec_l11Text.f k l0 a1_0 a1_1 a1_2 a1_3 l1_4).bind fun t164 => (some t164)) else (some (⟨#[]⟩ : ByteArray)))) else (some (⟨#[]⟩ : ByteArray))) = some r := H
  have A3 := Aside0.mk A30
  clear A30
  by_cases c4 : t162 = true
  · subst c4
    have H1 : ((spec_IsFormula.f k (l0.length : Int) a1_0 a1_1 a1_2 a1_3 l1_4).bind fun t163 => (if t163 = true then ((spec_l11Text.f k l0 a1_0 a1_1 a1_2 a1_3 l1_4).bind fun t164 => (some t164)) else (some (⟨#[]⟩ : ByteArray)))) = some r := by rw [if_pos rfl] at H; exact H
    clear H
    have H := H1
    clear H1
    replace H := Option.bind_eq_some_iff.mp H
    obtain ⟨t163, A50, H⟩ := H
    replace H : (if t163 = true then ((spec_l11Text.f k l0 a1_0 a1_1 a1_2 a1_3 l1_4).bind fun t164 => (some t164)) else (some (⟨#[]⟩ : ByteArray))) = some r := H
    have A5 := Aside0.mk A50
    clear A50
    by_cases c6 : t163 = true
    · subst c6
      have H1 : ((spec_l11Text.f k l0 a1_0 a1_1 a1_2 a1_3 l1_4).bind fun t164 => (some t164)) = some r := by rw [if_pos rfl] at H; exact H
      clear H
      have H := H1
      clear H1
      replace H := Option.bind_eq_some_iff.mp H
      obtain ⟨t164, A70, H⟩ := H
      replace H : (some t164) = some r := H
      have A7 := Aside0.mk A70
      clear A70
      obtain rfl := Option.some.inj H
      go_enter Try.func10, Try.ntmps10
      go_wp2_with (first | ((with_reducible refine gate_dst (N := 3) rfl ?_); (try (refine gate_guard (by rfl) ?_; dsimp only)); refine box_event ?hg (N := 3) ?hd (cs := #[.int .i64 a1_0, .int .i64 a1_1, .int .i64 a1_2, .int .i64 a1_3, .slice A1_4 l1_4.length c1_4]) (t := 32) ?hr ?_; (case hd => rfl); (case hg => rfl); (case hr => first | (go_simp; done) | (go_simp; rfl)); intro gb161 hg w8 hbox hb; have n0_ := Aside0.mk (below_step (by repeat (first | (with_reducible first | exact HB.out | apply below_alloc | apply pw_below_drewN | apply below_drew1) | exact HB.out)) hb); have n1_ := Aside0.mk (hbox); have n2_ := Aside0.mk ((by rw [hg]; exact (below_size (by repeat (first | (with_reducible first | exact HB.out | apply below_alloc | apply pw_below_drewN | apply below_drew1) | exact HB.out))) : w.heap.size ≤ gb161)); have n3_ := Aside0.mk ((by rw [hg]; exact (below_size (by repeat (first | (with_reducible first | exact HB.out | apply below_alloc | apply pw_below_drewN | apply below_drew1) | exact HB.out))) : w.heap.size ≤ gb161)); clear HB; have HB := n0_; have BK161 := n1_; have GW161 := n2_; have GE161 := n3_; clear n0_ n1_ n2_ n3_; clear hb hbox hg) | ((with_reducible refine gate_callee (f := 43) rfl ?_); refine goesL_ (some 6) rfl rfl Try.func43 (by kernel_rfl) rfl #[.slice A0 l0.length c0] rfl (by (try simp only [List.map_toArray, List.map_cons, List.map_nil]); first | done | rfl | (simp only [List.length_drop, List.length_take]; rfl)) ?_; (with_reducible refine (spec_AreVars.calls k _ _ l0 true _ ?side1 ?side2 A3.out).mono ?_); (case side1 => repeat (first | exact (Kd.C_below HR0.out HB.out) | (with_reducible refine Kd.C_alloc ?_ _) | (with_reducible refine Kd.C_drewN ?_ _) | (with_reducible refine Kd.C_drew ?_))); (case side2 => exact HC0.out); rintro e w' ⟨rfl, ⟨nd, rfl⟩⟩; refine ⟨_, rfl, ?_⟩; have hcz9_0 : w8.cell? ⟨gb161, 0, none⟩ = some (.int .i64 a1_0) := (blk_cell BK161.out 0).trans rfl; have hcz9_1 : w8.cell? ⟨gb161, 1, none⟩ = some (.int .i64 a1_1) := (blk_cell BK161.out 1).trans rfl; have hcz9_2 : w8.cell? ⟨gb161, 2, none⟩ = some (.int .i64 a1_2) := (blk_cell BK161.out 2).trans rfl; have hcz9_3 : w8.cell? ⟨gb161, 3, none⟩ = some (.int .i64 a1_3) := (blk_cell BK161.out 3).trans rfl; have hcz9_4 : w8.cell? ⟨gb161, 4, none⟩ = some (.slice A1_4 l1_4.length c1_4) := (blk_cell BK161.out 4).trans rfl; have hfz9_0 := blk_frozen BK161.out 0; have hfz9_1 := blk_frozen BK161.out 1; have hfz9_2 := blk_frozen BK161.out 2; have hfz9_3 := blk_frozen BK161.out 3; have hfz9_4 := blk_frozen BK161.out 4) | (go_at_call 37; (with_reducible refine (spec_IsFormula.calls k (l0.length : Int) a1_0 a1_1 a1_2 a1_3 _ _ l1_4 true _ ?side1 ?side2 A5.out).mono ?_); (case side1 => repeat (first | exact (Kd.C_below HR1_4.out (by repeat (first | (with_reducible first | exact HB.out | apply below_alloc | apply pw_below_drewN | apply below_drew1 | refine below_set ?_ GE161.out) | exact HB.out))) | (with_reducible refine Kd.C_alloc ?_ _) | (with_reducible refine Kd.C_drewN ?_ _) | (with_reducible refine Kd.C_drew ?_))); (case side2 => exact HC1_4.out); rintro e w10 ⟨rfl, hb⟩; have n0_ := Aside0.mk (blk_below (g := gb161) (o := .cells #[.int .i64 a1_0, .int .i64 a1_1, .int .i64 a1_2, .int .i64 a1_3, .slice A1_4 l1_4.length c1_4] 32 (0, 0)) (by (with_reducible repeat (first | refine blk_drewN ?_ _ | refine blk_drew ?_ | refine blk_alloc ?_ _)); exact BK161.out) hb); have n1_ := Aside0.mk (below_step (by repeat (first | (with_reducible first | exact HB.out | apply below_alloc | apply pw_below_drewN | apply below_drew1 | refine below_set ?_ GE161.out) | exact HB.out)) hb); clear BK161; clear HB; have BK161 := n0_; have HB := n1_; clear n0_ n1_; (try clear hb); (try clear hb2); (try clear hk); (try clear hi); have hcz11_0 : w10.cell? ⟨gb161, 0, none⟩ = some (.int .i64 a1_0) := (blk_cell BK161.out 0).trans rfl; have hcz11_1 : w10.cell? ⟨gb161, 1, none⟩ = some (.int .i64 a1_1) := (blk_cell BK161.out 1).trans rfl; have hcz11_2 : w10.cell? ⟨gb161, 2, none⟩ = some (.int .i64 a1_2) := (blk_cell BK161.out 2).trans rfl; have hcz11_3 : w10.cell? ⟨gb161, 3, none⟩ = some (.int .i64 a1_3) := (blk_cell BK161.out 3).trans rfl; have hcz11_4 : w10.cell? ⟨gb161, 4, none⟩ = some (.slice A1_4 l1_4.length c1_4) := (blk_cell BK161.out 4).trans rfl; have hfz11_0 := blk_frozen BK161.out 0; have hfz11_1 := blk_frozen BK161.out 1; have hfz11_2 := blk_frozen BK161.out 2; have hfz11_3 := blk_frozen BK161.out 3; have hfz11_4 := blk_frozen BK161.out 4) | ((with_reducible refine gate_callee (f := 44) rfl ?_); refine goesL_ (some 17) rfl rfl Try.func44 (by kernel_rfl) rfl #[.slice A0 l0.length c0, .agg #[.int .i64 a1_0, .int .i64 a1_1, .int .i64 a1_2, .int .i64 a1_3, .slice A1_4 l1_4.length c1_4]] rfl (by (try simp only [List.map_toArray, List.map_cons, List.map_nil]); first | done | rfl | (simp only [List.length_drop, List.length_take]; rfl)) ?_; (with_reducible refine (spec_l11Text.calls k _ _ l0 a1_0 a1_1 a1_2 a1_3 _ _ l1_4 t164 _ ?side1 ?side2 ?side3 ?side4 A7.out).mono ?_); (case side1 => repeat (first | exact (Kd.C_below HR0.out HB.out) | (with_reducible refine Kd.C_alloc ?_ _) | (with_reducible refine Kd.C_drewN ?_ _) | (with_reducible refine Kd.C_drew ?_))); (case side2 => exact HC0.out); (case side3 => repeat (first | exact (Kd.C_below HR1_4.out HB.out) | (with_reducible refine Kd.C_alloc ?_ _) | (with_reducible refine Kd.C_drewN ?_ _) | (with_reducible refine Kd.C_drew ?_))); (case side4 => exact HC1_4.out); rintro e w12 ⟨rfl, hb⟩; refine ⟨_, rfl, ?_⟩; have n0_ := Aside0.mk (blk_below (g := gb161) (o := .cells #[.int .i64 a1_0, .int .i64 a1_1, .int .i64 a1_2, .int .i64 a1_3, .slice A1_4 l1_4.length c1_4] 32 (0, 0)) (by (with_reducible repeat (first | refine blk_drewN ?_ _ | refine blk_drew ?_ | refine blk_alloc ?_ _)); exact BK161.out) hb); have n1_ := Aside0.mk (below_step (by repeat (first | (with_reducible first | exact HB.out | apply below_alloc | apply pw_below_drewN | apply below_drew1 | refine below_set ?_ GE161.out) | exact HB.out)) hb); clear BK161; clear HB; have BK161 := n0_; have HB := n1_; clear n0_ n1_; (try clear hb); (try clear hb2); (try clear hk); (try clear hi)))
      go_ret
      exact ⟨by first | rfl | (simp [errW_none, errW_some] <;> rfl) | (simp [*, errW_none, errW_some] <;> rfl), by repeat (first | (with_reducible first | exact HB.out | apply below_alloc | apply pw_below_drewN | apply below_drew1 | refine below_set ?_ GE161.out) | exact HB.out)⟩
    · replace c6 := Bool.eq_false_iff.mpr c6
      subst c6
      have H1 : (some (⟨#[]⟩ : ByteArray)) = some r := by rw [if_neg (show ¬ (false = true) by decide)] at H; exact H
      clear H
      have H := H1
      clear H1
      obtain rfl := Option.some.inj H
      go_enter Try.func10, Try.ntmps10
      go_wp2_with (first | ((with_reducible refine gate_dst (N := 3) rfl ?_); (try (refine gate_guard (by rfl) ?_; dsimp only)); refine box_event ?hg (N := 3) ?hd (cs := #[.int .i64 a1_0, .int .i64 a1_1, .int .i64 a1_2, .int .i64 a1_3, .slice A1_4 l1_4.length c1_4]) (t := 32) ?hr ?_; (case hd => rfl); (case hg => rfl); (case hr => first | (go_simp; done) | (go_simp; rfl)); intro gb161 hg w13 hbox hb; have n0_ := Aside0.mk (below_step (by repeat (first | (with_reducible first | exact HB.out | apply below_alloc | apply pw_below_drewN | apply below_drew1) | exact HB.out)) hb); have n1_ := Aside0.mk (hbox); have n2_ := Aside0.mk ((by rw [hg]; exact (below_size (by repeat (first | (with_reducible first | exact HB.out | apply below_alloc | apply pw_below_drewN | apply below_drew1) | exact HB.out))) : w.heap.size ≤ gb161)); have n3_ := Aside0.mk ((by rw [hg]; exact (below_size (by repeat (first | (with_reducible first | exact HB.out | apply below_alloc | apply pw_below_drewN | apply below_drew1) | exact HB.out))) : w.heap.size ≤ gb161)); clear HB; have HB := n0_; have BK161 := n1_; have GW161 := n2_; have GE161 := n3_; clear n0_ n1_ n2_ n3_; clear hb hbox hg) | ((with_reducible refine gate_callee (f := 43) rfl ?_); refine goesL_ (some 6) rfl rfl Try.func43 (by kernel_rfl) rfl #[.slice A0 l0.length c0] rfl (by (try simp only [List.map_toArray, List.map_cons, List.map_nil]); first | done | rfl | (simp only [List.length_drop, List.length_take]; rfl)) ?_; (with_reducible refine (spec_AreVars.calls k _ _ l0 true _ ?side1 ?side2 A3.out).mono ?_); (case side1 => repeat (first | exact (Kd.C_below HR0.out HB.out) | (with_reducible refine Kd.C_alloc ?_ _) | (with_reducible refine Kd.C_drewN ?_ _) | (with_reducible refine Kd.C_drew ?_))); (case side2 => exact HC0.out); rintro e w' ⟨rfl, ⟨nd, rfl⟩⟩; refine ⟨_, rfl, ?_⟩; have hcz14_0 : w13.cell? ⟨gb161, 0, none⟩ = some (.int .i64 a1_0) := (blk_cell BK161.out 0).trans rfl; have hcz14_1 : w13.cell? ⟨gb161, 1, none⟩ = some (.int .i64 a1_1) := (blk_cell BK161.out 1).trans rfl; have hcz14_2 : w13.cell? ⟨gb161, 2, none⟩ = some (.int .i64 a1_2) := (blk_cell BK161.out 2).trans rfl; have hcz14_3 : w13.cell? ⟨gb161, 3, none⟩ = some (.int .i64 a1_3) := (blk_cell BK161.out 3).trans rfl; have hcz14_4 : w13.cell? ⟨gb161, 4, none⟩ = some (.slice A1_4 l1_4.length c1_4) := (blk_cell BK161.out 4).trans rfl; have hfz14_0 := blk_frozen BK161.out 0; have hfz14_1 := blk_frozen BK161.out 1; have hfz14_2 := blk_frozen BK161.out 2; have hfz14_3 := blk_frozen BK161.out 3; have hfz14_4 := blk_frozen BK161.out 4) | (go_at_call 37; (with_reducible refine (spec_IsFormula.calls k (l0.length : Int) a1_0 a1_1 a1_2 a1_3 _ _ l1_4 false _ ?side1 ?side2 A5.out).mono ?_); (case side1 => repeat (first | exact (Kd.C_below HR1_4.out (by repeat (first | (with_reducible first | exact HB.out | apply below_alloc | apply pw_below_drewN | apply below_drew1 | refine below_set ?_ GE161.out) | exact HB.out))) | (with_reducible refine Kd.C_alloc ?_ _) | (with_reducible refine Kd.C_drewN ?_ _) | (with_reducible refine Kd.C_drew ?_))); (case side2 => exact HC1_4.out); rintro e w15 ⟨rfl, hb⟩; have n0_ := Aside0.mk (blk_below (g := gb161) (o := .cells #[.int .i64 a1_0, .int .i64 a1_1, .int .i64 a1_2, .int .i64 a1_3, .slice A1_4 l1_4.length c1_4] 32 (0, 0)) (by (with_reducible repeat (first | refine blk_drewN ?_ _ | refine blk_drew ?_ | refine blk_alloc ?_ _)); exact BK161.out) hb); have n1_ := Aside0.mk (below_step (by repeat (first | (with_reducible first | exact HB.out | apply below_alloc | apply pw_below_drewN | apply below_drew1 | refine below_set ?_ GE161.out) | exact HB.out)) hb); clear BK161; clear HB; have BK161 := n0_; have HB := n1_; clear n0_ n1_; (try clear hb); (try clear hb2); (try clear hk); (try clear hi)))
      go_ret
      exact ⟨by first | rfl | (simp [errW_none, errW_some] <;> rfl) | (simp [*, errW_none, errW_some] <;> rfl), by repeat (first | (with_reducible first | exact HB.out | apply below_alloc | apply pw_below_drewN | apply below_drew1 | refine below_set ?_ GE161.out) | exact HB.out)⟩
  · replace c4 := Bool.eq_false_iff.mpr c4
    subst c4
    have H1 : (some (⟨#[]⟩ : ByteArray)) = some r := by rw [if_neg (show ¬ (false = true) by decide)] at H; exact H
    clear H
    have H := H1
    clear H1
    obtain rfl := Option.some.inj H
    go_enter Try.func10, Try.ntmps10
    go_wp2_with (first | ((with_reducible refine gate_dst (N := 3) rfl ?_); (try (refine gate_guard (by rfl) ?_; dsimp only)); refine box_event ?hg (N := 3) ?hd (cs := #[.int .i64 a1_0, .int .i64 a1_1, .int .i64 a1_2, .int .i64 a1_3, .slice A1_4 l1_4.length c1_4]) (t := 32) ?hr ?_; (case hd => rfl); (case hg => rfl); (case hr => first | (go_simp; done) | (go_simp; rfl)); intro gb161 hg w16 hbox hb; have n0_ := Aside0.mk (below_step (by repeat (first | (with_reducible first | exact HB.out | apply below_alloc | apply pw_below_drewN | apply below_drew1) | exact HB.out)) hb); have n1_ := Aside0.mk (hbox); have n2_ := Aside0.mk ((by rw [hg]; exact (below_size (by repeat (first | (with_reducible first | exact HB.out | apply below_alloc | apply pw_below_drewN | apply below_drew1) | exact HB.out))) : w.heap.size ≤ gb161)); have n3_ := Aside0.mk ((by rw [hg]; exact (below_size (by repeat (first | (with_reducible first | exact HB.out | apply below_alloc | apply pw_below_drewN | apply below_drew1) | exact HB.out))) : w.heap.size ≤ gb161)); clear HB; have HB := n0_; have BK161 := n1_; have GW161 := n2_; have GE161 := n3_; clear n0_ n1_ n2_ n3_; clear hb hbox hg) | ((with_reducible refine gate_callee (f := 43) rfl ?_); refine goesL_ (some 6) rfl rfl Try.func43 (by kernel_rfl) rfl #[.slice A0 l0.length c0] rfl (by (try simp only [List.map_toArray, List.map_cons, List.map_nil]); first | done | rfl | (simp only [List.length_drop, List.length_take]; rfl)) ?_; (with_reducible refine (spec_AreVars.calls k _ _ l0 false _ ?side1 ?side2 A3.out).mono ?_); (case side1 => repeat (first | exact (Kd.C_below HR0.out HB.out) | (with_reducible refine Kd.C_alloc ?_ _) | (with_reducible refine Kd.C_drewN ?_ _) | (with_reducible refine Kd.C_drew ?_))); (case side2 => exact HC0.out); rintro e w' ⟨rfl, ⟨nd, rfl⟩⟩; refine ⟨_, rfl, ?_⟩))
    go_ret
    exact ⟨by first | rfl | (simp [errW_none, errW_some] <;> rfl) | (simp [*, errW_none, errW_some] <;> rfl), by repeat (first | (with_reducible first | exact HB.out | apply below_alloc | apply pw_below_drewN | apply below_drew1 | refine below_set ?_ GE161.out) | exact HB.out)⟩

end Go.Proofs.Ytoljagpjejpmpaa.PFnExactFormulaText
