-- Laid by wip/tools/xprint.py (a program of this session over the kit's print). Not trusted: Lean checks it.
import Derived.Test.YtoljagpjejpmpaaPFnExactFormulaTextx0
import Derived.Test.YtoljagpjejpmpaaPFnExactFormulaTextx1
import Derived.Test.YtoljagpjejpmpaaPFnExactFormulaTextx7
namespace Go.Proofs.Ytoljagpjejpmpaa.PFnExactFormulaText
open Go.RowKit Go.Proofs.YtoljagpjejpmpaaW.PrintWords Go.Proofs.YtoljagpjejpmpaaW.PrintLast Go.Proofs.YtoljagpjejpmpaaW.PrintMore
attribute [local go_sem] max2_int min2_int max_two min_two max_three min_three max_four min_four   -- for this text's walks alone
set_option linter.unusedVariables false
set_option linter.unusedSimpArgs false

/-! ### impl_Formula_text: function 47 -/
mutual
def impl_Formula_text.j0 : Nat → List ByteArray → ByteArray → Int → Bool → Int → Int → Int → Int → List (S32) → Option (ByteArray)
  | 0, _, _, _, _, _, _, _, _, _ => none
  | k + 1, x1, x5, x11, x12, x213000, x213001, x213002, x213003, x213004 => if x12 = true then (if 0 ≤ x213001 then (if x213001 < (x1.length : Int) then (if x5.size + (rdOf ByteArray.empty x1 x213001).size ≤ 9223372036854775807 then (if (x5 ++ (rdOf ByteArray.empty x1 x213001)).size + 1 ≤ 9223372036854775807 then ((impl_logicName.f x213002).bind fun t215 => (if ((x5 ++ (rdOf ByteArray.empty x1 x213001)) ++ (⟨#[58]⟩ : ByteArray)).size + t215.size ≤ 9223372036854775807 then (some (((x5 ++ (rdOf ByteArray.empty x1 x213001)) ++ (⟨#[58]⟩ : ByteArray)) ++ t215)) else (none))) else (none)) else (none)) else (none)) else (none)) else (if x11 = 4 then ((impl_logicName.f x213002).bind fun t216 => (if x5.size + t216.size ≤ 9223372036854775807 then (some (x5 ++ t216)) else (none))) else (if x11 = 5 then (impl_Formula_text.j1 k x1 x5 x11 (x11 == 5) x213000 x213001 x213002 x213003 x213004) else (if x11 = 6 then (impl_Formula_text.j1 k x1 x5 x11 (x11 == 6) x213000 x213001 x213002 x213003 x213004) else (impl_Formula_text.j1 k x1 x5 x11 (x11 == 7) x213000 x213001 x213002 x213003 x213004))))
def impl_Formula_text.j1 : Nat → List ByteArray → ByteArray → Int → Bool → Int → Int → Int → Int → List (S32) → Option (ByteArray)
  | 0, _, _, _, _, _, _, _, _, _ => none
  | k + 1, x1, x5, x11, x34, x213000, x213001, x213002, x213003, x213004 => if x34 = true then ((impl_logicName.f x213002).bind fun t217 => (if x5.size + t217.size ≤ 9223372036854775807 then ((impl_logicName.f x213003).bind fun t218 => (if (x5 ++ t217).size + t218.size ≤ 9223372036854775807 then (some ((x5 ++ t217) ++ t218)) else (none))) else (none))) else (if x11 = 8 then (if 0 < (x213004.length : Int) then ((impl_Formula_text.f k ((rd_T32 x213004 0).f0) ((rd_T32 x213004 0).f1) ((rd_T32 x213004 0).f2) ((rd_T32 x213004 0).f3) ((rd_T32 x213004 0).f4) x1).bind fun t220 => (if 1 + t220.size ≤ 9223372036854775807 then (some ((⟨#[33]⟩ : ByteArray) ++ t220)) else (none))) else (none)) else (if x11 = 9 then (if 0 < (x213004.length : Int) then ((impl_Formula_text.f k ((rd_T32 x213004 0).f0) ((rd_T32 x213004 0).f1) ((rd_T32 x213004 0).f2) ((rd_T32 x213004 0).f3) ((rd_T32 x213004 0).f4) x1).bind fun t222 => (if 1 + t222.size ≤ 9223372036854775807 then (if ((⟨#[40]⟩ : ByteArray) ++ t222).size + 1 ≤ 9223372036854775807 then (if 1 < (x213004.length : Int) then ((impl_Formula_text.f k ((rd_T32 x213004 1).f0) ((rd_T32 x213004 1).f1) ((rd_T32 x213004 1).f2) ((rd_T32 x213004 1).f3) ((rd_T32 x213004 1).f4) x1).bind fun t224 => (if (((⟨#[40]⟩ : ByteArray) ++ t222) ++ (⟨#[38]⟩ : ByteArray)).size + t224.size ≤ 9223372036854775807 then (if ((((⟨#[40]⟩ : ByteArray) ++ t222) ++ (⟨#[38]⟩ : ByteArray)) ++ t224).size + 1 ≤ 9223372036854775807 then (some (((((⟨#[40]⟩ : ByteArray) ++ t222) ++ (⟨#[38]⟩ : ByteArray)) ++ t224) ++ (⟨#[41]⟩ : ByteArray))) else (none)) else (none))) else (none)) else (none)) else (none))) else (none)) else (if x11 = 10 then (if 0 < (x213004.length : Int) then ((impl_Formula_text.f k ((rd_T32 x213004 0).f0) ((rd_T32 x213004 0).f1) ((rd_T32 x213004 0).f2) ((rd_T32 x213004 0).f3) ((rd_T32 x213004 0).f4) x1).bind fun t226 => (if 1 + t226.size ≤ 9223372036854775807 then (if ((⟨#[40]⟩ : ByteArray) ++ t226).size + 1 ≤ 9223372036854775807 then (if 1 < (x213004.length : Int) then ((impl_Formula_text.f k ((rd_T32 x213004 1).f0) ((rd_T32 x213004 1).f1) ((rd_T32 x213004 1).f2) ((rd_T32 x213004 1).f3) ((rd_T32 x213004 1).f4) x1).bind fun t228 => (if (((⟨#[40]⟩ : ByteArray) ++ t226) ++ (⟨#[124]⟩ : ByteArray)).size + t228.size ≤ 9223372036854775807 then (if ((((⟨#[40]⟩ : ByteArray) ++ t226) ++ (⟨#[124]⟩ : ByteArray)) ++ t228).size + 1 ≤ 9223372036854775807 then (some (((((⟨#[40]⟩ : ByteArray) ++ t226) ++ (⟨#[124]⟩ : ByteArray)) ++ t228) ++ (⟨#[41]⟩ : ByteArray))) else (none)) else (none))) else (none)) else (none)) else (none))) else (none)) else (if x11 = 11 then (impl_Formula_text.j2 k x1 x5 (x11 == 11) x213000 x213001 x213002 x213003 x213004) else (impl_Formula_text.j2 k x1 x5 (x11 == 12) x213000 x213001 x213002 x213003 x213004)))))
def impl_Formula_text.j2 : Nat → List ByteArray → ByteArray → Bool → Int → Int → Int → Int → List (S32) → Option (ByteArray)
  | 0, _, _, _, _, _, _, _, _ => none
  | k + 1, x1, x5, x92, x213000, x213001, x213002, x213003, x213004 => if x92 = true then ((impl_logicName.f x213002).bind fun t229 => (if x5.size + t229.size ≤ 9223372036854775807 then (if (x5 ++ t229).size + 1 ≤ 9223372036854775807 then (if 0 < (x213004.length : Int) then ((impl_Formula_text.f k ((rd_T32 x213004 0).f0) ((rd_T32 x213004 0).f1) ((rd_T32 x213004 0).f2) ((rd_T32 x213004 0).f3) ((rd_T32 x213004 0).f4) x1).bind fun t231 => (if ((x5 ++ t229) ++ (⟨#[46]⟩ : ByteArray)).size + t231.size ≤ 9223372036854775807 then (some (((x5 ++ t229) ++ (⟨#[46]⟩ : ByteArray)) ++ t231)) else (none))) else (none)) else (none)) else (none))) else (some x5)
def impl_Formula_text.f : Nat → Int → Int → Int → Int → List (S32) → List ByteArray → Option (ByteArray)
  | 0, _, _, _, _, _, _ => none
  | k + 1, a0_0, a0_1, a0_2, a0_3, l0_4, l1 => (headOf.f a0_0).bind fun t213 => (if a0_0 = 2 then (impl_Formula_text.j0 k l1 t213 a0_0 (a0_0 == 2) a0_0 a0_1 a0_2 a0_3 l0_4) else (impl_Formula_text.j0 k l1 t213 a0_0 (a0_0 == 3) a0_0 a0_1 a0_2 a0_3 l0_4))
end
theorem impl_Formula_text.mono_l : ∀ k, (∀ y0 y1 y2 y3 y4 y5, LeO (impl_Formula_text.f k y0 y1 y2 y3 y4 y5) (impl_Formula_text.f (k + 1) y0 y1 y2 y3 y4 y5)) ∧ (∀ y0 y1 y2 y3 y4 y5 y6 y7 y8, LeO (impl_Formula_text.j0 k y0 y1 y2 y3 y4 y5 y6 y7 y8) (impl_Formula_text.j0 (k + 1) y0 y1 y2 y3 y4 y5 y6 y7 y8)) ∧ (∀ y0 y1 y2 y3 y4 y5 y6 y7 y8, LeO (impl_Formula_text.j1 k y0 y1 y2 y3 y4 y5 y6 y7 y8) (impl_Formula_text.j1 (k + 1) y0 y1 y2 y3 y4 y5 y6 y7 y8)) ∧ (∀ y0 y1 y2 y3 y4 y5 y6 y7, LeO (impl_Formula_text.j2 k y0 y1 y2 y3 y4 y5 y6 y7) (impl_Formula_text.j2 (k + 1) y0 y1 y2 y3 y4 y5 y6 y7))
  | 0 => ⟨fun _ _ _ _ _ _ r h => by simp [impl_Formula_text.f] at h, fun _ _ _ _ _ _ _ _ _ r h => by simp [impl_Formula_text.j0] at h, fun _ _ _ _ _ _ _ _ _ r h => by simp [impl_Formula_text.j1] at h, fun _ _ _ _ _ _ _ _ r h => by simp [impl_Formula_text.j2] at h⟩
  | k + 1 => by
    obtain ⟨ih0, ih1, ih2, ih3⟩ := impl_Formula_text.mono_l k
    refine ⟨?_, ?_, ?_, ?_⟩
    · intro y0 y1 y2 y3 y4 y5
      unfold impl_Formula_text.f
      repeat' first
      | (with_reducible exact ih0 _ _ _ _ _ _)
      | (with_reducible exact ih1 _ _ _ _ _ _ _ _ _)
      | (with_reducible exact ih2 _ _ _ _ _ _ _ _ _)
      | (with_reducible exact ih3 _ _ _ _ _ _ _ _)
      | (with_reducible exact LeO.refl _)
      | (with_reducible exact LeO.none _)
      | (with_reducible refine LeO.ite ?_ ?_)
      | (with_reducible refine LeO.bind ?_ (fun _ => ?_))
      | exact ih0 _ _ _ _ _ _
      | exact ih1 _ _ _ _ _ _ _ _ _
      | exact ih2 _ _ _ _ _ _ _ _ _
      | exact ih3 _ _ _ _ _ _ _ _
      | exact LeO.none _
      | refine LeO.ite ?_ ?_
      | refine LeO.bind ?_ (fun _ => ?_)
    · intro y0 y1 y2 y3 y4 y5 y6 y7 y8
      unfold impl_Formula_text.j0
      repeat' first
      | (with_reducible exact ih0 _ _ _ _ _ _)
      | (with_reducible exact ih1 _ _ _ _ _ _ _ _ _)
      | (with_reducible exact ih2 _ _ _ _ _ _ _ _ _)
      | (with_reducible exact ih3 _ _ _ _ _ _ _ _)
      | (with_reducible exact LeO.refl _)
      | (with_reducible exact LeO.none _)
      | (with_reducible refine LeO.ite ?_ ?_)
      | (with_reducible refine LeO.bind ?_ (fun _ => ?_))
      | exact ih0 _ _ _ _ _ _
      | exact ih1 _ _ _ _ _ _ _ _ _
      | exact ih2 _ _ _ _ _ _ _ _ _
      | exact ih3 _ _ _ _ _ _ _ _
      | exact LeO.none _
      | refine LeO.ite ?_ ?_
      | refine LeO.bind ?_ (fun _ => ?_)
    · intro y0 y1 y2 y3 y4 y5 y6 y7 y8
      unfold impl_Formula_text.j1
      repeat' first
      | (with_reducible exact ih0 _ _ _ _ _ _)
      | (with_reducible exact ih1 _ _ _ _ _ _ _ _ _)
      | (with_reducible exact ih2 _ _ _ _ _ _ _ _ _)
      | (with_reducible exact ih3 _ _ _ _ _ _ _ _)
      | (with_reducible exact LeO.refl _)
      | (with_reducible exact LeO.none _)
      | (with_reducible refine LeO.ite ?_ ?_)
      | (with_reducible refine LeO.bind ?_ (fun _ => ?_))
      | exact ih0 _ _ _ _ _ _
      | exact ih1 _ _ _ _ _ _ _ _ _
      | exact ih2 _ _ _ _ _ _ _ _ _
      | exact ih3 _ _ _ _ _ _ _ _
      | exact LeO.none _
      | refine LeO.ite ?_ ?_
      | refine LeO.bind ?_ (fun _ => ?_)
    · intro y0 y1 y2 y3 y4 y5 y6 y7
      unfold impl_Formula_text.j2
      repeat' first
      | (with_reducible exact ih0 _ _ _ _ _ _)
      | (with_reducible exact ih1 _ _ _ _ _ _ _ _ _)
      | (with_reducible exact ih2 _ _ _ _ _ _ _ _ _)
      | (with_reducible exact ih3 _ _ _ _ _ _ _ _)
      | (with_reducible exact LeO.refl _)
      | (with_reducible exact LeO.none _)
      | (with_reducible refine LeO.ite ?_ ?_)
      | (with_reducible refine LeO.bind ?_ (fun _ => ?_))
      | exact ih0 _ _ _ _ _ _
      | exact ih1 _ _ _ _ _ _ _ _ _
      | exact ih2 _ _ _ _ _ _ _ _ _
      | exact ih3 _ _ _ _ _ _ _ _
      | exact LeO.none _
      | refine LeO.ite ?_ ?_
      | refine LeO.bind ?_ (fun _ => ?_)
theorem impl_Formula_text.mono : ∀ a0 a1 a2 a3 a4 a5 k, LeO (impl_Formula_text.f k a0 a1 a2 a3 a4 a5) (impl_Formula_text.f (k + 1) a0 a1 a2 a3 a4 a5) := by
  intro a0 a1 a2 a3 a4 a5 k
  obtain ⟨ih0, ih1, ih2, ih3⟩ := impl_Formula_text.mono_l k
  exact ih0 a0 a1 a2 a3 a4 a5
def impl_Formula_text.T5 : Bool × List (List Nat × List Nat) := (true, [([], []), ([], []), ([], []), ([2], [2]), ([1, 3], [1, 3]), ([4], [4]), ([0, 5], [0, 5]), ([6], [6]), ([], []), ([8], [8]), ([9], [9]), ([7, 10], [7, 10]), ([11, 10, 0, 1, 2, 3, 4, 5, 6, 7, 8, 9, 10, 11], [11])])
def impl_Formula_text.B5 : List Nat := [0, 0, 0, 4, 14, 30, 63, 127, 0, 256, 768, 2047, 4095]
theorem impl_Formula_text.tab5 : rtab .any (opsOf Try.f47 5) = impl_Formula_text.T5 := by kernel_rfl
theorem impl_Formula_text.bits5 : waitsOk impl_Formula_text.T5.2 impl_Formula_text.B5 = true := by kernel_rfl
def impl_Formula_text.T11 : Bool × List (List Nat × List Nat) := (true, [([], []), ([], []), ([1], [1]), ([2], [2]), ([0, 3], [0, 3]), ([], []), ([5], [5]), ([6, 3], [6]), ([4, 7], [4, 7]), ([8, 7, 0, 1, 2, 3, 4, 5, 6, 7, 8], [8])])
def impl_Formula_text.B11 : List Nat := [0, 0, 2, 6, 15, 0, 32, 110, 255, 511]
theorem impl_Formula_text.tab11 : rtab .any (opsOf Try.f47 11) = impl_Formula_text.T11 := by kernel_rfl
theorem impl_Formula_text.bits11 : waitsOk impl_Formula_text.T11.2 impl_Formula_text.B11 = true := by kernel_rfl
def impl_Formula_text.T15 : Bool × List (List Nat × List Nat) := (true, [([], []), ([0], [0]), ([1], [1]), ([2], [2]), ([], []), ([3, 4], [3, 4]), ([5], [5]), ([6], [6]), ([], []), ([8], [8]), ([9], [9]), ([10], [10]), ([], []), ([11, 12, 5], [11, 12]), ([7, 13], [7, 13]), ([14], [14]), ([15, 13, 0, 1, 2, 3, 4, 5, 6, 7, 8, 9, 10, 11, 12, 13, 14, 15], [15])])
def impl_Formula_text.B15 : List Nat := [0, 1, 3, 7, 0, 31, 63, 127, 0, 256, 768, 1792, 0, 7999, 16383, 32767, 65535]
theorem impl_Formula_text.tab15 : rtab .any (opsOf Try.f47 15) = impl_Formula_text.T15 := by kernel_rfl
theorem impl_Formula_text.bits15 : waitsOk impl_Formula_text.T15.2 impl_Formula_text.B15 = true := by kernel_rfl
def impl_Formula_text.T17 : Bool × List (List Nat × List Nat) := (true, [([], []), ([0], [0]), ([1], [1]), ([2], [2]), ([], []), ([3, 4], [3, 4]), ([5], [5]), ([6], [6]), ([], []), ([8], [8]), ([9], [9]), ([10], [10]), ([], []), ([11, 12, 5], [11, 12]), ([7, 13], [7, 13]), ([14], [14]), ([15, 13, 0, 1, 2, 3, 4, 5, 6, 7, 8, 9, 10, 11, 12, 13, 14, 15], [15])])
def impl_Formula_text.B17 : List Nat := [0, 1, 3, 7, 0, 31, 63, 127, 0, 256, 768, 1792, 0, 7999, 16383, 32767, 65535]
theorem impl_Formula_text.tab17 : rtab .any (opsOf Try.f47 17) = impl_Formula_text.T17 := by kernel_rfl
theorem impl_Formula_text.bits17 : waitsOk impl_Formula_text.T17.2 impl_Formula_text.B17 = true := by kernel_rfl
def impl_Formula_text.T20 : Bool × List (List Nat × List Nat) := (true, [([], []), ([], []), ([1], [1]), ([2], [2]), ([0, 3], [0, 3]), ([4], [4]), ([], []), ([6], [6]), ([7], [7]), ([8], [8]), ([], []), ([9, 10, 3], [9, 10]), ([5, 11], [5, 11]), ([12, 11, 0, 1, 2, 3, 4, 5, 6, 7, 8, 9, 10, 11, 12], [12])])
def impl_Formula_text.B20 : List Nat := [0, 0, 2, 6, 15, 31, 0, 64, 192, 448, 0, 1998, 4095, 8191]
theorem impl_Formula_text.tab20 : rtab .any (opsOf Try.f47 20) = impl_Formula_text.T20 := by kernel_rfl
theorem impl_Formula_text.bits20 : waitsOk impl_Formula_text.T20.2 impl_Formula_text.B20 = true := by kernel_rfl
set_option maxHeartbeats 8000000 in
set_option maxRecDepth 100000 in
theorem impl_Formula_text.calls (k : Nat) : ∀ (a0_0 : Int) (a0_1 : Int) (a0_2 : Int) (a0_3 : Int) (A0_4 : Option Addr) (c0_4 : Nat) (l0_4 : List (S32)) (A1 : Option Addr) (c1 : Nat) (l1 : List ByteArray) (r : ByteArray) (w : World) (hr0_4 : Kd.C k32 w A0_4 l0_4.length l0_4) (hc0_4 : l0_4.length ≤ c0_4) (hr1 : Kd.C Kd.string w A1 l1.length l1) (hc1 : l1.length ≤ c1) (h : impl_Formula_text.f k a0_0 a0_1 a0_2 a0_3 l0_4 l1 = some r),
    Calls Try.prog 47 #[.agg #[.int .i64 a0_0, .int .i64 a0_1, .int .i64 a0_2, .int .i64 a0_3, .slice A0_4 l0_4.length c0_4], .slice A1 l1.length c1] w fun e w' => e = .returned (.string r) ∧ Below w.heap.size w w' := by
  induction k using Nat.strongRecOn with
  | _ k ih =>
  intro a0_0 a0_1 a0_2 a0_3 A0_4 c0_4 l0_4 A1 c1 l1 r w hr0_4 hc0_4 hr1 hc1 h
  cases k with
  | zero => exact absurd h (by simp [impl_Formula_text.f])
  | succ k =>
  simp only [impl_Formula_text.f] at h
  have hu32 := Try.underlying32
  have HR0_4 := Aside0.mk hr0_4
  have HC0_4 := Aside0.mk hc0_4
  clear hr0_4 hc0_4
  have HR1 := Aside0.mk hr1
  have HC1 := Aside0.mk hc1
  clear hr1 hc1
  have HB := Aside0.mk (Below.refl w.heap.size w)
  have H : ((headOf.f a0_0).bind fun t213 => (if a0_0 = 2 then (impl_Formula_text.j0 k l1 t213 a0_0 (a0_0 == 2) a0_0 a0_1 a0_2 a0_3 l0_4) else (impl_Formula_text.j0 k l1 t213 a0_0 (a0_0 == 3) a0_0 a0_1 a0_2 a0_3 l0_4))) = some r := h
  clear h
  replace H := Option.bind_eq_some_iff.mp H
  obtain ⟨t213, A30, H⟩ := H
  replace H : (if a0_0 = 2 then (impl_Formula_text.j0 k l1 t213 a0_0 (a0_0 == 2) a0_0 a0_1 a0_2 a0_3 l0_4) else (impl_Formula_text.j0 k l1 t213 a0_0 (a0_0 == 3) a0_0 a0_1 a0_2 a0_3 l0_4)) = some r := H
  have A3 := Aside0.mk A30
  clear A30
  have HC4 := Aside0.mk H
  clear H
  go_enter Try.func47, Try.ntmps47
  try go_wp2_with (first | ((with_reducible refine gate_dst (N := 2) rfl ?_); refine box_event ?hg (N := 2) ?hd (cs := #[.int .i64 a0_0, .int .i64 a0_1, .int .i64 a0_2, .int .i64 a0_3, .slice A0_4 l0_4.length c0_4]) (t := 32) ?hr ?_; (case hd => rfl); (case hg => rfl); (case hr => first | (go_simp; done) | (go_simp; rfl)); intro gb212 hg w5 hbox hb; have n0_ := Aside0.mk (below_step (by repeat (first | (with_reducible first | exact HB.out | apply below_alloc | apply pw_below_drewN | apply below_drew1) | exact HB.out)) hb); have n1_ := Aside0.mk (hbox); have n2_ := Aside0.mk ((by rw [hg]; exact (below_size (by repeat (first | (with_reducible first | exact HB.out | apply below_alloc | apply pw_below_drewN | apply below_drew1) | exact HB.out))) : w.heap.size ≤ gb212)); have n3_ := Aside0.mk ((by rw [hg]; exact (below_size (by repeat (first | (with_reducible first | exact HB.out | apply below_alloc | apply pw_below_drewN | apply below_drew1) | exact HB.out))) : w.heap.size ≤ gb212)); clear HB; have HB := n0_; have BK212 := n1_; have GW212 := n2_; have GE212 := n3_; clear n0_ n1_ n2_ n3_; clear hb hbox hg))
  have n0_ := Aside0.mk (blk_drew BK212.out)
  have n1_ := Aside0.mk (below_drew1 HB.out)
  clear BK212
  clear HB
  have BK212 := n0_
  have HB := n1_
  clear n0_ n1_
  refine start_ (n := 5) (S := fun w' => w'.cell? ⟨gb212, 0, none⟩ = some (.int .i64 a0_0) ∧ w'.cell? ⟨gb212, 1, none⟩ = some (.int .i64 a0_1) ∧ w'.cell? ⟨gb212, 2, none⟩ = some (.int .i64 a0_2) ∧ w'.cell? ⟨gb212, 3, none⟩ = some (.int .i64 a0_3) ∧ w'.cell? ⟨gb212, 4, none⟩ = some (.slice A0_4 l0_4.length c0_4)) (ds := []) #[false, false, false, false, false] (by kernel_rfl) rfl rfl ⟨(blk_cell BK212.out 0).trans rfl, (blk_cell BK212.out 1).trans rfl, (blk_cell BK212.out 2).trans rfl, (blk_cell BK212.out 3).trans rfl, (blk_cell BK212.out 4).trans rfl⟩ (fun hHeld => ?_)
  generalize w5.drew = w6 at BK212 HB hHeld ⊢
  refine pure_ (i := 1) (N := some 7) (v := ?_) (a' := ?_) #[false, true, false, false, false] rfl rfl (by kernel_rfl) (fun _ _ _ h => h) (Or.inl ⟨by rfl, ?_⟩) ?_ ?_
  rotate_left
  · intro w'
    go_simp
    with_reducible rfl
  rotate_left
  · simp only [Act.put, List.setIfInBounds_toArray, List.set_cons_zero, List.set_cons_succ, i64_w, i32_w]
    rfl
  refine take_ (i := 2) (N := some 8) (v := ?_) (a' := ?_) #[false, true, true, false, false] rfl rfl (by kernel_rfl) (fun _ _ _ h => h) (Or.inl ⟨by rfl, ?_⟩) hHeld ?_ ?_
  rotate_left
  · rintro w' ⟨s0, s1, s2, s3, s4⟩
    go_simp
    with_reducible rfl
  rotate_left
  · simp only [Act.put, List.setIfInBounds_toArray, List.set_cons_zero, List.set_cons_succ, i64_w, i32_w]
    rfl
  refine one_ (i := 0) (N := some 6) #[true, true, true, false, false] rfl rfl (by kernel_rfl) (by decide) (fun K hK => ?_)
  refine goes_ Try.func83 (by kernel_rfl) rfl #[] (by rfl) rfl rfl (by (try simp only [List.map_toArray, List.map_cons, List.map_nil]); first | done | rfl | (simp only [List.length_drop, List.length_take]; rfl)) ?_
  with_reducible refine (heads_calls _).mono ?_
  rintro e w7 ⟨m, rfl, hm, hb⟩
  refine ⟨_, rfl, ?_⟩
  have n0_ := Aside0.mk (blk_below BK212.out hb)
  have n1_ := Aside0.mk (below_step HB.out hb)
  have HM := Aside0.mk hm
  clear BK212 HB hm hb
  have BK212 := n0_
  have HB := n1_
  clear n0_ n1_
  refine hK.out _ _ ⟨(blk_cell BK212.out 0).trans rfl, (blk_cell BK212.out 1).trans rfl, (blk_cell BK212.out 2).trans rfl, (blk_cell BK212.out 3).trans rfl, (blk_cell BK212.out 4).trans rfl⟩ (fun hHeld => ?_)
  clear hK K
  refine norm_ (a' := ?_) ?_ ?_
  rotate_left
  · show Act.put _ (some 6) _ = _
    simp only [Act.put, List.setIfInBounds_toArray, List.set_cons_zero, List.set_cons_succ, i64_w, i32_w]
    rfl
  have hk_ : 1 ≤ a0_0 ∧ a0_0 ≤ 12 ∧ t213 = ⟨(headS a0_0).toArray⟩ := by
    have h_ := A3.out
    unfold headOf.f at h_
    split at h_
    · rename_i c_; exact ⟨c_.1, c_.2, (Option.some.inj h_).symm⟩
    · cases h_
  have hl_ := HM.out a0_0 hk_.1 hk_.2.1
  rw [← hk_.2.2] at hl_
  refine one_ (i := 3) (N := some 9) #[true, true, true, true, false] rfl rfl (by kernel_rfl) (by decide) (fun K hK => ?_)
  refine event_step (v := .string t213) (w1 := w7) (by rfl) ?hr ?_
  case hr => first | (go_simp; done) | (go_simp; rfl) | (simp [execOp, hl_]; done) | (go_simp; simp [hl_]; done)
  clear hl_ hk_
  refine hK.out _ _ ⟨(blk_cell BK212.out 0).trans rfl, (blk_cell BK212.out 1).trans rfl, (blk_cell BK212.out 2).trans rfl, (blk_cell BK212.out 3).trans rfl, (blk_cell BK212.out 4).trans rfl⟩ (fun hHeld => ?_)
  clear hK K
  refine norm_ (a' := ?_) ?_ ?_
  rotate_left
  · show Act.put _ (some 9) _ = _
    simp only [Act.put, List.setIfInBounds_toArray, List.set_cons_zero, List.set_cons_succ, i64_w, i32_w]
    rfl
  refine pure_ (i := 4) (N := some 5) (v := ?_) (a' := ?_) #[true, true, true, true, true] rfl rfl (by kernel_rfl) (fun _ _ _ h => h) (Or.inl ⟨by rfl, ?_⟩) ?_ ?_
  rotate_left
  · intro w'
    go_simp
    with_reducible rfl
  rotate_left
  · simp only [Act.put, List.setIfInBounds_toArray, List.set_cons_zero, List.set_cons_succ, i64_w, i32_w]
    rfl
  refine done_ (by kernel_rfl) ?_
  have hcz7_0 : w7.cell? ⟨gb212, 0, none⟩ = some (.int .i64 a0_0) := (blk_cell BK212.out 0).trans rfl
  have hcz7_1 : w7.cell? ⟨gb212, 1, none⟩ = some (.int .i64 a0_1) := (blk_cell BK212.out 1).trans rfl
  have hcz7_2 : w7.cell? ⟨gb212, 2, none⟩ = some (.int .i64 a0_2) := (blk_cell BK212.out 2).trans rfl
  have hcz7_3 : w7.cell? ⟨gb212, 3, none⟩ = some (.int .i64 a0_3) := (blk_cell BK212.out 3).trans rfl
  have hcz7_4 : w7.cell? ⟨gb212, 4, none⟩ = some (.slice A0_4 l0_4.length c0_4) := (blk_cell BK212.out 4).trans rfl
  have hfz7_0 := blk_frozen BK212.out 0
  have hfz7_1 := blk_frozen BK212.out 1
  have hfz7_2 := blk_frozen BK212.out 2
  have hfz7_3 := blk_frozen BK212.out 3
  have hfz7_4 := blk_frozen BK212.out 4
  go_upto_if 12 with (fail)
  go_cut [12] (fun v12 wc => ∃ (kq : Nat) (x12_3 : Bool), v12 = .bool x12_3 ∧ Aside0 (impl_Formula_text.j0 kq l1 t213 a0_0 x12_3 a0_0 a0_1 a0_2 a0_3 l0_4 = some r) ∧ Aside0 (kq ≤ k) ∧ Aside0 (wc.heap[gb212]? = some (.cells #[.int .i64 a0_0, .int .i64 a0_1, .int .i64 a0_2, .int .i64 a0_3, (.slice A0_4 l0_4.length c0_4)] 32 (0, 0))) ∧ Aside0 (Below w.heap.size w wc))
  case first =>
    have H := HC4.out
    clear HC4
    by_cases c8 : a0_0 = 2
    · rw [if_pos c8] at H
      have c8b0 : (a0_0 == 2) = true := beq_iff_eq.mpr c8
      have c8b1 : (a0_0 != 2) = false := bne_eq_false_iff_eq.mpr c8
      clear c8
      (first | rw [c8b0] | (simp only [i64_w, i32_w]; rw [c8b0]) | skip)
      have H' := Aside0.mk H
      clear H
      go_wp2
      go_meet
      case rel => exact ⟨_, ((a0_0 == 2)), (by first | rfl | (simp; done) | (simp [*]; done) | (simp; rw [Bool.eq_iff_iff]; simp; done)), H', ⟨by first | omega | exact Nat.le_refl _⟩, ⟨by (with_reducible repeat (first | refine blk_drewN ?_ _ | refine blk_drew ?_ | refine blk_alloc ?_ _)); exact BK212.out⟩, ⟨by repeat (first | (with_reducible first | exact HB.out | apply below_alloc | apply pw_below_drewN | apply below_drew1 | refine below_set ?_ GE212.out) | exact HB.out)⟩⟩
    · rw [if_neg c8] at H
      have c8b0 : (a0_0 == 2) = false := beq_eq_false_iff_ne.mpr c8
      have c8b1 : (a0_0 != 2) = true := bne_iff_ne.mpr c8
      (first | rw [c8b0] | (simp only [i64_w, i32_w]; rw [c8b0]) | skip)
      have H' := Aside0.mk H
      clear H
      go_wp2
      go_meet
      case rel => exact ⟨_, ((a0_0 == 3)), (by first | rfl | (simp; done) | (simp [*]; done) | (simp; rw [Bool.eq_iff_iff]; simp; done)), H', ⟨by first | omega | exact Nat.le_refl _⟩, ⟨by (with_reducible repeat (first | refine blk_drewN ?_ _ | refine blk_drew ?_ | refine blk_alloc ?_ _)); exact BK212.out⟩, ⟨by repeat (first | (with_reducible first | exact HB.out | apply below_alloc | apply pw_below_drewN | apply below_drew1 | refine below_set ?_ GE212.out) | exact HB.out)⟩⟩
  case rest =>
    clear HC4
    try clear c1
    try clear p2
    try clear c4
    try clear c8
    try clear c8b0
    try clear c8b1
    try clear hcz7_0
    try clear hcz7_1
    try clear hcz7_2
    try clear hcz7_3
    try clear hcz7_4
    try clear hfz7_0
    try clear hfz7_1
    try clear hfz7_2
    try clear hfz7_3
    try clear hfz7_4
    obtain ⟨kq, x12_3, rfl, HA, HJ3, BK212, HB⟩ := hcut
    cases kq with
    | zero => exact absurd HA.out (by simp [impl_Formula_text.j0])
    | succ kj3 =>
      have H := HA.out
      clear HA
      simp only [impl_Formula_text.j0] at H
      by_cases c9 : x12_3 = true
      · subst c9
        have H1 : (if 0 ≤ a0_1 then (if a0_1 < (l1.length : Int) then (if t213.size + (rdOf ByteArray.empty l1 a0_1).size ≤ 9223372036854775807 then (if (t213 ++ (rdOf ByteArray.empty l1 a0_1)).size + 1 ≤ 9223372036854775807 then ((impl_logicName.f a0_2).bind fun t215 => (if ((t213 ++ (rdOf ByteArray.empty l1 a0_1)) ++ (⟨#[58]⟩ : ByteArray)).size + t215.size ≤ 9223372036854775807 then (some (((t213 ++ (rdOf ByteArray.empty l1 a0_1)) ++ (⟨#[58]⟩ : ByteArray)) ++ t215)) else (none))) else (none)) else (none)) else (none)) else (none)) = some r := by rw [if_pos rfl] at H; exact H
        clear H
        have H := H1
        clear H1
        by_cases c10 : 0 ≤ a0_1
        · rw [if_pos c10] at H
          have c10b0 : decide (0 ≤ a0_1) = true := decide_eq_true c10
          clear c10
          by_cases c11 : a0_1 < (l1.length : Int)
          · rw [if_pos c11] at H
            have c11b0 : decide (a0_1 < (l1.length : Int)) = true := decide_eq_true c11
            clear c11
            by_cases c12 : t213.size + (rdOf ByteArray.empty l1 a0_1).size ≤ 9223372036854775807
            · rw [if_pos c12] at H
              have c12b0 := eq_true c12
              have c12b1 : decide (t213.size + (rdOf ByteArray.empty l1 a0_1).size ≤ 9223372036854775807) = true := decide_eq_true c12
              try have c12b2 : (9223372036854775807 < t213.size + (rdOf ByteArray.empty l1 a0_1).size) = False := eq_false (Nat.not_lt.2 c12)
              by_cases c13 : (t213 ++ (rdOf ByteArray.empty l1 a0_1)).size + 1 ≤ 9223372036854775807
              · rw [if_pos c13] at H
                have c13b0 := eq_true c13
                have c13b1 : decide ((t213 ++ (rdOf ByteArray.empty l1 a0_1)).size + 1 ≤ 9223372036854775807) = true := decide_eq_true c13
                try have c13b2 : (9223372036854775807 < (t213 ++ (rdOf ByteArray.empty l1 a0_1)).size + 1) = False := eq_false (Nat.not_lt.2 c13)
                try have c13s : (9223372036854775807 < t213.size + (rdOf ByteArray.empty l1 a0_1).size + 1) = False := by have h := c13b2; simp only [ByteArray.size_append] at h; exact h
                replace H := Option.bind_eq_some_iff.mp H
                obtain ⟨t215, A140, H⟩ := H
                replace H : (if ((t213 ++ (rdOf ByteArray.empty l1 a0_1)) ++ (⟨#[58]⟩ : ByteArray)).size + t215.size ≤ 9223372036854775807 then (some (((t213 ++ (rdOf ByteArray.empty l1 a0_1)) ++ (⟨#[58]⟩ : ByteArray)) ++ t215)) else (none)) = some r := H
                have A14 := Aside0.mk A140
                clear A140
                by_cases c15 : ((t213 ++ (rdOf ByteArray.empty l1 a0_1)) ++ (⟨#[58]⟩ : ByteArray)).size + t215.size ≤ 9223372036854775807
                · rw [if_pos c15] at H
                  have c15b0 := eq_true c15
                  have c15b1 : decide (((t213 ++ (rdOf ByteArray.empty l1 a0_1)) ++ (⟨#[58]⟩ : ByteArray)).size + t215.size ≤ 9223372036854775807) = true := decide_eq_true c15
                  try have c15b2 : (9223372036854775807 < ((t213 ++ (rdOf ByteArray.empty l1 a0_1)) ++ (⟨#[58]⟩ : ByteArray)).size + t215.size) = False := eq_false (Nat.not_lt.2 c15)
                  try have c15s : (9223372036854775807 < t213.size + (rdOf ByteArray.empty l1 a0_1).size + 1 + t215.size) = False := by have h := c15b2; simp only [ByteArray.size_append] at h; exact h
                  obtain rfl := Option.some.inj H
                  try go_wp2
                  have n0_ := Aside0.mk (blk_drew BK212.out)
                  have n1_ := Aside0.mk (below_drew1 HB.out)
                  clear BK212
                  clear HB
                  have BK212 := n0_
                  have HB := n1_
                  clear n0_ n1_
                  have p214 : 0 ≤ (a0_1 : Int) := of_decide_eq_true (by first | (with_reducible assumption) | assumption)
                  have q214 : a0_1 < (l1.length : Int) := of_decide_eq_true (by first | (with_reducible assumption) | assumption)
                  obtain ⟨ad214, e214, hx214_0⟩ := Kd.at_string HR1.out a0_1 p214 q214
                  have hw214_0 := hx214_0
                  cases e214
                  replace hx214_0 := (HB.out.cell (World.block_lt_of_cell? w _ hx214_0)).trans hx214_0
                  replace p214 := eq_true p214
                  replace q214 := eq_true q214
                  refine start_ (n := 13) (S := fun w' => w'.cell? ⟨gb212, 0, none⟩ = some (.int .i64 a0_0) ∧ w'.cell? ⟨gb212, 1, none⟩ = some (.int .i64 a0_1) ∧ w'.cell? ⟨gb212, 2, none⟩ = some (.int .i64 a0_2) ∧ w'.cell? ⟨gb212, 3, none⟩ = some (.int .i64 a0_3) ∧ w'.cell? ⟨gb212, 4, none⟩ = some (.slice A0_4 l0_4.length c0_4) ∧ w'.cell? (ad214.add (a0_1).toNat) = some (.string (rdOf ByteArray.empty l1 a0_1))) (ds := []) #[false, false, false, false, false, false, false, false, false, false, false, false, false] (by kernel_rfl) rfl rfl ⟨(blk_cell BK212.out 0).trans rfl, (blk_cell BK212.out 1).trans rfl, (blk_cell BK212.out 2).trans rfl, (blk_cell BK212.out 3).trans rfl, (blk_cell BK212.out 4).trans rfl, ((HB.out.cell (World.block_lt_of_cell? w _ hw214_0)).trans hw214_0)⟩ (fun hHeld => ?_); refine with_tabW impl_Formula_text.tab5 impl_Formula_text.bits5 (fun HT_ HW_ => ?_)
                  generalize wc.drew = w16 at BK212 HB hx214_0 hHeld ⊢
                  refine pure_ (i := 0) (N := some 15) (v := ?_) (a' := ?_) #[true, false, false, false, false, false, false, false, false, false, false, false, false] rfl rfl (any_of HT_.out (by kernel_rfl)) (fun _ _ _ h => h) (Or.inl ⟨by rfl, ?_⟩) ?_ ?_
                  rotate_left
                  · intro w'
                    go_simp
                    with_reducible rfl
                  rotate_left
                  · simp only [Act.put, List.setIfInBounds_toArray, List.set_cons_zero, List.set_cons_succ, i64_w, i32_w]
                    rfl
                  refine pure_ (i := 1) (N := some 16) (v := ?_) (a' := ?_) #[true, true, false, false, false, false, false, false, false, false, false, false, false] rfl rfl (any_of HT_.out (by kernel_rfl)) (fun _ _ _ h => h) (Or.inl ⟨by rfl, ?_⟩) ?_ ?_
                  rotate_left
                  · intro w'
                    go_simp
                    with_reducible rfl
                  rotate_left
                  · simp only [Act.put, List.setIfInBounds_toArray, List.set_cons_zero, List.set_cons_succ, i64_w, i32_w]
                    rfl
                  refine pure_ (i := 2) (N := some 17) (v := ?_) (a' := ?_) #[true, true, true, false, false, false, false, false, false, false, false, false, false] rfl rfl (any_of HT_.out (by kernel_rfl)) (fun _ _ _ h => h) (Or.inl ⟨by rfl, ?_⟩) ?_ ?_
                  rotate_left
                  · intro w'
                    go_simp
                    with_reducible rfl
                  rotate_left
                  · simp only [Act.put, List.setIfInBounds_toArray, List.set_cons_zero, List.set_cons_succ, i64_w, i32_w]
                    rfl
                  refine pure_ (i := 8) (N := some 23) (v := ?_) (a' := ?_) #[true, true, true, false, false, false, false, false, true, false, false, false, false] rfl rfl (any_of HT_.out (by kernel_rfl)) (fun _ _ _ h => h) (Or.inl ⟨by rfl, ?_⟩) ?_ ?_
                  rotate_left
                  · intro w'
                    go_simp
                    with_reducible rfl
                  rotate_left
                  · simp only [Act.put, List.setIfInBounds_toArray, List.set_cons_zero, List.set_cons_succ, i64_w, i32_w]
                    rfl
                  refine take_ (i := 3) (N := some 18) (v := ?_) (a' := ?_) #[true, true, true, true, false, false, false, false, true, false, false, false, false] rfl rfl (take_ofW HT_.out HW_.out (by kernel_rfl)) (fun _ _ _ h => h) (Or.inl ⟨by rfl, ?_⟩) hHeld ?_ ?_
                  rotate_left
                  · rintro w' ⟨s0, s1, s2, s3, s4, s5⟩
                    go_simp
                    with_reducible rfl
                  rotate_left
                  · simp only [Act.put, List.setIfInBounds_toArray, List.set_cons_zero, List.set_cons_succ, i64_w, i32_w]
                    rfl
                  refine pure_ (i := 4) (N := some 19) (v := ?_) (a' := ?_) #[true, true, true, true, true, false, false, false, true, false, false, false, false] rfl rfl (any_of HT_.out (by kernel_rfl)) (fun _ _ _ h => h) (Or.inl ⟨by rfl, ?_⟩) ?_ ?_
                  rotate_left
                  · intro w'
                    go_simp
                    with_reducible rfl
                  rotate_left
                  · simp only [Act.put, List.setIfInBounds_toArray, List.set_cons_zero, List.set_cons_succ, i64_w, i32_w]
                    rfl
                  refine take_ (i := 5) (N := some 20) (v := ?_) (a' := ?_) #[true, true, true, true, true, true, false, false, true, false, false, false, false] rfl rfl (take_ofW HT_.out HW_.out (by kernel_rfl)) (fun _ _ _ h => h) (Or.inl ⟨by rfl, ?_⟩) hHeld ?_ ?_
                  rotate_left
                  · rintro w' ⟨s0, s1, s2, s3, s4, s5⟩
                    go_simp
                    with_reducible rfl
                  rotate_left
                  · simp only [Act.put, List.setIfInBounds_toArray, List.set_cons_zero, List.set_cons_succ, i64_w, i32_w]
                    rfl
                  refine pure_ (i := 6) (N := some 21) (v := ?_) (a' := ?_) #[true, true, true, true, true, true, true, false, true, false, false, false, false] rfl rfl (any_of HT_.out (by kernel_rfl)) (fun _ _ _ h => h) (Or.inl ⟨by rfl, ?_⟩) ?_ ?_
                  rotate_left
                  · intro w'
                    go_simp
                    with_reducible rfl
                  rotate_left
                  · simp only [Act.put, List.setIfInBounds_toArray, List.set_cons_zero, List.set_cons_succ, i64_w, i32_w]
                    rfl
                  refine pure_ (i := 7) (N := some 22) (v := ?_) (a' := ?_) #[true, true, true, true, true, true, true, true, true, false, false, false, false] rfl rfl (any_of HT_.out (by kernel_rfl)) (fun _ _ _ h => h) (Or.inl ⟨by rfl, ?_⟩) ?_ ?_
                  rotate_left
                  · intro w'
                    go_simp
                    with_reducible rfl
                  rotate_left
                  · simp only [Act.put, List.setIfInBounds_toArray, List.set_cons_zero, List.set_cons_succ, i64_w, i32_w]
                    rfl
                  refine take_ (i := 9) (N := some 24) (v := ?_) (a' := ?_) #[true, true, true, true, true, true, true, true, true, true, false, false, false] rfl rfl (take_ofW HT_.out HW_.out (by kernel_rfl)) (fun _ _ _ h => h) (Or.inl ⟨by rfl, ?_⟩) hHeld ?_ ?_
                  rotate_left
                  · rintro w' ⟨s0, s1, s2, s3, s4, s5⟩
                    go_simp
                    with_reducible rfl
                  rotate_left
                  · simp only [Act.put, List.setIfInBounds_toArray, List.set_cons_zero, List.set_cons_succ, i64_w, i32_w]
                    rfl
                  refine one_ (i := 10) (N := some 25) #[true, true, true, true, true, true, true, true, true, true, true, false, false] rfl rfl (one_of HT_.out (by kernel_rfl)) (by decide) (fun K hK => ?_)
                  refine goes_ Try.func84 (by kernel_rfl) rfl #[.int .i64 a0_2] (by rfl) rfl rfl (by (try simp only [List.map_toArray, List.map_cons, List.map_nil]); first | done | rfl | (simp only [List.length_drop, List.length_take]; rfl)) ?_
                  with_reducible refine (impl_logicName.calls a0_2 t215 _ A14.out).mono ?_
                  rintro e w' ⟨rfl, ⟨nd, rfl⟩⟩
                  refine ⟨_, rfl, ?_⟩
                  refine hK.out _ _ ⟨(blk_cell BK212.out 0).trans rfl, (blk_cell BK212.out 1).trans rfl, (blk_cell BK212.out 2).trans rfl, (blk_cell BK212.out 3).trans rfl, (blk_cell BK212.out 4).trans rfl, ((HB.out.cell (World.block_lt_of_cell? w _ hw214_0)).trans hw214_0)⟩ (fun hHeld => ?_)
                  clear hK K
                  refine norm_ (a' := ?_) ?_ ?_
                  rotate_left
                  · show Act.put _ (some 25) _ = _
                    simp only [Act.put, List.setIfInBounds_toArray, List.set_cons_zero, List.set_cons_succ, i64_w, i32_w]
                    rfl
                  refine pure_ (i := 11) (N := some 26) (v := ?_) (a' := ?_) #[true, true, true, true, true, true, true, true, true, true, true, true, false] rfl rfl (any_of HT_.out (by kernel_rfl)) (fun _ _ _ h => h) (Or.inl ⟨by rfl, ?_⟩) ?_ ?_
                  rotate_left
                  · intro w'
                    go_simp
                    with_reducible rfl
                  rotate_left
                  · simp only [Act.put, List.setIfInBounds_toArray, List.set_cons_zero, List.set_cons_succ, i64_w, i32_w]
                    rfl
                  refine pure_ (i := 12) (N := some 4) (v := ?_) (a' := ?_) #[true, true, true, true, true, true, true, true, true, true, true, true, true] rfl rfl (any_of HT_.out (by kernel_rfl)) (fun _ _ _ h => h) (Or.inl ⟨by rfl, ?_⟩) ?_ ?_
                  rotate_left
                  · intro w'
                    go_simp
                    with_reducible rfl
                  rotate_left
                  · simp only [Act.put, List.setIfInBounds_toArray, List.set_cons_zero, List.set_cons_succ, i64_w, i32_w]
                    rfl
                  refine done_ (done_of HT_.out (by kernel_rfl)) ?_
                  try go_wp2
                  go_ret
                  exact ⟨by first | rfl | (simp [errW_none, errW_some] <;> rfl) | (simp [*, errW_none, errW_some] <;> rfl), by repeat (first | (with_reducible first | exact HB.out | apply below_alloc | apply pw_below_drewN | apply below_drew1 | refine below_set ?_ GE212.out) | exact HB.out)⟩
                · rw [if_neg c15] at H
                  exact absurd H (by simp)
              · rw [if_neg c13] at H
                exact absurd H (by simp)
            · rw [if_neg c12] at H
              exact absurd H (by simp)
          · rw [if_neg c11] at H
            exact absurd H (by simp)
        · rw [if_neg c10] at H
          exact absurd H (by simp)
      · replace c9 := Bool.eq_false_iff.mpr c9
        subst c9
        have H1 : (if a0_0 = 4 then ((impl_logicName.f a0_2).bind fun t216 => (if t213.size + t216.size ≤ 9223372036854775807 then (some (t213 ++ t216)) else (none))) else (if a0_0 = 5 then (impl_Formula_text.j1 kj3 l1 t213 a0_0 (a0_0 == 5) a0_0 a0_1 a0_2 a0_3 l0_4) else (if a0_0 = 6 then (impl_Formula_text.j1 kj3 l1 t213 a0_0 (a0_0 == 6) a0_0 a0_1 a0_2 a0_3 l0_4) else (impl_Formula_text.j1 kj3 l1 t213 a0_0 (a0_0 == 7) a0_0 a0_1 a0_2 a0_3 l0_4)))) = some r := by rw [if_neg (show ¬ (false = true) by decide)] at H; exact H
        clear H
        have H := H1
        clear H1
        by_cases c17 : a0_0 = 4
        · rw [if_pos c17] at H
          have c17b0 : (a0_0 == 4) = true := beq_iff_eq.mpr c17
          have c17b1 : (a0_0 != 4) = false := bne_eq_false_iff_eq.mpr c17
          clear c17
          replace H := Option.bind_eq_some_iff.mp H
          obtain ⟨t216, A180, H⟩ := H
          replace H : (if t213.size + t216.size ≤ 9223372036854775807 then (some (t213 ++ t216)) else (none)) = some r := H
          have A18 := Aside0.mk A180
          clear A180
          by_cases c19 : t213.size + t216.size ≤ 9223372036854775807
          · rw [if_pos c19] at H
            have c19b0 := eq_true c19
            have c19b1 : decide (t213.size + t216.size ≤ 9223372036854775807) = true := decide_eq_true c19
            try have c19b2 : (9223372036854775807 < t213.size + t216.size) = False := eq_false (Nat.not_lt.2 c19)
            obtain rfl := Option.some.inj H
            have hcz20_0 : wc.cell? ⟨gb212, 0, none⟩ = some (.int .i64 a0_0) := (blk_cell BK212.out 0).trans rfl
            have hcz20_1 : wc.cell? ⟨gb212, 1, none⟩ = some (.int .i64 a0_1) := (blk_cell BK212.out 1).trans rfl
            have hcz20_2 : wc.cell? ⟨gb212, 2, none⟩ = some (.int .i64 a0_2) := (blk_cell BK212.out 2).trans rfl
            have hcz20_3 : wc.cell? ⟨gb212, 3, none⟩ = some (.int .i64 a0_3) := (blk_cell BK212.out 3).trans rfl
            have hcz20_4 : wc.cell? ⟨gb212, 4, none⟩ = some (.slice A0_4 l0_4.length c0_4) := (blk_cell BK212.out 4).trans rfl
            have hfz20_0 := blk_frozen BK212.out 0
            have hfz20_1 := blk_frozen BK212.out 1
            have hfz20_2 := blk_frozen BK212.out 2
            have hfz20_3 := blk_frozen BK212.out 3
            have hfz20_4 := blk_frozen BK212.out 4
            go_wp2_with (first | ((with_reducible refine gate_callee (f := 84) rfl ?_); refine goesL_ (some 32) rfl rfl Try.func84 (by kernel_rfl) rfl #[.int .i64 a0_2] rfl (by (try simp only [List.map_toArray, List.map_cons, List.map_nil]); first | done | rfl | (simp only [List.length_drop, List.length_take]; rfl)) ?_; (with_reducible refine (impl_logicName.calls a0_2 t216 _ A18.out).mono ?_); rintro e w' ⟨rfl, ⟨nd, rfl⟩⟩; refine ⟨_, rfl, ?_⟩))
            go_ret
            exact ⟨by first | rfl | (simp [errW_none, errW_some] <;> rfl) | (simp [*, errW_none, errW_some] <;> rfl), by repeat (first | (with_reducible first | exact HB.out | apply below_alloc | apply pw_below_drewN | apply below_drew1 | refine below_set ?_ GE212.out) | exact HB.out)⟩
          · rw [if_neg c19] at H
            exact absurd H (by simp)
        · rw [if_neg c17] at H
          have c17b0 : (a0_0 == 4) = false := beq_eq_false_iff_ne.mpr c17
          have c17b1 : (a0_0 != 4) = true := bne_iff_ne.mpr c17
          have HC21 := Aside0.mk H
          clear H
          go_upto_if 34 with (fail)
          go_cut [34] (fun v34 wc => ∃ (kq : Nat) (x34_20 : Bool), v34 = .bool x34_20 ∧ Aside0 (impl_Formula_text.j1 kq l1 t213 a0_0 x34_20 a0_0 a0_1 a0_2 a0_3 l0_4 = some r) ∧ Aside0 (kq ≤ kj3) ∧ Aside0 (wc.heap[gb212]? = some (.cells #[.int .i64 a0_0, .int .i64 a0_1, .int .i64 a0_2, .int .i64 a0_3, (.slice A0_4 l0_4.length c0_4)] 32 (0, 0))) ∧ Aside0 (Below w.heap.size w wc))
          case first =>
            have H := HC21.out
            clear HC21
            by_cases c22 : a0_0 = 5
            · rw [if_pos c22] at H
              have c22b0 : (a0_0 == 5) = true := beq_iff_eq.mpr c22
              have c22b1 : (a0_0 != 5) = false := bne_eq_false_iff_eq.mpr c22
              clear c22
              (first | rw [c22b0] | (simp only [i64_w, i32_w]; rw [c22b0]) | skip)
              have H' := Aside0.mk H
              clear H
              go_wp2
              go_meet
              case rel => exact ⟨_, ((a0_0 == 5)), (by first | rfl | (simp; done) | (simp [*]; done) | (simp; rw [Bool.eq_iff_iff]; simp; done)), H', ⟨by have := HJ3.out; first | omega | exact Nat.le_refl _⟩, ⟨by (with_reducible repeat (first | refine blk_drewN ?_ _ | refine blk_drew ?_ | refine blk_alloc ?_ _)); exact BK212.out⟩, ⟨by repeat (first | (with_reducible first | exact HB.out | apply below_alloc | apply pw_below_drewN | apply below_drew1 | refine below_set ?_ GE212.out) | exact HB.out)⟩⟩
            · rw [if_neg c22] at H
              have c22b0 : (a0_0 == 5) = false := beq_eq_false_iff_ne.mpr c22
              have c22b1 : (a0_0 != 5) = true := bne_iff_ne.mpr c22
              (first | rw [c22b0] | (simp only [i64_w, i32_w]; rw [c22b0]) | skip)
              by_cases c23 : a0_0 = 6
              · rw [if_pos c23] at H
                have c23b0 : (a0_0 == 6) = true := beq_iff_eq.mpr c23
                have c23b1 : (a0_0 != 6) = false := bne_eq_false_iff_eq.mpr c23
                clear c23
                have H' := Aside0.mk H
                clear H
                go_wp2
                go_meet
                case rel => exact ⟨_, ((a0_0 == 6)), (by first | rfl | (simp; done) | (simp [*]; done) | (simp; rw [Bool.eq_iff_iff]; simp; done)), H', ⟨by have := HJ3.out; first | omega | exact Nat.le_refl _⟩, ⟨by (with_reducible repeat (first | refine blk_drewN ?_ _ | refine blk_drew ?_ | refine blk_alloc ?_ _)); exact BK212.out⟩, ⟨by repeat (first | (with_reducible first | exact HB.out | apply below_alloc | apply pw_below_drewN | apply below_drew1 | refine below_set ?_ GE212.out) | exact HB.out)⟩⟩
              · rw [if_neg c23] at H
                have c23b0 : (a0_0 == 6) = false := beq_eq_false_iff_ne.mpr c23
                have c23b1 : (a0_0 != 6) = true := bne_iff_ne.mpr c23
                have H' := Aside0.mk H
                clear H
                go_wp2
                go_meet
                case rel => exact ⟨_, ((a0_0 == 7)), (by first | rfl | (simp; done) | (simp [*]; done) | (simp; rw [Bool.eq_iff_iff]; simp; done)), H', ⟨by have := HJ3.out; first | omega | exact Nat.le_refl _⟩, ⟨by (with_reducible repeat (first | refine blk_drewN ?_ _ | refine blk_drew ?_ | refine blk_alloc ?_ _)); exact BK212.out⟩, ⟨by repeat (first | (with_reducible first | exact HB.out | apply below_alloc | apply pw_below_drewN | apply below_drew1 | refine below_set ?_ GE212.out) | exact HB.out)⟩⟩
          case rest =>
            clear HC21
            try clear c1
            try clear c2
            try clear p2
            try clear q2
            try clear hx2
            try clear c4
            try clear c8
            try clear c8b0
            try clear c8b1
            try clear c9
            try clear c10
            try clear c10b0
            try clear c11
            try clear c11b0
            try clear c12
            try clear c12b0
            try clear c12b1
            try clear c12b2
            try clear c13
            try clear c13b0
            try clear c13b1
            try clear c13b2
            try clear c15
            try clear c15b0
            try clear c15b1
            try clear c15b2
            try clear c17
            try clear c17b0
            try clear c17b1
            try clear c19
            try clear c19b0
            try clear c19b1
            try clear c19b2
            try clear p21
            try clear q21
            try clear hx21
            try clear c22
            try clear c22b0
            try clear c22b1
            try clear c23
            try clear c23b0
            try clear c23b1
            try clear hcz20_0
            try clear hcz20_1
            try clear hcz20_2
            try clear hcz20_3
            try clear hcz20_4
            try clear hcz7_0
            try clear hcz7_1
            try clear hcz7_2
            try clear hcz7_3
            try clear hcz7_4
            try clear hfz20_0
            try clear hfz20_1
            try clear hfz20_2
            try clear hfz20_3
            try clear hfz20_4
            try clear hfz7_0
            try clear hfz7_1
            try clear hfz7_2
            try clear hfz7_3
            try clear hfz7_4
            try clear hx214_0
            try clear p2
            try clear p214
            try clear q214
            obtain ⟨kq, x34_20, rfl, HA, HJ20, BK212, HB⟩ := hcut
            cases kq with
            | zero => exact absurd HA.out (by simp [impl_Formula_text.j1])
            | succ kj20 =>
              have H := HA.out
              clear HA
              simp only [impl_Formula_text.j1] at H
              by_cases c24 : x34_20 = true
              · subst c24
                have H1 : ((impl_logicName.f a0_2).bind fun t217 => (if t213.size + t217.size ≤ 9223372036854775807 then ((impl_logicName.f a0_3).bind fun t218 => (if (t213 ++ t217).size + t218.size ≤ 9223372036854775807 then (some ((t213 ++ t217) ++ t218)) else (none))) else (none))) = some r := by rw [if_pos rfl] at H; exact H
                clear H
                have H := H1
                clear H1
                replace H := Option.bind_eq_some_iff.mp H
                obtain ⟨t217, A250, H⟩ := H
                replace H : (if t213.size + t217.size ≤ 9223372036854775807 then ((impl_logicName.f a0_3).bind fun t218 => (if (t213 ++ t217).size + t218.size ≤ 9223372036854775807 then (some ((t213 ++ t217) ++ t218)) else (none))) else (none)) = some r := H
                have A25 := Aside0.mk A250
                clear A250
                by_cases c26 : t213.size + t217.size ≤ 9223372036854775807
                · rw [if_pos c26] at H
                  have c26b0 := eq_true c26
                  have c26b1 : decide (t213.size + t217.size ≤ 9223372036854775807) = true := decide_eq_true c26
                  try have c26b2 : (9223372036854775807 < t213.size + t217.size) = False := eq_false (Nat.not_lt.2 c26)
                  replace H := Option.bind_eq_some_iff.mp H
                  obtain ⟨t218, A270, H⟩ := H
                  replace H : (if (t213 ++ t217).size + t218.size ≤ 9223372036854775807 then (some ((t213 ++ t217) ++ t218)) else (none)) = some r := H
                  have A27 := Aside0.mk A270
                  clear A270
                  by_cases c28 : (t213 ++ t217).size + t218.size ≤ 9223372036854775807
                  · rw [if_pos c28] at H
                    have c28b0 := eq_true c28
                    have c28b1 : decide ((t213 ++ t217).size + t218.size ≤ 9223372036854775807) = true := decide_eq_true c28
                    try have c28b2 : (9223372036854775807 < (t213 ++ t217).size + t218.size) = False := eq_false (Nat.not_lt.2 c28)
                    try have c28s : (9223372036854775807 < t213.size + t217.size + t218.size) = False := by have h := c28b2; simp only [ByteArray.size_append] at h; exact h
                    obtain rfl := Option.some.inj H
                    try go_wp2
                    have n0_ := Aside0.mk (blk_drew BK212.out)
                    have n1_ := Aside0.mk (below_drew1 HB.out)
                    clear BK212
                    clear HB
                    have BK212 := n0_
                    have HB := n1_
                    clear n0_ n1_
                    refine start_ (n := 10) (S := fun w' => w'.cell? ⟨gb212, 0, none⟩ = some (.int .i64 a0_0) ∧ w'.cell? ⟨gb212, 1, none⟩ = some (.int .i64 a0_1) ∧ w'.cell? ⟨gb212, 2, none⟩ = some (.int .i64 a0_2) ∧ w'.cell? ⟨gb212, 3, none⟩ = some (.int .i64 a0_3) ∧ w'.cell? ⟨gb212, 4, none⟩ = some (.slice A0_4 l0_4.length c0_4)) (ds := []) #[false, false, false, false, false, false, false, false, false, false] (by kernel_rfl) rfl rfl ⟨(blk_cell BK212.out 0).trans rfl, (blk_cell BK212.out 1).trans rfl, (blk_cell BK212.out 2).trans rfl, (blk_cell BK212.out 3).trans rfl, (blk_cell BK212.out 4).trans rfl⟩ (fun hHeld => ?_); refine with_tabW impl_Formula_text.tab11 impl_Formula_text.bits11 (fun HT_ HW_ => ?_)
                    generalize wc.drew = w29 at BK212 HB hHeld ⊢
                    refine pure_ (i := 0) (N := some 38) (v := ?_) (a' := ?_) #[true, false, false, false, false, false, false, false, false, false] rfl rfl (any_of HT_.out (by kernel_rfl)) (fun _ _ _ h => h) (Or.inl ⟨by rfl, ?_⟩) ?_ ?_
                    rotate_left
                    · intro w'
                      go_simp
                      with_reducible rfl
                    rotate_left
                    · simp only [Act.put, List.setIfInBounds_toArray, List.set_cons_zero, List.set_cons_succ, i64_w, i32_w]
                      rfl
                    refine pure_ (i := 1) (N := some 39) (v := ?_) (a' := ?_) #[true, true, false, false, false, false, false, false, false, false] rfl rfl (any_of HT_.out (by kernel_rfl)) (fun _ _ _ h => h) (Or.inl ⟨by rfl, ?_⟩) ?_ ?_
                    rotate_left
                    · intro w'
                      go_simp
                      with_reducible rfl
                    rotate_left
                    · simp only [Act.put, List.setIfInBounds_toArray, List.set_cons_zero, List.set_cons_succ, i64_w, i32_w]
                      rfl
                    refine pure_ (i := 5) (N := some 43) (v := ?_) (a' := ?_) #[true, true, false, false, false, true, false, false, false, false] rfl rfl (any_of HT_.out (by kernel_rfl)) (fun _ _ _ h => h) (Or.inl ⟨by rfl, ?_⟩) ?_ ?_
                    rotate_left
                    · intro w'
                      go_simp
                      with_reducible rfl
                    rotate_left
                    · simp only [Act.put, List.setIfInBounds_toArray, List.set_cons_zero, List.set_cons_succ, i64_w, i32_w]
                      rfl
                    refine take_ (i := 2) (N := some 40) (v := ?_) (a' := ?_) #[true, true, true, false, false, true, false, false, false, false] rfl rfl (take_ofW HT_.out HW_.out (by kernel_rfl)) (fun _ _ _ h => h) (Or.inl ⟨by rfl, ?_⟩) hHeld ?_ ?_
                    rotate_left
                    · rintro w' ⟨s0, s1, s2, s3, s4⟩
                      go_simp
                      with_reducible rfl
                    rotate_left
                    · simp only [Act.put, List.setIfInBounds_toArray, List.set_cons_zero, List.set_cons_succ, i64_w, i32_w]
                      rfl
                    refine take_ (i := 6) (N := some 44) (v := ?_) (a' := ?_) #[true, true, true, false, false, true, true, false, false, false] rfl rfl (take_ofW HT_.out HW_.out (by kernel_rfl)) (fun _ _ _ h => h) (Or.inl ⟨by rfl, ?_⟩) hHeld ?_ ?_
                    rotate_left
                    · rintro w' ⟨s0, s1, s2, s3, s4⟩
                      go_simp
                      with_reducible rfl
                    rotate_left
                    · simp only [Act.put, List.setIfInBounds_toArray, List.set_cons_zero, List.set_cons_succ, i64_w, i32_w]
                      rfl
                    refine one_ (i := 3) (N := some 41) #[true, true, true, true, false, true, true, false, false, false] rfl rfl (one_of HT_.out (by kernel_rfl)) (by decide) (fun K hK => ?_)
                    refine goes_ Try.func84 (by kernel_rfl) rfl #[.int .i64 a0_2] (by rfl) rfl rfl (by (try simp only [List.map_toArray, List.map_cons, List.map_nil]); first | done | rfl | (simp only [List.length_drop, List.length_take]; rfl)) ?_
                    with_reducible refine (impl_logicName.calls a0_2 t217 _ A25.out).mono ?_
                    rintro e w' ⟨rfl, ⟨nd, rfl⟩⟩
                    refine ⟨_, rfl, ?_⟩
                    refine hK.out _ _ ⟨(blk_cell BK212.out 0).trans rfl, (blk_cell BK212.out 1).trans rfl, (blk_cell BK212.out 2).trans rfl, (blk_cell BK212.out 3).trans rfl, (blk_cell BK212.out 4).trans rfl⟩ (fun hHeld => ?_)
                    clear hK K
                    refine norm_ (a' := ?_) ?_ ?_
                    rotate_left
                    · show Act.put _ (some 41) _ = _
                      simp only [Act.put, List.setIfInBounds_toArray, List.set_cons_zero, List.set_cons_succ, i64_w, i32_w]
                      rfl
                    refine pure_ (i := 4) (N := some 42) (v := ?_) (a' := ?_) #[true, true, true, true, true, true, true, false, false, false] rfl rfl (any_of HT_.out (by kernel_rfl)) (fun _ _ _ h => h) (Or.inl ⟨by rfl, ?_⟩) ?_ ?_
                    rotate_left
                    · intro w'
                      go_simp
                      with_reducible rfl
                    rotate_left
                    · simp only [Act.put, List.setIfInBounds_toArray, List.set_cons_zero, List.set_cons_succ, i64_w, i32_w]
                      rfl
                    refine one_ (i := 7) (N := some 45) #[true, true, true, true, true, true, true, true, false, false] rfl rfl (one_of HT_.out (by kernel_rfl)) (by decide) (fun K hK => ?_)
                    refine goes_ Try.func84 (by kernel_rfl) rfl #[.int .i64 a0_3] (by rfl) rfl rfl (by (try simp only [List.map_toArray, List.map_cons, List.map_nil]); first | done | rfl | (simp only [List.length_drop, List.length_take]; rfl)) ?_
                    with_reducible refine (impl_logicName.calls a0_3 t218 _ A27.out).mono ?_
                    rintro e w' ⟨rfl, ⟨nd, rfl⟩⟩
                    refine ⟨_, rfl, ?_⟩
                    refine hK.out _ _ ⟨(blk_cell BK212.out 0).trans rfl, (blk_cell BK212.out 1).trans rfl, (blk_cell BK212.out 2).trans rfl, (blk_cell BK212.out 3).trans rfl, (blk_cell BK212.out 4).trans rfl⟩ (fun hHeld => ?_)
                    clear hK K
                    refine norm_ (a' := ?_) ?_ ?_
                    rotate_left
                    · show Act.put _ (some 45) _ = _
                      simp only [Act.put, List.setIfInBounds_toArray, List.set_cons_zero, List.set_cons_succ, i64_w, i32_w]
                      rfl
                    refine pure_ (i := 8) (N := some 46) (v := ?_) (a' := ?_) #[true, true, true, true, true, true, true, true, true, false] rfl rfl (any_of HT_.out (by kernel_rfl)) (fun _ _ _ h => h) (Or.inl ⟨by rfl, ?_⟩) ?_ ?_
                    rotate_left
                    · intro w'
                      go_simp
                      with_reducible rfl
                    rotate_left
                    · simp only [Act.put, List.setIfInBounds_toArray, List.set_cons_zero, List.set_cons_succ, i64_w, i32_w]
                      rfl
                    refine pure_ (i := 9) (N := some 4) (v := ?_) (a' := ?_) #[true, true, true, true, true, true, true, true, true, true] rfl rfl (any_of HT_.out (by kernel_rfl)) (fun _ _ _ h => h) (Or.inl ⟨by rfl, ?_⟩) ?_ ?_
                    rotate_left
                    · intro w'
                      go_simp
                      with_reducible rfl
                    rotate_left
                    · simp only [Act.put, List.setIfInBounds_toArray, List.set_cons_zero, List.set_cons_succ, i64_w, i32_w]
                      rfl
                    refine done_ (done_of HT_.out (by kernel_rfl)) ?_
                    try go_wp2
                    go_ret
                    exact ⟨by first | rfl | (simp [errW_none, errW_some] <;> rfl) | (simp [*, errW_none, errW_some] <;> rfl), by repeat (first | (with_reducible first | exact HB.out | apply below_alloc | apply pw_below_drewN | apply below_drew1 | refine below_set ?_ GE212.out) | exact HB.out)⟩
                  · rw [if_neg c28] at H
                    exact absurd H (by simp)
                · rw [if_neg c26] at H
                  exact absurd H (by simp)
              · replace c24 := Bool.eq_false_iff.mpr c24
                subst c24
                have H1 : (if a0_0 = 8 then (if 0 < (l0_4.length : Int) then ((impl_Formula_text.f kj20 ((rd_T32 l0_4 0).f0) ((rd_T32 l0_4 0).f1) ((rd_T32 l0_4 0).f2) ((rd_T32 l0_4 0).f3) ((rd_T32 l0_4 0).f4) l1).bind fun t220 => (if 1 + t220.size ≤ 9223372036854775807 then (some ((⟨#[33]⟩ : ByteArray) ++ t220)) else (none))) else (none)) else (if a0_0 = 9 then (if 0 < (l0_4.length : Int) then ((impl_Formula_text.f kj20 ((rd_T32 l0_4 0).f0) ((rd_T32 l0_4 0).f1) ((rd_T32 l0_4 0).f2) ((rd_T32 l0_4 0).f3) ((rd_T32 l0_4 0).f4) l1).bind fun t222 => (if 1 + t222.size ≤ 9223372036854775807 then (if ((⟨#[40]⟩ : ByteArray) ++ t222).size + 1 ≤ 9223372036854775807 then (if 1 < (l0_4.length : Int) then ((impl_Formula_text.f kj20 ((rd_T32 l0_4 1).f0) ((rd_T32 l0_4 1).f1) ((rd_T32 l0_4 1).f2) ((rd_T32 l0_4 1).f3) ((rd_T32 l0_4 1).f4) l1).bind fun t224 => (if (((⟨#[40]⟩ : ByteArray) ++ t222) ++ (⟨#[38]⟩ : ByteArray)).size + t224.size ≤ 9223372036854775807 then (if ((((⟨#[40]⟩ : ByteArray) ++ t222) ++ (⟨#[38]⟩ : ByteArray)) ++ t224).size + 1 ≤ 9223372036854775807 then (some (((((⟨#[40]⟩ : ByteArray) ++ t222) ++ (⟨#[38]⟩ : ByteArray)) ++ t224) ++ (⟨#[41]⟩ : ByteArray))) else (none)) else (none))) else (none)) else (none)) else (none))) else (none)) else (if a0_0 = 10 then (if 0 < (l0_4.length : Int) then ((impl_Formula_text.f kj20 ((rd_T32 l0_4 0).f0) ((rd_T32 l0_4 0).f1) ((rd_T32 l0_4 0).f2) ((rd_T32 l0_4 0).f3) ((rd_T32 l0_4 0).f4) l1).bind fun t226 => (if 1 + t226.size ≤ 9223372036854775807 then (if ((⟨#[40]⟩ : ByteArray) ++ t226).size + 1 ≤ 9223372036854775807 then (if 1 < (l0_4.length : Int) then ((impl_Formula_text.f kj20 ((rd_T32 l0_4 1).f0) ((rd_T32 l0_4 1).f1) ((rd_T32 l0_4 1).f2) ((rd_T32 l0_4 1).f3) ((rd_T32 l0_4 1).f4) l1).bind fun t228 => (if (((⟨#[40]⟩ : ByteArray) ++ t226) ++ (⟨#[124]⟩ : ByteArray)).size + t228.size ≤ 9223372036854775807 then (if ((((⟨#[40]⟩ : ByteArray) ++ t226) ++ (⟨#[124]⟩ : ByteArray)) ++ t228).size + 1 ≤ 9223372036854775807 then (some (((((⟨#[40]⟩ : ByteArray) ++ t226) ++ (⟨#[124]⟩ : ByteArray)) ++ t228) ++ (⟨#[41]⟩ : ByteArray))) else (none)) else (none))) else (none)) else (none)) else (none))) else (none)) else (if a0_0 = 11 then (impl_Formula_text.j2 kj20 l1 t213 (a0_0 == 11) a0_0 a0_1 a0_2 a0_3 l0_4) else (impl_Formula_text.j2 kj20 l1 t213 (a0_0 == 12) a0_0 a0_1 a0_2 a0_3 l0_4))))) = some r := by rw [if_neg (show ¬ (false = true) by decide)] at H; exact H
                clear H
                have H := H1
                clear H1
                by_cases c30 : a0_0 = 8
                · rw [if_pos c30] at H
                  have c30b0 : (a0_0 == 8) = true := beq_iff_eq.mpr c30
                  have c30b1 : (a0_0 != 8) = false := bne_eq_false_iff_eq.mpr c30
                  clear c30
                  by_cases c31 : 0 < (l0_4.length : Int)
                  · rw [if_pos c31] at H
                    have c31b0 : decide (0 < (l0_4.length : Int)) = true := decide_eq_true c31
                    have c31b1 : decide (0 < l0_4.length) = true := decide_eq_true (by omega)
                    clear c31
                    replace H := Option.bind_eq_some_iff.mp H
                    obtain ⟨t220, A320, H⟩ := H
                    replace H : (if 1 + t220.size ≤ 9223372036854775807 then (some ((⟨#[33]⟩ : ByteArray) ++ t220)) else (none)) = some r := H
                    have A32 := Aside0.mk A320
                    clear A320
                    by_cases c33 : 1 + t220.size ≤ 9223372036854775807
                    · rw [if_pos c33] at H
                      have c33b0 := eq_true c33
                      have c33b1 : decide (1 + t220.size ≤ 9223372036854775807) = true := decide_eq_true c33
                      try have c33b2 : (9223372036854775807 < 1 + t220.size) = False := eq_false (Nat.not_lt.2 c33)
                      obtain rfl := Option.some.inj H
                      have hcz34_0 : wc.cell? ⟨gb212, 0, none⟩ = some (.int .i64 a0_0) := (blk_cell BK212.out 0).trans rfl
                      have hcz34_1 : wc.cell? ⟨gb212, 1, none⟩ = some (.int .i64 a0_1) := (blk_cell BK212.out 1).trans rfl
                      have hcz34_2 : wc.cell? ⟨gb212, 2, none⟩ = some (.int .i64 a0_2) := (blk_cell BK212.out 2).trans rfl
                      have hcz34_3 : wc.cell? ⟨gb212, 3, none⟩ = some (.int .i64 a0_3) := (blk_cell BK212.out 3).trans rfl
                      have hcz34_4 : wc.cell? ⟨gb212, 4, none⟩ = some (.slice A0_4 l0_4.length c0_4) := (blk_cell BK212.out 4).trans rfl
                      have hfz34_0 := blk_frozen BK212.out 0
                      have hfz34_1 := blk_frozen BK212.out 1
                      have hfz34_2 := blk_frozen BK212.out 2
                      have hfz34_3 := blk_frozen BK212.out 3
                      have hfz34_4 := blk_frozen BK212.out 4
                      have p219 : 0 ≤ (0 : Int) := (by omega)
                      have q219 : 0 < (l0_4.length : Int) := of_decide_eq_true (by first | (with_reducible assumption) | assumption)
                      obtain ⟨ad219, A219_4, c219_4, e219, hx219_0, hx219_1, hx219_2, hx219_3, hx219_4, hl219_4, hi219_4⟩ := at_T32 HR0_4.out 0 p219 q219
                      cases e219
                      have qi219 : (0 < l0_4.length) = True := eq_true (by omega)
                      (try rw [show ((0 : Int)).toNat = 0 from rfl] at hx219_0)
                      (try rw [show 0 * 5 = 0 from rfl] at hx219_0)
                      (try rw [Addr.add_zero'] at hx219_0)
                      (try rw [show ((0 : Int)).toNat = 0 from rfl] at hx219_1)
                      (try rw [show 0 * 5 = 0 from rfl] at hx219_1)
                      (try rw [Addr.add_zero'] at hx219_1)
                      (try rw [show ((0 : Int)).toNat = 0 from rfl] at hx219_2)
                      (try rw [show 0 * 5 = 0 from rfl] at hx219_2)
                      (try rw [Addr.add_zero'] at hx219_2)
                      (try rw [show ((0 : Int)).toNat = 0 from rfl] at hx219_3)
                      (try rw [show 0 * 5 = 0 from rfl] at hx219_3)
                      (try rw [Addr.add_zero'] at hx219_3)
                      (try rw [show ((0 : Int)).toNat = 0 from rfl] at hx219_4)
                      (try rw [show 0 * 5 = 0 from rfl] at hx219_4)
                      (try rw [Addr.add_zero'] at hx219_4)
                      replace hx219_0 := (HB.out.cell (World.block_lt_of_cell? w _ hx219_0)).trans hx219_0
                      replace hx219_1 := (HB.out.cell (World.block_lt_of_cell? w _ hx219_1)).trans hx219_1
                      replace hx219_2 := (HB.out.cell (World.block_lt_of_cell? w _ hx219_2)).trans hx219_2
                      replace hx219_3 := (HB.out.cell (World.block_lt_of_cell? w _ hx219_3)).trans hx219_3
                      replace hx219_4 := (HB.out.cell (World.block_lt_of_cell? w _ hx219_4)).trans hx219_4
                      have HR219_4 := Aside0.mk hi219_4
                      have HC219_4 := Aside0.mk hl219_4
                      clear hi219_4 hl219_4
                      replace p219 := eq_true p219
                      replace q219 := eq_true q219
                      go_wp2_with (first | ((with_reducible refine gate_callee (f := 47) rfl ?_); refine goesL_ (some 54) rfl rfl Try.func47 (by kernel_rfl) rfl #[.agg #[.int .i64 ((rd_T32 l0_4 0).f0), .int .i64 ((rd_T32 l0_4 0).f1), .int .i64 ((rd_T32 l0_4 0).f2), .int .i64 ((rd_T32 l0_4 0).f3), .slice A219_4 ((rd_T32 l0_4 0).f4).length c219_4], .slice A1 l1.length c1] rfl (by (try simp only [List.map_toArray, List.map_cons, List.map_nil]); first | done | rfl | (simp only [List.length_drop, List.length_take]; rfl)) ?_; (with_reducible refine (ih kj20 (by have := HJ3.out; have := HJ20.out; omega) ((rd_T32 l0_4 0).f0) ((rd_T32 l0_4 0).f1) ((rd_T32 l0_4 0).f2) ((rd_T32 l0_4 0).f3) _ _ ((rd_T32 l0_4 0).f4) _ _ l1 t220 _ ?side1 ?side2 ?side3 ?side4 A32.out).mono ?_); (case side1 => repeat (first | exact (Kd.C_below HR219_4.out HB.out) | (with_reducible refine Kd.C_alloc ?_ _) | (with_reducible refine Kd.C_drewN ?_ _) | (with_reducible refine Kd.C_drew ?_))); (case side2 => exact HC219_4.out); (case side3 => repeat (first | exact (Kd.C_below HR1.out HB.out) | (with_reducible refine Kd.C_alloc ?_ _) | (with_reducible refine Kd.C_drewN ?_ _) | (with_reducible refine Kd.C_drew ?_))); (case side4 => exact HC1.out); rintro e w35 ⟨rfl, hb⟩; refine ⟨_, rfl, ?_⟩; have n0_ := Aside0.mk (blk_below (g := gb212) (o := .cells #[.int .i64 a0_0, .int .i64 a0_1, .int .i64 a0_2, .int .i64 a0_3, .slice (some ad219) l0_4.length c0_4] 32 (0, 0)) (by (with_reducible repeat (first | refine blk_drewN ?_ _ | refine blk_drew ?_ | refine blk_alloc ?_ _)); exact BK212.out) hb); have n1_ := Aside0.mk (below_step (by repeat (first | (with_reducible first | exact HB.out | apply below_alloc | apply pw_below_drewN | apply below_drew1 | refine below_set ?_ GE212.out) | exact HB.out)) hb); clear BK212; clear HB; have BK212 := n0_; have HB := n1_; clear n0_ n1_; (try clear hb); (try clear hb2); (try clear hk); (try clear hi)))
                      go_ret
                      exact ⟨by first | rfl | (simp [errW_none, errW_some] <;> rfl) | (simp [*, errW_none, errW_some] <;> rfl), by repeat (first | (with_reducible first | exact HB.out | apply below_alloc | apply pw_below_drewN | apply below_drew1 | refine below_set ?_ GE212.out) | exact HB.out)⟩
                    · rw [if_neg c33] at H
                      exact absurd H (by simp)
                  · rw [if_neg c31] at H
                    exact absurd H (by simp)
                · rw [if_neg c30] at H
                  have c30b0 : (a0_0 == 8) = false := beq_eq_false_iff_ne.mpr c30
                  have c30b1 : (a0_0 != 8) = true := bne_iff_ne.mpr c30
                  by_cases c36 : a0_0 = 9
                  · rw [if_pos c36] at H
                    have c36b0 : (a0_0 == 9) = true := beq_iff_eq.mpr c36
                    have c36b1 : (a0_0 != 9) = false := bne_eq_false_iff_eq.mpr c36
                    clear c36
                    by_cases c37 : 0 < (l0_4.length : Int)
                    · rw [if_pos c37] at H
                      have c37b0 : decide (0 < (l0_4.length : Int)) = true := decide_eq_true c37
                      have c37b1 : decide (0 < l0_4.length) = true := decide_eq_true (by omega)
                      clear c37
                      replace H := Option.bind_eq_some_iff.mp H
                      obtain ⟨t222, A380, H⟩ := H
                      replace H : (if 1 + t222.size ≤ 9223372036854775807 then (if ((⟨#[40]⟩ : ByteArray) ++ t222).size + 1 ≤ 9223372036854775807 then (if 1 < (l0_4.length : Int) then ((impl_Formula_text.f kj20 ((rd_T32 l0_4 1).f0) ((rd_T32 l0_4 1).f1) ((rd_T32 l0_4 1).f2) ((rd_T32 l0_4 1).f3) ((rd_T32 l0_4 1).f4) l1).bind fun t224 => (if (((⟨#[40]⟩ : ByteArray) ++ t222) ++ (⟨#[38]⟩ : ByteArray)).size + t224.size ≤ 9223372036854775807 then (if ((((⟨#[40]⟩ : ByteArray) ++ t222) ++ (⟨#[38]⟩ : ByteArray)) ++ t224).size + 1 ≤ 9223372036854775807 then (some (((((⟨#[40]⟩ : ByteArray) ++ t222) ++ (⟨#[38]⟩ : ByteArray)) ++ t224) ++ (⟨#[41]⟩ : ByteArray))) else (none)) else (none))) else (none)) else (none)) else (none)) = some r := H
                      have A38 := Aside0.mk A380
                      clear A380
                      by_cases c39 : 1 + t222.size ≤ 9223372036854775807
                      · rw [if_pos c39] at H
                        have c39b0 := eq_true c39
                        have c39b1 : decide (1 + t222.size ≤ 9223372036854775807) = true := decide_eq_true c39
                        try have c39b2 : (9223372036854775807 < 1 + t222.size) = False := eq_false (Nat.not_lt.2 c39)
                        by_cases c40 : ((⟨#[40]⟩ : ByteArray) ++ t222).size + 1 ≤ 9223372036854775807
                        · rw [if_pos c40] at H
                          have c40b0 := eq_true c40
                          have c40b1 : decide (((⟨#[40]⟩ : ByteArray) ++ t222).size + 1 ≤ 9223372036854775807) = true := decide_eq_true c40
                          try have c40b2 : (9223372036854775807 < ((⟨#[40]⟩ : ByteArray) ++ t222).size + 1) = False := eq_false (Nat.not_lt.2 c40)
                          try have c40s : (9223372036854775807 < 1 + t222.size + 1) = False := by have h := c40b2; simp only [ByteArray.size_append] at h; exact h
                          by_cases c41 : 1 < (l0_4.length : Int)
                          · rw [if_pos c41] at H
                            have c41b0 : decide (1 < (l0_4.length : Int)) = true := decide_eq_true c41
                            have c41b1 : decide (1 < l0_4.length) = true := decide_eq_true (by omega)
                            clear c41
                            replace H := Option.bind_eq_some_iff.mp H
                            obtain ⟨t224, A420, H⟩ := H
                            replace H : (if (((⟨#[40]⟩ : ByteArray) ++ t222) ++ (⟨#[38]⟩ : ByteArray)).size + t224.size ≤ 9223372036854775807 then (if ((((⟨#[40]⟩ : ByteArray) ++ t222) ++ (⟨#[38]⟩ : ByteArray)) ++ t224).size + 1 ≤ 9223372036854775807 then (some (((((⟨#[40]⟩ : ByteArray) ++ t222) ++ (⟨#[38]⟩ : ByteArray)) ++ t224) ++ (⟨#[41]⟩ : ByteArray))) else (none)) else (none)) = some r := H
                            have A42 := Aside0.mk A420
                            clear A420
                            by_cases c43 : (((⟨#[40]⟩ : ByteArray) ++ t222) ++ (⟨#[38]⟩ : ByteArray)).size + t224.size ≤ 9223372036854775807
                            · rw [if_pos c43] at H
                              have c43b0 := eq_true c43
                              have c43b1 : decide ((((⟨#[40]⟩ : ByteArray) ++ t222) ++ (⟨#[38]⟩ : ByteArray)).size + t224.size ≤ 9223372036854775807) = true := decide_eq_true c43
                              try have c43b2 : (9223372036854775807 < (((⟨#[40]⟩ : ByteArray) ++ t222) ++ (⟨#[38]⟩ : ByteArray)).size + t224.size) = False := eq_false (Nat.not_lt.2 c43)
                              try have c43s : (9223372036854775807 < 1 + t222.size + 1 + t224.size) = False := by have h := c43b2; simp only [ByteArray.size_append] at h; exact h
                              by_cases c44 : ((((⟨#[40]⟩ : ByteArray) ++ t222) ++ (⟨#[38]⟩ : ByteArray)) ++ t224).size + 1 ≤ 9223372036854775807
                              · rw [if_pos c44] at H
                                have c44b0 := eq_true c44
                                have c44b1 : decide (((((⟨#[40]⟩ : ByteArray) ++ t222) ++ (⟨#[38]⟩ : ByteArray)) ++ t224).size + 1 ≤ 9223372036854775807) = true := decide_eq_true c44
                                try have c44b2 : (9223372036854775807 < ((((⟨#[40]⟩ : ByteArray) ++ t222) ++ (⟨#[38]⟩ : ByteArray)) ++ t224).size + 1) = False := eq_false (Nat.not_lt.2 c44)
                                try have c44s : (9223372036854775807 < 1 + t222.size + 1 + t224.size + 1) = False := by have h := c44b2; simp only [ByteArray.size_append] at h; exact h
                                obtain rfl := Option.some.inj H
                                try go_wp2
                                have n0_ := Aside0.mk (blk_drew BK212.out)
                                have n1_ := Aside0.mk (below_drew1 HB.out)
                                clear BK212
                                clear HB
                                have BK212 := n0_
                                have HB := n1_
                                clear n0_ n1_
                                have p221 : 0 ≤ (0 : Int) := (by omega)
                                have q221 : 0 < (l0_4.length : Int) := of_decide_eq_true (by first | (with_reducible assumption) | assumption)
                                obtain ⟨ad221, A221_4, c221_4, e221, hx221_0, hx221_1, hx221_2, hx221_3, hx221_4, hl221_4, hi221_4⟩ := at_T32 HR0_4.out 0 p221 q221
                                have hw221_4 := hx221_4
                                (try rw [show ((0 : Int)).toNat = 0 from rfl] at hw221_4)
                                (try rw [show 0 * 5 = 0 from rfl] at hw221_4)
                                (try rw [Addr.add_zero'] at hw221_4)
                                have hw221_3 := hx221_3
                                (try rw [show ((0 : Int)).toNat = 0 from rfl] at hw221_3)
                                (try rw [show 0 * 5 = 0 from rfl] at hw221_3)
                                (try rw [Addr.add_zero'] at hw221_3)
                                have hw221_2 := hx221_2
                                (try rw [show ((0 : Int)).toNat = 0 from rfl] at hw221_2)
                                (try rw [show 0 * 5 = 0 from rfl] at hw221_2)
                                (try rw [Addr.add_zero'] at hw221_2)
                                have hw221_1 := hx221_1
                                (try rw [show ((0 : Int)).toNat = 0 from rfl] at hw221_1)
                                (try rw [show 0 * 5 = 0 from rfl] at hw221_1)
                                (try rw [Addr.add_zero'] at hw221_1)
                                have hw221_0 := hx221_0
                                (try rw [show ((0 : Int)).toNat = 0 from rfl] at hw221_0)
                                (try rw [show 0 * 5 = 0 from rfl] at hw221_0)
                                (try rw [Addr.add_zero'] at hw221_0)
                                cases e221
                                have qi221 : (0 < l0_4.length) = True := eq_true (by omega)
                                (try rw [show ((0 : Int)).toNat = 0 from rfl] at hx221_0)
                                (try rw [show 0 * 5 = 0 from rfl] at hx221_0)
                                (try rw [Addr.add_zero'] at hx221_0)
                                (try rw [show ((0 : Int)).toNat = 0 from rfl] at hx221_1)
                                (try rw [show 0 * 5 = 0 from rfl] at hx221_1)
                                (try rw [Addr.add_zero'] at hx221_1)
                                (try rw [show ((0 : Int)).toNat = 0 from rfl] at hx221_2)
                                (try rw [show 0 * 5 = 0 from rfl] at hx221_2)
                                (try rw [Addr.add_zero'] at hx221_2)
                                (try rw [show ((0 : Int)).toNat = 0 from rfl] at hx221_3)
                                (try rw [show 0 * 5 = 0 from rfl] at hx221_3)
                                (try rw [Addr.add_zero'] at hx221_3)
                                (try rw [show ((0 : Int)).toNat = 0 from rfl] at hx221_4)
                                (try rw [show 0 * 5 = 0 from rfl] at hx221_4)
                                (try rw [Addr.add_zero'] at hx221_4)
                                replace hx221_0 := (HB.out.cell (World.block_lt_of_cell? w _ hx221_0)).trans hx221_0
                                replace hx221_1 := (HB.out.cell (World.block_lt_of_cell? w _ hx221_1)).trans hx221_1
                                replace hx221_2 := (HB.out.cell (World.block_lt_of_cell? w _ hx221_2)).trans hx221_2
                                replace hx221_3 := (HB.out.cell (World.block_lt_of_cell? w _ hx221_3)).trans hx221_3
                                replace hx221_4 := (HB.out.cell (World.block_lt_of_cell? w _ hx221_4)).trans hx221_4
                                have HR221_4 := Aside0.mk hi221_4
                                have HC221_4 := Aside0.mk hl221_4
                                clear hi221_4 hl221_4
                                replace p221 := eq_true p221
                                replace q221 := eq_true q221
                                have p223 : 0 ≤ (1 : Int) := (by omega)
                                have q223 : 1 < (l0_4.length : Int) := of_decide_eq_true (by first | (with_reducible assumption) | assumption)
                                obtain ⟨ad223, A223_4, c223_4, e223, hx223_0, hx223_1, hx223_2, hx223_3, hx223_4, hl223_4, hi223_4⟩ := at_T32 HR0_4.out 1 p223 q223
                                have hw223_4 := hx223_4
                                (try rw [show ((1 : Int)).toNat = 1 from rfl] at hw223_4)
                                (try rw [show 1 * 5 = 5 from rfl] at hw223_4)
                                (try simp only [Nat.reduceMul, Nat.reduceEqDiff, Go.Addr.add, ↓reduceIte] at hw223_4)
                                have hw223_3 := hx223_3
                                (try rw [show ((1 : Int)).toNat = 1 from rfl] at hw223_3)
                                (try rw [show 1 * 5 = 5 from rfl] at hw223_3)
                                (try simp only [Nat.reduceMul, Nat.reduceEqDiff, Go.Addr.add, ↓reduceIte] at hw223_3)
                                have hw223_2 := hx223_2
                                (try rw [show ((1 : Int)).toNat = 1 from rfl] at hw223_2)
                                (try rw [show 1 * 5 = 5 from rfl] at hw223_2)
                                (try simp only [Nat.reduceMul, Nat.reduceEqDiff, Go.Addr.add, ↓reduceIte] at hw223_2)
                                have hw223_1 := hx223_1
                                (try rw [show ((1 : Int)).toNat = 1 from rfl] at hw223_1)
                                (try rw [show 1 * 5 = 5 from rfl] at hw223_1)
                                (try simp only [Nat.reduceMul, Nat.reduceEqDiff, Go.Addr.add, ↓reduceIte] at hw223_1)
                                have hw223_0 := hx223_0
                                (try rw [show ((1 : Int)).toNat = 1 from rfl] at hw223_0)
                                (try rw [show 1 * 5 = 5 from rfl] at hw223_0)
                                (try simp only [Nat.reduceMul, Nat.reduceEqDiff, Go.Addr.add, ↓reduceIte] at hw223_0)
                                obtain rfl : ad221 = ad223 := (by injection e223)
                                (try simp only [show (1 : Int).toNat = 1 from rfl, Nat.reduceMul, Nat.reduceEqDiff, Go.Addr.add, ↓reduceIte] at hx223_0)
                                (try simp only [show (1 : Int).toNat = 1 from rfl, Nat.reduceMul, Nat.reduceEqDiff, Go.Addr.add, ↓reduceIte] at hx223_1)
                                (try simp only [show (1 : Int).toNat = 1 from rfl, Nat.reduceMul, Nat.reduceEqDiff, Go.Addr.add, ↓reduceIte] at hx223_2)
                                (try simp only [show (1 : Int).toNat = 1 from rfl, Nat.reduceMul, Nat.reduceEqDiff, Go.Addr.add, ↓reduceIte] at hx223_3)
                                (try simp only [show (1 : Int).toNat = 1 from rfl, Nat.reduceMul, Nat.reduceEqDiff, Go.Addr.add, ↓reduceIte] at hx223_4)
                                have qi223 : (1 < l0_4.length) = True := eq_true (by omega)
                                (try rw [show ((1 : Int)).toNat = 1 from rfl] at hx223_0)
                                (try rw [show 1 * 5 = 5 from rfl] at hx223_0)
                                (try rw [show ((1 : Int)).toNat = 1 from rfl] at hx223_1)
                                (try rw [show 1 * 5 = 5 from rfl] at hx223_1)
                                (try rw [show ((1 : Int)).toNat = 1 from rfl] at hx223_2)
                                (try rw [show 1 * 5 = 5 from rfl] at hx223_2)
                                (try rw [show ((1 : Int)).toNat = 1 from rfl] at hx223_3)
                                (try rw [show 1 * 5 = 5 from rfl] at hx223_3)
                                (try rw [show ((1 : Int)).toNat = 1 from rfl] at hx223_4)
                                (try rw [show 1 * 5 = 5 from rfl] at hx223_4)
                                replace hx223_0 := (HB.out.cell (World.block_lt_of_cell? w _ hx223_0)).trans hx223_0
                                replace hx223_1 := (HB.out.cell (World.block_lt_of_cell? w _ hx223_1)).trans hx223_1
                                replace hx223_2 := (HB.out.cell (World.block_lt_of_cell? w _ hx223_2)).trans hx223_2
                                replace hx223_3 := (HB.out.cell (World.block_lt_of_cell? w _ hx223_3)).trans hx223_3
                                replace hx223_4 := (HB.out.cell (World.block_lt_of_cell? w _ hx223_4)).trans hx223_4
                                have HR223_4 := Aside0.mk hi223_4
                                have HC223_4 := Aside0.mk hl223_4
                                clear hi223_4 hl223_4
                                replace p223 := eq_true p223
                                replace q223 := eq_true q223
                                refine start_ (n := 17) (S := fun w' => w'.cell? ⟨gb212, 0, none⟩ = some (.int .i64 a0_0) ∧ w'.cell? ⟨gb212, 1, none⟩ = some (.int .i64 a0_1) ∧ w'.cell? ⟨gb212, 2, none⟩ = some (.int .i64 a0_2) ∧ w'.cell? ⟨gb212, 3, none⟩ = some (.int .i64 a0_3) ∧ w'.cell? ⟨gb212, 4, none⟩ = some (.slice (some ad221) l0_4.length c0_4) ∧ w'.cell? ad221 = some (.int .i64 ((rd_T32 l0_4 0).f0)) ∧ w'.cell? ⟨ad221.block, ad221.off + 1, none⟩ = some (.int .i64 ((rd_T32 l0_4 0).f1)) ∧ w'.cell? ⟨ad221.block, ad221.off + 2, none⟩ = some (.int .i64 ((rd_T32 l0_4 0).f2)) ∧ w'.cell? ⟨ad221.block, ad221.off + 3, none⟩ = some (.int .i64 ((rd_T32 l0_4 0).f3)) ∧ w'.cell? ⟨ad221.block, ad221.off + 4, none⟩ = some (.slice A221_4 ((rd_T32 l0_4 0).f4).length c221_4) ∧ w'.cell? ⟨ad221.block, ad221.off + 5, none⟩ = some (.int .i64 ((rd_T32 l0_4 1).f0)) ∧ w'.cell? ⟨ad221.block, ad221.off + 5 + 1, none⟩ = some (.int .i64 ((rd_T32 l0_4 1).f1)) ∧ w'.cell? ⟨ad221.block, ad221.off + 5 + 2, none⟩ = some (.int .i64 ((rd_T32 l0_4 1).f2)) ∧ w'.cell? ⟨ad221.block, ad221.off + 5 + 3, none⟩ = some (.int .i64 ((rd_T32 l0_4 1).f3)) ∧ w'.cell? ⟨ad221.block, ad221.off + 5 + 4, none⟩ = some (.slice A223_4 ((rd_T32 l0_4 1).f4).length c223_4)) (ds := []) #[false, false, false, false, false, false, false, false, false, false, false, false, false, false, false, false, false] (by kernel_rfl) rfl rfl ⟨(blk_cell BK212.out 0).trans rfl, (blk_cell BK212.out 1).trans rfl, (blk_cell BK212.out 2).trans rfl, (blk_cell BK212.out 3).trans rfl, (blk_cell BK212.out 4).trans rfl, ((HB.out.cell (World.block_lt_of_cell? w _ hw221_0)).trans hw221_0), ((HB.out.cell (World.block_lt_of_cell? w _ hw221_1)).trans hw221_1), ((HB.out.cell (World.block_lt_of_cell? w _ hw221_2)).trans hw221_2), ((HB.out.cell (World.block_lt_of_cell? w _ hw221_3)).trans hw221_3), ((HB.out.cell (World.block_lt_of_cell? w _ hw221_4)).trans hw221_4), ((HB.out.cell (World.block_lt_of_cell? w _ hw223_0)).trans hw223_0), ((HB.out.cell (World.block_lt_of_cell? w _ hw223_1)).trans hw223_1), ((HB.out.cell (World.block_lt_of_cell? w _ hw223_2)).trans hw223_2), ((HB.out.cell (World.block_lt_of_cell? w _ hw223_3)).trans hw223_3), ((HB.out.cell (World.block_lt_of_cell? w _ hw223_4)).trans hw223_4)⟩ (fun hHeld => ?_); refine with_tabW impl_Formula_text.tab15 impl_Formula_text.bits15 (fun HT_ HW_ => ?_)
                                generalize wc.drew = w45 at BK212 HB HR221_4 HR223_4 hx221_0 hx221_1 hx221_2 hx221_3 hx221_4 hx223_0 hx223_1 hx223_2 hx223_3 hx223_4 hHeld ⊢
                                refine pure_ (i := 0) (N := some 58) (v := ?_) (a' := ?_) #[true, false, false, false, false, false, false, false, false, false, false, false, false, false, false, false, false] rfl rfl (any_of HT_.out (by kernel_rfl)) (fun _ _ _ h => h) (Or.inl ⟨by rfl, ?_⟩) ?_ ?_
                                rotate_left
                                · intro w'
                                  go_simp
                                  with_reducible rfl
                                rotate_left
                                · simp only [Act.put, List.setIfInBounds_toArray, List.set_cons_zero, List.set_cons_succ, i64_w, i32_w]
                                  rfl
                                refine pure_ (i := 4) (N := some 62) (v := ?_) (a' := ?_) #[true, false, false, false, true, false, false, false, false, false, false, false, false, false, false, false, false] rfl rfl (any_of HT_.out (by kernel_rfl)) (fun _ _ _ h => h) (Or.inl ⟨by rfl, ?_⟩) ?_ ?_
                                rotate_left
                                · intro w'
                                  go_simp
                                  with_reducible rfl
                                rotate_left
                                · simp only [Act.put, List.setIfInBounds_toArray, List.set_cons_zero, List.set_cons_succ, i64_w, i32_w]
                                  rfl
                                refine pure_ (i := 8) (N := some 66) (v := ?_) (a' := ?_) #[true, false, false, false, true, false, false, false, true, false, false, false, false, false, false, false, false] rfl rfl (any_of HT_.out (by kernel_rfl)) (fun _ _ _ h => h) (Or.inl ⟨by rfl, ?_⟩) ?_ ?_
                                rotate_left
                                · intro w'
                                  go_simp
                                  with_reducible rfl
                                rotate_left
                                · simp only [Act.put, List.setIfInBounds_toArray, List.set_cons_zero, List.set_cons_succ, i64_w, i32_w]
                                  rfl
                                refine pure_ (i := 12) (N := some 70) (v := ?_) (a' := ?_) #[true, false, false, false, true, false, false, false, true, false, false, false, true, false, false, false, false] rfl rfl (any_of HT_.out (by kernel_rfl)) (fun _ _ _ h => h) (Or.inl ⟨by rfl, ?_⟩) ?_ ?_
                                rotate_left
                                · intro w'
                                  go_simp
                                  with_reducible rfl
                                rotate_left
                                · simp only [Act.put, List.setIfInBounds_toArray, List.set_cons_zero, List.set_cons_succ, i64_w, i32_w]
                                  rfl
                                refine take_ (i := 1) (N := some 59) (v := ?_) (a' := ?_) #[true, true, false, false, true, false, false, false, true, false, false, false, true, false, false, false, false] rfl rfl (take_ofW HT_.out HW_.out (by kernel_rfl)) (fun _ _ _ h => h) (Or.inl ⟨by rfl, ?_⟩) hHeld ?_ ?_
                                rotate_left
                                · rintro w' ⟨s0, s1, s2, s3, s4, s5, s6, s7, s8, s9, s10, s11, s12, s13, s14⟩
                                  go_simp
                                  with_reducible rfl
                                rotate_left
                                · simp only [Act.put, List.setIfInBounds_toArray, List.set_cons_zero, List.set_cons_succ, i64_w, i32_w]
                                  rfl
                                refine pure_ (i := 2) (N := some 60) (v := ?_) (a' := ?_) #[true, true, true, false, true, false, false, false, true, false, false, false, true, false, false, false, false] rfl rfl (any_of HT_.out (by kernel_rfl)) (fun _ _ _ h => h) (Or.inl ⟨by rfl, ?_⟩) ?_ ?_
                                rotate_left
                                · intro w'
                                  go_simp
                                  with_reducible rfl
                                rotate_left
                                · simp only [Act.put, List.setIfInBounds_toArray, List.set_cons_zero, List.set_cons_succ, i64_w, i32_w]
                                  rfl
                                refine take_ (i := 3) (N := some 61) (v := ?_) (a' := ?_) #[true, true, true, true, true, false, false, false, true, false, false, false, true, false, false, false, false] rfl rfl (take_ofW HT_.out HW_.out (by kernel_rfl)) (fun _ _ _ h => h) (Or.inl ⟨by rfl, ?_⟩) hHeld ?_ ?_
                                rotate_left
                                · rintro w' ⟨s0, s1, s2, s3, s4, s5, s6, s7, s8, s9, s10, s11, s12, s13, s14⟩
                                  go_simp
                                  with_reducible rfl
                                rotate_left
                                · simp only [Act.put, List.setIfInBounds_toArray, List.set_cons_zero, List.set_cons_succ, i64_w, i32_w]
                                  rfl
                                refine take_ (i := 9) (N := some 67) (v := ?_) (a' := ?_) #[true, true, true, true, true, false, false, false, true, true, false, false, true, false, false, false, false] rfl rfl (take_ofW HT_.out HW_.out (by kernel_rfl)) (fun _ _ _ h => h) (Or.inl ⟨by rfl, ?_⟩) hHeld ?_ ?_
                                rotate_left
                                · rintro w' ⟨s0, s1, s2, s3, s4, s5, s6, s7, s8, s9, s10, s11, s12, s13, s14⟩
                                  go_simp
                                  with_reducible rfl
                                rotate_left
                                · simp only [Act.put, List.setIfInBounds_toArray, List.set_cons_zero, List.set_cons_succ, i64_w, i32_w]
                                  rfl
                                refine pure_ (i := 10) (N := some 68) (v := ?_) (a' := ?_) #[true, true, true, true, true, false, false, false, true, true, true, false, true, false, false, false, false] rfl rfl (any_of HT_.out (by kernel_rfl)) (fun _ _ _ h => h) (Or.inl ⟨by rfl, ?_⟩) ?_ ?_
                                rotate_left
                                · intro w'
                                  go_simp
                                  with_reducible rfl
                                rotate_left
                                · simp only [Act.put, List.setIfInBounds_toArray, List.set_cons_zero, List.set_cons_succ, i64_w, i32_w]
                                  rfl
                                refine take_ (i := 11) (N := some 69) (v := ?_) (a' := ?_) #[true, true, true, true, true, false, false, false, true, true, true, true, true, false, false, false, false] rfl rfl (take_ofW HT_.out HW_.out (by kernel_rfl)) (fun _ _ _ h => h) (Or.inl ⟨by rfl, ?_⟩) hHeld ?_ ?_
                                rotate_left
                                · rintro w' ⟨s0, s1, s2, s3, s4, s5, s6, s7, s8, s9, s10, s11, s12, s13, s14⟩
                                  go_simp
                                  with_reducible rfl
                                rotate_left
                                · simp only [Act.put, List.setIfInBounds_toArray, List.set_cons_zero, List.set_cons_succ, i64_w, i32_w]
                                  rfl
                                refine one_ (i := 5) (N := some 63) #[true, true, true, true, true, true, false, false, true, true, true, true, true, false, false, false, false] rfl rfl (one_of HT_.out (by kernel_rfl)) (by decide) (fun K hK => ?_)
                                refine goes_ Try.func47 (by kernel_rfl) rfl #[.agg #[.int .i64 ((rd_T32 l0_4 0).f0), .int .i64 ((rd_T32 l0_4 0).f1), .int .i64 ((rd_T32 l0_4 0).f2), .int .i64 ((rd_T32 l0_4 0).f3), .slice A221_4 ((rd_T32 l0_4 0).f4).length c221_4], .slice A1 l1.length c1] (by rfl) rfl rfl (by (try simp only [List.map_toArray, List.map_cons, List.map_nil]); first | done | rfl | (simp only [List.length_drop, List.length_take]; rfl)) ?_
                                with_reducible refine (ih kj20 (by have := HJ3.out; have := HJ20.out; omega) ((rd_T32 l0_4 0).f0) ((rd_T32 l0_4 0).f1) ((rd_T32 l0_4 0).f2) ((rd_T32 l0_4 0).f3) _ _ ((rd_T32 l0_4 0).f4) _ _ l1 t222 _ ?side1 ?side2 ?side3 ?side4 A38.out).mono ?_
                                (case side1 => repeat (first | exact (Kd.C_below HR221_4.out HB.out) | (with_reducible refine Kd.C_alloc ?_ _) | (with_reducible refine Kd.C_drewN ?_ _) | (with_reducible refine Kd.C_drew ?_)))
                                (case side2 => exact HC221_4.out)
                                (case side3 => repeat (first | exact (Kd.C_below HR1.out HB.out) | (with_reducible refine Kd.C_alloc ?_ _) | (with_reducible refine Kd.C_drewN ?_ _) | (with_reducible refine Kd.C_drew ?_)))
                                (case side4 => exact HC1.out)
                                rintro e w46 ⟨rfl, hb⟩
                                refine ⟨_, rfl, ?_⟩
                                have n0_ := Aside0.mk (blk_below (g := gb212) (o := .cells #[.int .i64 a0_0, .int .i64 a0_1, .int .i64 a0_2, .int .i64 a0_3, .slice (some ad221) l0_4.length c0_4] 32 (0, 0)) (by (with_reducible repeat (first | refine blk_drewN ?_ _ | refine blk_drew ?_ | refine blk_alloc ?_ _)); exact BK212.out) hb)
                                have n1_ := Aside0.mk (below_step (by repeat (first | (with_reducible first | exact HB.out | apply below_alloc | apply pw_below_drewN | apply below_drew1 | refine below_set ?_ GE212.out) | exact HB.out)) hb)
                                clear BK212
                                clear HB
                                have BK212 := n0_
                                have HB := n1_
                                clear n0_ n1_
                                (try clear hb)
                                (try clear hb2)
                                (try clear hk)
                                (try clear hi)
                                refine hK.out _ _ ⟨(blk_cell BK212.out 0).trans rfl, (blk_cell BK212.out 1).trans rfl, (blk_cell BK212.out 2).trans rfl, (blk_cell BK212.out 3).trans rfl, (blk_cell BK212.out 4).trans rfl, ((HB.out.cell (World.block_lt_of_cell? w _ hw221_0)).trans hw221_0), ((HB.out.cell (World.block_lt_of_cell? w _ hw221_1)).trans hw221_1), ((HB.out.cell (World.block_lt_of_cell? w _ hw221_2)).trans hw221_2), ((HB.out.cell (World.block_lt_of_cell? w _ hw221_3)).trans hw221_3), ((HB.out.cell (World.block_lt_of_cell? w _ hw221_4)).trans hw221_4), ((HB.out.cell (World.block_lt_of_cell? w _ hw223_0)).trans hw223_0), ((HB.out.cell (World.block_lt_of_cell? w _ hw223_1)).trans hw223_1), ((HB.out.cell (World.block_lt_of_cell? w _ hw223_2)).trans hw223_2), ((HB.out.cell (World.block_lt_of_cell? w _ hw223_3)).trans hw223_3), ((HB.out.cell (World.block_lt_of_cell? w _ hw223_4)).trans hw223_4)⟩ (fun hHeld => ?_)
                                clear hK K
                                refine norm_ (a' := ?_) ?_ ?_
                                rotate_left
                                · show Act.put _ (some 63) _ = _
                                  simp only [Act.put, List.setIfInBounds_toArray, List.set_cons_zero, List.set_cons_succ, i64_w, i32_w]
                                  rfl
                                refine pure_ (i := 6) (N := some 64) (v := ?_) (a' := ?_) #[true, true, true, true, true, true, true, false, true, true, true, true, true, false, false, false, false] rfl rfl (any_of HT_.out (by kernel_rfl)) (fun _ _ _ h => h) (Or.inl ⟨by rfl, ?_⟩) ?_ ?_
                                rotate_left
                                · intro w'
                                  go_simp
                                  with_reducible rfl
                                rotate_left
                                · simp only [Act.put, List.setIfInBounds_toArray, List.set_cons_zero, List.set_cons_succ, i64_w, i32_w]
                                  rfl
                                refine pure_ (i := 7) (N := some 65) (v := ?_) (a' := ?_) #[true, true, true, true, true, true, true, true, true, true, true, true, true, false, false, false, false] rfl rfl (any_of HT_.out (by kernel_rfl)) (fun _ _ _ h => h) (Or.inl ⟨by rfl, ?_⟩) ?_ ?_
                                rotate_left
                                · intro w'
                                  go_simp
                                  with_reducible rfl
                                rotate_left
                                · simp only [Act.put, List.setIfInBounds_toArray, List.set_cons_zero, List.set_cons_succ, i64_w, i32_w]
                                  rfl
                                refine one_ (i := 13) (N := some 71) #[true, true, true, true, true, true, true, true, true, true, true, true, true, true, false, false, false] rfl rfl (one_of HT_.out (by kernel_rfl)) (by decide) (fun K hK => ?_)
                                refine goes_ Try.func47 (by kernel_rfl) rfl #[.agg #[.int .i64 ((rd_T32 l0_4 1).f0), .int .i64 ((rd_T32 l0_4 1).f1), .int .i64 ((rd_T32 l0_4 1).f2), .int .i64 ((rd_T32 l0_4 1).f3), .slice A223_4 ((rd_T32 l0_4 1).f4).length c223_4], .slice A1 l1.length c1] (by rfl) rfl rfl (by (try simp only [List.map_toArray, List.map_cons, List.map_nil]); first | done | rfl | (simp only [List.length_drop, List.length_take]; rfl)) ?_
                                with_reducible refine (ih kj20 (by have := HJ3.out; have := HJ20.out; omega) ((rd_T32 l0_4 1).f0) ((rd_T32 l0_4 1).f1) ((rd_T32 l0_4 1).f2) ((rd_T32 l0_4 1).f3) _ _ ((rd_T32 l0_4 1).f4) _ _ l1 t224 _ ?side1 ?side2 ?side3 ?side4 A42.out).mono ?_
                                (case side1 => repeat (first | exact (Kd.C_below HR223_4.out HB.out) | (with_reducible refine Kd.C_alloc ?_ _) | (with_reducible refine Kd.C_drewN ?_ _) | (with_reducible refine Kd.C_drew ?_)))
                                (case side2 => exact HC223_4.out)
                                (case side3 => repeat (first | exact (Kd.C_below HR1.out HB.out) | (with_reducible refine Kd.C_alloc ?_ _) | (with_reducible refine Kd.C_drewN ?_ _) | (with_reducible refine Kd.C_drew ?_)))
                                (case side4 => exact HC1.out)
                                rintro e w47 ⟨rfl, hb⟩
                                refine ⟨_, rfl, ?_⟩
                                have n0_ := Aside0.mk (blk_below (g := gb212) (o := .cells #[.int .i64 a0_0, .int .i64 a0_1, .int .i64 a0_2, .int .i64 a0_3, .slice (some ad221) l0_4.length c0_4] 32 (0, 0)) (by (with_reducible repeat (first | refine blk_drewN ?_ _ | refine blk_drew ?_ | refine blk_alloc ?_ _)); exact BK212.out) hb)
                                have n1_ := Aside0.mk (below_step (by repeat (first | (with_reducible first | exact HB.out | apply below_alloc | apply pw_below_drewN | apply below_drew1 | refine below_set ?_ GE212.out) | exact HB.out)) hb)
                                clear BK212
                                clear HB
                                have BK212 := n0_
                                have HB := n1_
                                clear n0_ n1_
                                (try clear hb)
                                (try clear hb2)
                                (try clear hk)
                                (try clear hi)
                                refine hK.out _ _ ⟨(blk_cell BK212.out 0).trans rfl, (blk_cell BK212.out 1).trans rfl, (blk_cell BK212.out 2).trans rfl, (blk_cell BK212.out 3).trans rfl, (blk_cell BK212.out 4).trans rfl, ((HB.out.cell (World.block_lt_of_cell? w _ hw221_0)).trans hw221_0), ((HB.out.cell (World.block_lt_of_cell? w _ hw221_1)).trans hw221_1), ((HB.out.cell (World.block_lt_of_cell? w _ hw221_2)).trans hw221_2), ((HB.out.cell (World.block_lt_of_cell? w _ hw221_3)).trans hw221_3), ((HB.out.cell (World.block_lt_of_cell? w _ hw221_4)).trans hw221_4), ((HB.out.cell (World.block_lt_of_cell? w _ hw223_0)).trans hw223_0), ((HB.out.cell (World.block_lt_of_cell? w _ hw223_1)).trans hw223_1), ((HB.out.cell (World.block_lt_of_cell? w _ hw223_2)).trans hw223_2), ((HB.out.cell (World.block_lt_of_cell? w _ hw223_3)).trans hw223_3), ((HB.out.cell (World.block_lt_of_cell? w _ hw223_4)).trans hw223_4)⟩ (fun hHeld => ?_)
                                clear hK K
                                refine norm_ (a' := ?_) ?_ ?_
                                rotate_left
                                · show Act.put _ (some 71) _ = _
                                  simp only [Act.put, List.setIfInBounds_toArray, List.set_cons_zero, List.set_cons_succ, i64_w, i32_w]
                                  rfl
                                refine pure_ (i := 14) (N := some 72) (v := ?_) (a' := ?_) #[true, true, true, true, true, true, true, true, true, true, true, true, true, true, true, false, false] rfl rfl (any_of HT_.out (by kernel_rfl)) (fun _ _ _ h => h) (Or.inl ⟨by rfl, ?_⟩) ?_ ?_
                                rotate_left
                                · intro w'
                                  go_simp
                                  with_reducible rfl
                                rotate_left
                                · simp only [Act.put, List.setIfInBounds_toArray, List.set_cons_zero, List.set_cons_succ, i64_w, i32_w]
                                  rfl
                                refine pure_ (i := 15) (N := some 73) (v := ?_) (a' := ?_) #[true, true, true, true, true, true, true, true, true, true, true, true, true, true, true, true, false] rfl rfl (any_of HT_.out (by kernel_rfl)) (fun _ _ _ h => h) (Or.inl ⟨by rfl, ?_⟩) ?_ ?_
                                rotate_left
                                · intro w'
                                  go_simp
                                  with_reducible rfl
                                rotate_left
                                · simp only [Act.put, List.setIfInBounds_toArray, List.set_cons_zero, List.set_cons_succ, i64_w, i32_w]
                                  rfl
                                refine pure_ (i := 16) (N := some 4) (v := ?_) (a' := ?_) #[true, true, true, true, true, true, true, true, true, true, true, true, true, true, true, true, true] rfl rfl (any_of HT_.out (by kernel_rfl)) (fun _ _ _ h => h) (Or.inl ⟨by rfl, ?_⟩) ?_ ?_
                                rotate_left
                                · intro w'
                                  go_simp
                                  with_reducible rfl
                                rotate_left
                                · simp only [Act.put, List.setIfInBounds_toArray, List.set_cons_zero, List.set_cons_succ, i64_w, i32_w]
                                  rfl
                                refine done_ (done_of HT_.out (by kernel_rfl)) ?_
                                try go_wp2
                                go_ret
                                exact ⟨by first | rfl | (simp [errW_none, errW_some] <;> rfl) | (simp [*, errW_none, errW_some] <;> rfl), by repeat (first | (with_reducible first | exact HB.out | apply below_alloc | apply pw_below_drewN | apply below_drew1 | refine below_set ?_ GE212.out) | exact HB.out)⟩
                              · rw [if_neg c44] at H
                                exact absurd H (by simp)
                            · rw [if_neg c43] at H
                              exact absurd H (by simp)
                          · rw [if_neg c41] at H
                            exact absurd H (by simp)
                        · rw [if_neg c40] at H
                          exact absurd H (by simp)
                      · rw [if_neg c39] at H
                        exact absurd H (by simp)
                    · rw [if_neg c37] at H
                      exact absurd H (by simp)
                  · rw [if_neg c36] at H
                    have c36b0 : (a0_0 == 9) = false := beq_eq_false_iff_ne.mpr c36
                    have c36b1 : (a0_0 != 9) = true := bne_iff_ne.mpr c36
                    by_cases c48 : a0_0 = 10
                    · rw [if_pos c48] at H
                      have c48b0 : (a0_0 == 10) = true := beq_iff_eq.mpr c48
                      have c48b1 : (a0_0 != 10) = false := bne_eq_false_iff_eq.mpr c48
                      clear c48
                      by_cases c49 : 0 < (l0_4.length : Int)
                      · rw [if_pos c49] at H
                        have c49b0 : decide (0 < (l0_4.length : Int)) = true := decide_eq_true c49
                        have c49b1 : decide (0 < l0_4.length) = true := decide_eq_true (by omega)
                        clear c49
                        replace H := Option.bind_eq_some_iff.mp H
                        obtain ⟨t226, A500, H⟩ := H
                        replace H : (if 1 + t226.size ≤ 9223372036854775807 then (if ((⟨#[40]⟩ : ByteArray) ++ t226).size + 1 ≤ 9223372036854775807 then (if 1 < (l0_4.length : Int) then ((impl_Formula_text.f kj20 ((rd_T32 l0_4 1).f0) ((rd_T32 l0_4 1).f1) ((rd_T32 l0_4 1).f2) ((rd_T32 l0_4 1).f3) ((rd_T32 l0_4 1).f4) l1).bind fun t228 => (if (((⟨#[40]⟩ : ByteArray) ++ t226) ++ (⟨#[124]⟩ : ByteArray)).size + t228.size ≤ 9223372036854775807 then (if ((((⟨#[40]⟩ : ByteArray) ++ t226) ++ (⟨#[124]⟩ : ByteArray)) ++ t228).size + 1 ≤ 9223372036854775807 then (some (((((⟨#[40]⟩ : ByteArray) ++ t226) ++ (⟨#[124]⟩ : ByteArray)) ++ t228) ++ (⟨#[41]⟩ : ByteArray))) else (none)) else (none))) else (none)) else (none)) else (none)) = some r := H
                        have A50 := Aside0.mk A500
                        clear A500
                        by_cases c51 : 1 + t226.size ≤ 9223372036854775807
                        · rw [if_pos c51] at H
                          have c51b0 := eq_true c51
                          have c51b1 : decide (1 + t226.size ≤ 9223372036854775807) = true := decide_eq_true c51
                          try have c51b2 : (9223372036854775807 < 1 + t226.size) = False := eq_false (Nat.not_lt.2 c51)
                          by_cases c52 : ((⟨#[40]⟩ : ByteArray) ++ t226).size + 1 ≤ 9223372036854775807
                          · rw [if_pos c52] at H
                            have c52b0 := eq_true c52
                            have c52b1 : decide (((⟨#[40]⟩ : ByteArray) ++ t226).size + 1 ≤ 9223372036854775807) = true := decide_eq_true c52
                            try have c52b2 : (9223372036854775807 < ((⟨#[40]⟩ : ByteArray) ++ t226).size + 1) = False := eq_false (Nat.not_lt.2 c52)
                            try have c52s : (9223372036854775807 < 1 + t226.size + 1) = False := by have h := c52b2; simp only [ByteArray.size_append] at h; exact h
                            by_cases c53 : 1 < (l0_4.length : Int)
                            · rw [if_pos c53] at H
                              have c53b0 : decide (1 < (l0_4.length : Int)) = true := decide_eq_true c53
                              have c53b1 : decide (1 < l0_4.length) = true := decide_eq_true (by omega)
                              clear c53
                              replace H := Option.bind_eq_some_iff.mp H
                              obtain ⟨t228, A540, H⟩ := H
                              replace H : (if (((⟨#[40]⟩ : ByteArray) ++ t226) ++ (⟨#[124]⟩ : ByteArray)).size + t228.size ≤ 9223372036854775807 then (if ((((⟨#[40]⟩ : ByteArray) ++ t226) ++ (⟨#[124]⟩ : ByteArray)) ++ t228).size + 1 ≤ 9223372036854775807 then (some (((((⟨#[40]⟩ : ByteArray) ++ t226) ++ (⟨#[124]⟩ : ByteArray)) ++ t228) ++ (⟨#[41]⟩ : ByteArray))) else (none)) else (none)) = some r := H
                              have A54 := Aside0.mk A540
                              clear A540
                              by_cases c55 : (((⟨#[40]⟩ : ByteArray) ++ t226) ++ (⟨#[124]⟩ : ByteArray)).size + t228.size ≤ 9223372036854775807
                              · rw [if_pos c55] at H
                                have c55b0 := eq_true c55
                                have c55b1 : decide ((((⟨#[40]⟩ : ByteArray) ++ t226) ++ (⟨#[124]⟩ : ByteArray)).size + t228.size ≤ 9223372036854775807) = true := decide_eq_true c55
                                try have c55b2 : (9223372036854775807 < (((⟨#[40]⟩ : ByteArray) ++ t226) ++ (⟨#[124]⟩ : ByteArray)).size + t228.size) = False := eq_false (Nat.not_lt.2 c55)
                                try have c55s : (9223372036854775807 < 1 + t226.size + 1 + t228.size) = False := by have h := c55b2; simp only [ByteArray.size_append] at h; exact h
                                by_cases c56 : ((((⟨#[40]⟩ : ByteArray) ++ t226) ++ (⟨#[124]⟩ : ByteArray)) ++ t228).size + 1 ≤ 9223372036854775807
                                · rw [if_pos c56] at H
                                  have c56b0 := eq_true c56
                                  have c56b1 : decide (((((⟨#[40]⟩ : ByteArray) ++ t226) ++ (⟨#[124]⟩ : ByteArray)) ++ t228).size + 1 ≤ 9223372036854775807) = true := decide_eq_true c56
                                  try have c56b2 : (9223372036854775807 < ((((⟨#[40]⟩ : ByteArray) ++ t226) ++ (⟨#[124]⟩ : ByteArray)) ++ t228).size + 1) = False := eq_false (Nat.not_lt.2 c56)
                                  try have c56s : (9223372036854775807 < 1 + t226.size + 1 + t228.size + 1) = False := by have h := c56b2; simp only [ByteArray.size_append] at h; exact h
                                  obtain rfl := Option.some.inj H
                                  try go_wp2
                                  have n0_ := Aside0.mk (blk_drew BK212.out)
                                  have n1_ := Aside0.mk (below_drew1 HB.out)
                                  clear BK212
                                  clear HB
                                  have BK212 := n0_
                                  have HB := n1_
                                  clear n0_ n1_
                                  have p225 : 0 ≤ (0 : Int) := (by omega)
                                  have q225 : 0 < (l0_4.length : Int) := of_decide_eq_true (by first | (with_reducible assumption) | assumption)
                                  obtain ⟨ad225, A225_4, c225_4, e225, hx225_0, hx225_1, hx225_2, hx225_3, hx225_4, hl225_4, hi225_4⟩ := at_T32 HR0_4.out 0 p225 q225
                                  have hw225_4 := hx225_4
                                  (try rw [show ((0 : Int)).toNat = 0 from rfl] at hw225_4)
                                  (try rw [show 0 * 5 = 0 from rfl] at hw225_4)
                                  (try rw [Addr.add_zero'] at hw225_4)
                                  have hw225_3 := hx225_3
                                  (try rw [show ((0 : Int)).toNat = 0 from rfl] at hw225_3)
                                  (try rw [show 0 * 5 = 0 from rfl] at hw225_3)
                                  (try rw [Addr.add_zero'] at hw225_3)
                                  have hw225_2 := hx225_2
                                  (try rw [show ((0 : Int)).toNat = 0 from rfl] at hw225_2)
                                  (try rw [show 0 * 5 = 0 from rfl] at hw225_2)
                                  (try rw [Addr.add_zero'] at hw225_2)
                                  have hw225_1 := hx225_1
                                  (try rw [show ((0 : Int)).toNat = 0 from rfl] at hw225_1)
                                  (try rw [show 0 * 5 = 0 from rfl] at hw225_1)
                                  (try rw [Addr.add_zero'] at hw225_1)
                                  have hw225_0 := hx225_0
                                  (try rw [show ((0 : Int)).toNat = 0 from rfl] at hw225_0)
                                  (try rw [show 0 * 5 = 0 from rfl] at hw225_0)
                                  (try rw [Addr.add_zero'] at hw225_0)
                                  cases e225
                                  have qi225 : (0 < l0_4.length) = True := eq_true (by omega)
                                  (try rw [show ((0 : Int)).toNat = 0 from rfl] at hx225_0)
                                  (try rw [show 0 * 5 = 0 from rfl] at hx225_0)
                                  (try rw [Addr.add_zero'] at hx225_0)
                                  (try rw [show ((0 : Int)).toNat = 0 from rfl] at hx225_1)
                                  (try rw [show 0 * 5 = 0 from rfl] at hx225_1)
                                  (try rw [Addr.add_zero'] at hx225_1)
                                  (try rw [show ((0 : Int)).toNat = 0 from rfl] at hx225_2)
                                  (try rw [show 0 * 5 = 0 from rfl] at hx225_2)
                                  (try rw [Addr.add_zero'] at hx225_2)
                                  (try rw [show ((0 : Int)).toNat = 0 from rfl] at hx225_3)
                                  (try rw [show 0 * 5 = 0 from rfl] at hx225_3)
                                  (try rw [Addr.add_zero'] at hx225_3)
                                  (try rw [show ((0 : Int)).toNat = 0 from rfl] at hx225_4)
                                  (try rw [show 0 * 5 = 0 from rfl] at hx225_4)
                                  (try rw [Addr.add_zero'] at hx225_4)
                                  replace hx225_0 := (HB.out.cell (World.block_lt_of_cell? w _ hx225_0)).trans hx225_0
                                  replace hx225_1 := (HB.out.cell (World.block_lt_of_cell? w _ hx225_1)).trans hx225_1
                                  replace hx225_2 := (HB.out.cell (World.block_lt_of_cell? w _ hx225_2)).trans hx225_2
                                  replace hx225_3 := (HB.out.cell (World.block_lt_of_cell? w _ hx225_3)).trans hx225_3
                                  replace hx225_4 := (HB.out.cell (World.block_lt_of_cell? w _ hx225_4)).trans hx225_4
                                  have HR225_4 := Aside0.mk hi225_4
                                  have HC225_4 := Aside0.mk hl225_4
                                  clear hi225_4 hl225_4
                                  replace p225 := eq_true p225
                                  replace q225 := eq_true q225
                                  have p227 : 0 ≤ (1 : Int) := (by omega)
                                  have q227 : 1 < (l0_4.length : Int) := of_decide_eq_true (by first | (with_reducible assumption) | assumption)
                                  obtain ⟨ad227, A227_4, c227_4, e227, hx227_0, hx227_1, hx227_2, hx227_3, hx227_4, hl227_4, hi227_4⟩ := at_T32 HR0_4.out 1 p227 q227
                                  have hw227_4 := hx227_4
                                  (try rw [show ((1 : Int)).toNat = 1 from rfl] at hw227_4)
                                  (try rw [show 1 * 5 = 5 from rfl] at hw227_4)
                                  (try simp only [Nat.reduceMul, Nat.reduceEqDiff, Go.Addr.add, ↓reduceIte] at hw227_4)
                                  have hw227_3 := hx227_3
                                  (try rw [show ((1 : Int)).toNat = 1 from rfl] at hw227_3)
                                  (try rw [show 1 * 5 = 5 from rfl] at hw227_3)
                                  (try simp only [Nat.reduceMul, Nat.reduceEqDiff, Go.Addr.add, ↓reduceIte] at hw227_3)
                                  have hw227_2 := hx227_2
                                  (try rw [show ((1 : Int)).toNat = 1 from rfl] at hw227_2)
                                  (try rw [show 1 * 5 = 5 from rfl] at hw227_2)
                                  (try simp only [Nat.reduceMul, Nat.reduceEqDiff, Go.Addr.add, ↓reduceIte] at hw227_2)
                                  have hw227_1 := hx227_1
                                  (try rw [show ((1 : Int)).toNat = 1 from rfl] at hw227_1)
                                  (try rw [show 1 * 5 = 5 from rfl] at hw227_1)
                                  (try simp only [Nat.reduceMul, Nat.reduceEqDiff, Go.Addr.add, ↓reduceIte] at hw227_1)
                                  have hw227_0 := hx227_0
                                  (try rw [show ((1 : Int)).toNat = 1 from rfl] at hw227_0)
                                  (try rw [show 1 * 5 = 5 from rfl] at hw227_0)
                                  (try simp only [Nat.reduceMul, Nat.reduceEqDiff, Go.Addr.add, ↓reduceIte] at hw227_0)
                                  obtain rfl : ad225 = ad227 := (by injection e227)
                                  (try simp only [show (1 : Int).toNat = 1 from rfl, Nat.reduceMul, Nat.reduceEqDiff, Go.Addr.add, ↓reduceIte] at hx227_0)
                                  (try simp only [show (1 : Int).toNat = 1 from rfl, Nat.reduceMul, Nat.reduceEqDiff, Go.Addr.add, ↓reduceIte] at hx227_1)
                                  (try simp only [show (1 : Int).toNat = 1 from rfl, Nat.reduceMul, Nat.reduceEqDiff, Go.Addr.add, ↓reduceIte] at hx227_2)
                                  (try simp only [show (1 : Int).toNat = 1 from rfl, Nat.reduceMul, Nat.reduceEqDiff, Go.Addr.add, ↓reduceIte] at hx227_3)
                                  (try simp only [show (1 : Int).toNat = 1 from rfl, Nat.reduceMul, Nat.reduceEqDiff, Go.Addr.add, ↓reduceIte] at hx227_4)
                                  have qi227 : (1 < l0_4.length) = True := eq_true (by omega)
                                  (try rw [show ((1 : Int)).toNat = 1 from rfl] at hx227_0)
                                  (try rw [show 1 * 5 = 5 from rfl] at hx227_0)
                                  (try rw [show ((1 : Int)).toNat = 1 from rfl] at hx227_1)
                                  (try rw [show 1 * 5 = 5 from rfl] at hx227_1)
                                  (try rw [show ((1 : Int)).toNat = 1 from rfl] at hx227_2)
                                  (try rw [show 1 * 5 = 5 from rfl] at hx227_2)
                                  (try rw [show ((1 : Int)).toNat = 1 from rfl] at hx227_3)
                                  (try rw [show 1 * 5 = 5 from rfl] at hx227_3)
                                  (try rw [show ((1 : Int)).toNat = 1 from rfl] at hx227_4)
                                  (try rw [show 1 * 5 = 5 from rfl] at hx227_4)
                                  replace hx227_0 := (HB.out.cell (World.block_lt_of_cell? w _ hx227_0)).trans hx227_0
                                  replace hx227_1 := (HB.out.cell (World.block_lt_of_cell? w _ hx227_1)).trans hx227_1
                                  replace hx227_2 := (HB.out.cell (World.block_lt_of_cell? w _ hx227_2)).trans hx227_2
                                  replace hx227_3 := (HB.out.cell (World.block_lt_of_cell? w _ hx227_3)).trans hx227_3
                                  replace hx227_4 := (HB.out.cell (World.block_lt_of_cell? w _ hx227_4)).trans hx227_4
                                  have HR227_4 := Aside0.mk hi227_4
                                  have HC227_4 := Aside0.mk hl227_4
                                  clear hi227_4 hl227_4
                                  replace p227 := eq_true p227
                                  replace q227 := eq_true q227
                                  refine start_ (n := 17) (S := fun w' => w'.cell? ⟨gb212, 0, none⟩ = some (.int .i64 a0_0) ∧ w'.cell? ⟨gb212, 1, none⟩ = some (.int .i64 a0_1) ∧ w'.cell? ⟨gb212, 2, none⟩ = some (.int .i64 a0_2) ∧ w'.cell? ⟨gb212, 3, none⟩ = some (.int .i64 a0_3) ∧ w'.cell? ⟨gb212, 4, none⟩ = some (.slice (some ad225) l0_4.length c0_4) ∧ w'.cell? ad225 = some (.int .i64 ((rd_T32 l0_4 0).f0)) ∧ w'.cell? ⟨ad225.block, ad225.off + 1, none⟩ = some (.int .i64 ((rd_T32 l0_4 0).f1)) ∧ w'.cell? ⟨ad225.block, ad225.off + 2, none⟩ = some (.int .i64 ((rd_T32 l0_4 0).f2)) ∧ w'.cell? ⟨ad225.block, ad225.off + 3, none⟩ = some (.int .i64 ((rd_T32 l0_4 0).f3)) ∧ w'.cell? ⟨ad225.block, ad225.off + 4, none⟩ = some (.slice A225_4 ((rd_T32 l0_4 0).f4).length c225_4) ∧ w'.cell? ⟨ad225.block, ad225.off + 5, none⟩ = some (.int .i64 ((rd_T32 l0_4 1).f0)) ∧ w'.cell? ⟨ad225.block, ad225.off + 5 + 1, none⟩ = some (.int .i64 ((rd_T32 l0_4 1).f1)) ∧ w'.cell? ⟨ad225.block, ad225.off + 5 + 2, none⟩ = some (.int .i64 ((rd_T32 l0_4 1).f2)) ∧ w'.cell? ⟨ad225.block, ad225.off + 5 + 3, none⟩ = some (.int .i64 ((rd_T32 l0_4 1).f3)) ∧ w'.cell? ⟨ad225.block, ad225.off + 5 + 4, none⟩ = some (.slice A227_4 ((rd_T32 l0_4 1).f4).length c227_4)) (ds := []) #[false, false, false, false, false, false, false, false, false, false, false, false, false, false, false, false, false] (by kernel_rfl) rfl rfl ⟨(blk_cell BK212.out 0).trans rfl, (blk_cell BK212.out 1).trans rfl, (blk_cell BK212.out 2).trans rfl, (blk_cell BK212.out 3).trans rfl, (blk_cell BK212.out 4).trans rfl, ((HB.out.cell (World.block_lt_of_cell? w _ hw225_0)).trans hw225_0), ((HB.out.cell (World.block_lt_of_cell? w _ hw225_1)).trans hw225_1), ((HB.out.cell (World.block_lt_of_cell? w _ hw225_2)).trans hw225_2), ((HB.out.cell (World.block_lt_of_cell? w _ hw225_3)).trans hw225_3), ((HB.out.cell (World.block_lt_of_cell? w _ hw225_4)).trans hw225_4), ((HB.out.cell (World.block_lt_of_cell? w _ hw227_0)).trans hw227_0), ((HB.out.cell (World.block_lt_of_cell? w _ hw227_1)).trans hw227_1), ((HB.out.cell (World.block_lt_of_cell? w _ hw227_2)).trans hw227_2), ((HB.out.cell (World.block_lt_of_cell? w _ hw227_3)).trans hw227_3), ((HB.out.cell (World.block_lt_of_cell? w _ hw227_4)).trans hw227_4)⟩ (fun hHeld => ?_); refine with_tabW impl_Formula_text.tab17 impl_Formula_text.bits17 (fun HT_ HW_ => ?_)
                                  generalize wc.drew = w57 at BK212 HB HR225_4 HR227_4 hx225_0 hx225_1 hx225_2 hx225_3 hx225_4 hx227_0 hx227_1 hx227_2 hx227_3 hx227_4 hHeld ⊢
                                  refine pure_ (i := 0) (N := some 76) (v := ?_) (a' := ?_) #[true, false, false, false, false, false, false, false, false, false, false, false, false, false, false, false, false] rfl rfl (any_of HT_.out (by kernel_rfl)) (fun _ _ _ h => h) (Or.inl ⟨by rfl, ?_⟩) ?_ ?_
                                  rotate_left
                                  · intro w'
                                    go_simp
                                    with_reducible rfl
                                  rotate_left
                                  · simp only [Act.put, List.setIfInBounds_toArray, List.set_cons_zero, List.set_cons_succ, i64_w, i32_w]
                                    rfl
                                  refine pure_ (i := 4) (N := some 80) (v := ?_) (a' := ?_) #[true, false, false, false, true, false, false, false, false, false, false, false, false, false, false, false, false] rfl rfl (any_of HT_.out (by kernel_rfl)) (fun _ _ _ h => h) (Or.inl ⟨by rfl, ?_⟩) ?_ ?_
                                  rotate_left
                                  · intro w'
                                    go_simp
                                    with_reducible rfl
                                  rotate_left
                                  · simp only [Act.put, List.setIfInBounds_toArray, List.set_cons_zero, List.set_cons_succ, i64_w, i32_w]
                                    rfl
                                  refine pure_ (i := 8) (N := some 84) (v := ?_) (a' := ?_) #[true, false, false, false, true, false, false, false, true, false, false, false, false, false, false, false, false] rfl rfl (any_of HT_.out (by kernel_rfl)) (fun _ _ _ h => h) (Or.inl ⟨by rfl, ?_⟩) ?_ ?_
                                  rotate_left
                                  · intro w'
                                    go_simp
                                    with_reducible rfl
                                  rotate_left
                                  · simp only [Act.put, List.setIfInBounds_toArray, List.set_cons_zero, List.set_cons_succ, i64_w, i32_w]
                                    rfl
                                  refine pure_ (i := 12) (N := some 88) (v := ?_) (a' := ?_) #[true, false, false, false, true, false, false, false, true, false, false, false, true, false, false, false, false] rfl rfl (any_of HT_.out (by kernel_rfl)) (fun _ _ _ h => h) (Or.inl ⟨by rfl, ?_⟩) ?_ ?_
                                  rotate_left
                                  · intro w'
                                    go_simp
                                    with_reducible rfl
                                  rotate_left
                                  · simp only [Act.put, List.setIfInBounds_toArray, List.set_cons_zero, List.set_cons_succ, i64_w, i32_w]
                                    rfl
                                  refine take_ (i := 1) (N := some 77) (v := ?_) (a' := ?_) #[true, true, false, false, true, false, false, false, true, false, false, false, true, false, false, false, false] rfl rfl (take_ofW HT_.out HW_.out (by kernel_rfl)) (fun _ _ _ h => h) (Or.inl ⟨by rfl, ?_⟩) hHeld ?_ ?_
                                  rotate_left
                                  · rintro w' ⟨s0, s1, s2, s3, s4, s5, s6, s7, s8, s9, s10, s11, s12, s13, s14⟩
                                    go_simp
                                    with_reducible rfl
                                  rotate_left
                                  · simp only [Act.put, List.setIfInBounds_toArray, List.set_cons_zero, List.set_cons_succ, i64_w, i32_w]
                                    rfl
                                  refine pure_ (i := 2) (N := some 78) (v := ?_) (a' := ?_) #[true, true, true, false, true, false, false, false, true, false, false, false, true, false, false, false, false] rfl rfl (any_of HT_.out (by kernel_rfl)) (fun _ _ _ h => h) (Or.inl ⟨by rfl, ?_⟩) ?_ ?_
                                  rotate_left
                                  · intro w'
                                    go_simp
                                    with_reducible rfl
                                  rotate_left
                                  · simp only [Act.put, List.setIfInBounds_toArray, List.set_cons_zero, List.set_cons_succ, i64_w, i32_w]
                                    rfl
                                  refine take_ (i := 3) (N := some 79) (v := ?_) (a' := ?_) #[true, true, true, true, true, false, false, false, true, false, false, false, true, false, false, false, false] rfl rfl (take_ofW HT_.out HW_.out (by kernel_rfl)) (fun _ _ _ h => h) (Or.inl ⟨by rfl, ?_⟩) hHeld ?_ ?_
                                  rotate_left
                                  · rintro w' ⟨s0, s1, s2, s3, s4, s5, s6, s7, s8, s9, s10, s11, s12, s13, s14⟩
                                    go_simp
                                    with_reducible rfl
                                  rotate_left
                                  · simp only [Act.put, List.setIfInBounds_toArray, List.set_cons_zero, List.set_cons_succ, i64_w, i32_w]
                                    rfl
                                  refine take_ (i := 9) (N := some 85) (v := ?_) (a' := ?_) #[true, true, true, true, true, false, false, false, true, true, false, false, true, false, false, false, false] rfl rfl (take_ofW HT_.out HW_.out (by kernel_rfl)) (fun _ _ _ h => h) (Or.inl ⟨by rfl, ?_⟩) hHeld ?_ ?_
                                  rotate_left
                                  · rintro w' ⟨s0, s1, s2, s3, s4, s5, s6, s7, s8, s9, s10, s11, s12, s13, s14⟩
                                    go_simp
                                    with_reducible rfl
                                  rotate_left
                                  · simp only [Act.put, List.setIfInBounds_toArray, List.set_cons_zero, List.set_cons_succ, i64_w, i32_w]
                                    rfl
                                  refine pure_ (i := 10) (N := some 86) (v := ?_) (a' := ?_) #[true, true, true, true, true, false, false, false, true, true, true, false, true, false, false, false, false] rfl rfl (any_of HT_.out (by kernel_rfl)) (fun _ _ _ h => h) (Or.inl ⟨by rfl, ?_⟩) ?_ ?_
                                  rotate_left
                                  · intro w'
                                    go_simp
                                    with_reducible rfl
                                  rotate_left
                                  · simp only [Act.put, List.setIfInBounds_toArray, List.set_cons_zero, List.set_cons_succ, i64_w, i32_w]
                                    rfl
                                  refine take_ (i := 11) (N := some 87) (v := ?_) (a' := ?_) #[true, true, true, true, true, false, false, false, true, true, true, true, true, false, false, false, false] rfl rfl (take_ofW HT_.out HW_.out (by kernel_rfl)) (fun _ _ _ h => h) (Or.inl ⟨by rfl, ?_⟩) hHeld ?_ ?_
                                  rotate_left
                                  · rintro w' ⟨s0, s1, s2, s3, s4, s5, s6, s7, s8, s9, s10, s11, s12, s13, s14⟩
                                    go_simp
                                    with_reducible rfl
                                  rotate_left
                                  · simp only [Act.put, List.setIfInBounds_toArray, List.set_cons_zero, List.set_cons_succ, i64_w, i32_w]
                                    rfl
                                  refine one_ (i := 5) (N := some 81) #[true, true, true, true, true, true, false, false, true, true, true, true, true, false, false, false, false] rfl rfl (one_of HT_.out (by kernel_rfl)) (by decide) (fun K hK => ?_)
                                  refine goes_ Try.func47 (by kernel_rfl) rfl #[.agg #[.int .i64 ((rd_T32 l0_4 0).f0), .int .i64 ((rd_T32 l0_4 0).f1), .int .i64 ((rd_T32 l0_4 0).f2), .int .i64 ((rd_T32 l0_4 0).f3), .slice A225_4 ((rd_T32 l0_4 0).f4).length c225_4], .slice A1 l1.length c1] (by rfl) rfl rfl (by (try simp only [List.map_toArray, List.map_cons, List.map_nil]); first | done | rfl | (simp only [List.length_drop, List.length_take]; rfl)) ?_
                                  with_reducible refine (ih kj20 (by have := HJ3.out; have := HJ20.out; omega) ((rd_T32 l0_4 0).f0) ((rd_T32 l0_4 0).f1) ((rd_T32 l0_4 0).f2) ((rd_T32 l0_4 0).f3) _ _ ((rd_T32 l0_4 0).f4) _ _ l1 t226 _ ?side1 ?side2 ?side3 ?side4 A50.out).mono ?_
                                  (case side1 => repeat (first | exact (Kd.C_below HR225_4.out HB.out) | (with_reducible refine Kd.C_alloc ?_ _) | (with_reducible refine Kd.C_drewN ?_ _) | (with_reducible refine Kd.C_drew ?_)))
                                  (case side2 => exact HC225_4.out)
                                  (case side3 => repeat (first | exact (Kd.C_below HR1.out HB.out) | (with_reducible refine Kd.C_alloc ?_ _) | (with_reducible refine Kd.C_drewN ?_ _) | (with_reducible refine Kd.C_drew ?_)))
                                  (case side4 => exact HC1.out)
                                  rintro e w58 ⟨rfl, hb⟩
                                  refine ⟨_, rfl, ?_⟩
                                  have n0_ := Aside0.mk (blk_below (g := gb212) (o := .cells #[.int .i64 a0_0, .int .i64 a0_1, .int .i64 a0_2, .int .i64 a0_3, .slice (some ad225) l0_4.length c0_4] 32 (0, 0)) (by (with_reducible repeat (first | refine blk_drewN ?_ _ | refine blk_drew ?_ | refine blk_alloc ?_ _)); exact BK212.out) hb)
                                  have n1_ := Aside0.mk (below_step (by repeat (first | (with_reducible first | exact HB.out | apply below_alloc | apply pw_below_drewN | apply below_drew1 | refine below_set ?_ GE212.out) | exact HB.out)) hb)
                                  clear BK212
                                  clear HB
                                  have BK212 := n0_
                                  have HB := n1_
                                  clear n0_ n1_
                                  (try clear hb)
                                  (try clear hb2)
                                  (try clear hk)
                                  (try clear hi)
                                  refine hK.out _ _ ⟨(blk_cell BK212.out 0).trans rfl, (blk_cell BK212.out 1).trans rfl, (blk_cell BK212.out 2).trans rfl, (blk_cell BK212.out 3).trans rfl, (blk_cell BK212.out 4).trans rfl, ((HB.out.cell (World.block_lt_of_cell? w _ hw225_0)).trans hw225_0), ((HB.out.cell (World.block_lt_of_cell? w _ hw225_1)).trans hw225_1), ((HB.out.cell (World.block_lt_of_cell? w _ hw225_2)).trans hw225_2), ((HB.out.cell (World.block_lt_of_cell? w _ hw225_3)).trans hw225_3), ((HB.out.cell (World.block_lt_of_cell? w _ hw225_4)).trans hw225_4), ((HB.out.cell (World.block_lt_of_cell? w _ hw227_0)).trans hw227_0), ((HB.out.cell (World.block_lt_of_cell? w _ hw227_1)).trans hw227_1), ((HB.out.cell (World.block_lt_of_cell? w _ hw227_2)).trans hw227_2), ((HB.out.cell (World.block_lt_of_cell? w _ hw227_3)).trans hw227_3), ((HB.out.cell (World.block_lt_of_cell? w _ hw227_4)).trans hw227_4)⟩ (fun hHeld => ?_)
                                  clear hK K
                                  refine norm_ (a' := ?_) ?_ ?_
                                  rotate_left
                                  · show Act.put _ (some 81) _ = _
                                    simp only [Act.put, List.setIfInBounds_toArray, List.set_cons_zero, List.set_cons_succ, i64_w, i32_w]
                                    rfl
                                  refine pure_ (i := 6) (N := some 82) (v := ?_) (a' := ?_) #[true, true, true, true, true, true, true, false, true, true, true, true, true, false, false, false, false] rfl rfl (any_of HT_.out (by kernel_rfl)) (fun _ _ _ h => h) (Or.inl ⟨by rfl, ?_⟩) ?_ ?_
                                  rotate_left
                                  · intro w'
                                    go_simp
                                    with_reducible rfl
                                  rotate_left
                                  · simp only [Act.put, List.setIfInBounds_toArray, List.set_cons_zero, List.set_cons_succ, i64_w, i32_w]
                                    rfl
                                  refine pure_ (i := 7) (N := some 83) (v := ?_) (a' := ?_) #[true, true, true, true, true, true, true, true, true, true, true, true, true, false, false, false, false] rfl rfl (any_of HT_.out (by kernel_rfl)) (fun _ _ _ h => h) (Or.inl ⟨by rfl, ?_⟩) ?_ ?_
                                  rotate_left
                                  · intro w'
                                    go_simp
                                    with_reducible rfl
                                  rotate_left
                                  · simp only [Act.put, List.setIfInBounds_toArray, List.set_cons_zero, List.set_cons_succ, i64_w, i32_w]
                                    rfl
                                  refine one_ (i := 13) (N := some 89) #[true, true, true, true, true, true, true, true, true, true, true, true, true, true, false, false, false] rfl rfl (one_of HT_.out (by kernel_rfl)) (by decide) (fun K hK => ?_)
                                  refine goes_ Try.func47 (by kernel_rfl) rfl #[.agg #[.int .i64 ((rd_T32 l0_4 1).f0), .int .i64 ((rd_T32 l0_4 1).f1), .int .i64 ((rd_T32 l0_4 1).f2), .int .i64 ((rd_T32 l0_4 1).f3), .slice A227_4 ((rd_T32 l0_4 1).f4).length c227_4], .slice A1 l1.length c1] (by rfl) rfl rfl (by (try simp only [List.map_toArray, List.map_cons, List.map_nil]); first | done | rfl | (simp only [List.length_drop, List.length_take]; rfl)) ?_
                                  with_reducible refine (ih kj20 (by have := HJ3.out; have := HJ20.out; omega) ((rd_T32 l0_4 1).f0) ((rd_T32 l0_4 1).f1) ((rd_T32 l0_4 1).f2) ((rd_T32 l0_4 1).f3) _ _ ((rd_T32 l0_4 1).f4) _ _ l1 t228 _ ?side1 ?side2 ?side3 ?side4 A54.out).mono ?_
                                  (case side1 => repeat (first | exact (Kd.C_below HR227_4.out HB.out) | (with_reducible refine Kd.C_alloc ?_ _) | (with_reducible refine Kd.C_drewN ?_ _) | (with_reducible refine Kd.C_drew ?_)))
                                  (case side2 => exact HC227_4.out)
                                  (case side3 => repeat (first | exact (Kd.C_below HR1.out HB.out) | (with_reducible refine Kd.C_alloc ?_ _) | (with_reducible refine Kd.C_drewN ?_ _) | (with_reducible refine Kd.C_drew ?_)))
                                  (case side4 => exact HC1.out)
                                  rintro e w59 ⟨rfl, hb⟩
                                  refine ⟨_, rfl, ?_⟩
                                  have n0_ := Aside0.mk (blk_below (g := gb212) (o := .cells #[.int .i64 a0_0, .int .i64 a0_1, .int .i64 a0_2, .int .i64 a0_3, .slice (some ad225) l0_4.length c0_4] 32 (0, 0)) (by (with_reducible repeat (first | refine blk_drewN ?_ _ | refine blk_drew ?_ | refine blk_alloc ?_ _)); exact BK212.out) hb)
                                  have n1_ := Aside0.mk (below_step (by repeat (first | (with_reducible first | exact HB.out | apply below_alloc | apply pw_below_drewN | apply below_drew1 | refine below_set ?_ GE212.out) | exact HB.out)) hb)
                                  clear BK212
                                  clear HB
                                  have BK212 := n0_
                                  have HB := n1_
                                  clear n0_ n1_
                                  (try clear hb)
                                  (try clear hb2)
                                  (try clear hk)
                                  (try clear hi)
                                  refine hK.out _ _ ⟨(blk_cell BK212.out 0).trans rfl, (blk_cell BK212.out 1).trans rfl, (blk_cell BK212.out 2).trans rfl, (blk_cell BK212.out 3).trans rfl, (blk_cell BK212.out 4).trans rfl, ((HB.out.cell (World.block_lt_of_cell? w _ hw225_0)).trans hw225_0), ((HB.out.cell (World.block_lt_of_cell? w _ hw225_1)).trans hw225_1), ((HB.out.cell (World.block_lt_of_cell? w _ hw225_2)).trans hw225_2), ((HB.out.cell (World.block_lt_of_cell? w _ hw225_3)).trans hw225_3), ((HB.out.cell (World.block_lt_of_cell? w _ hw225_4)).trans hw225_4), ((HB.out.cell (World.block_lt_of_cell? w _ hw227_0)).trans hw227_0), ((HB.out.cell (World.block_lt_of_cell? w _ hw227_1)).trans hw227_1), ((HB.out.cell (World.block_lt_of_cell? w _ hw227_2)).trans hw227_2), ((HB.out.cell (World.block_lt_of_cell? w _ hw227_3)).trans hw227_3), ((HB.out.cell (World.block_lt_of_cell? w _ hw227_4)).trans hw227_4)⟩ (fun hHeld => ?_)
                                  clear hK K
                                  refine norm_ (a' := ?_) ?_ ?_
                                  rotate_left
                                  · show Act.put _ (some 89) _ = _
                                    simp only [Act.put, List.setIfInBounds_toArray, List.set_cons_zero, List.set_cons_succ, i64_w, i32_w]
                                    rfl
                                  refine pure_ (i := 14) (N := some 90) (v := ?_) (a' := ?_) #[true, true, true, true, true, true, true, true, true, true, true, true, true, true, true, false, false] rfl rfl (any_of HT_.out (by kernel_rfl)) (fun _ _ _ h => h) (Or.inl ⟨by rfl, ?_⟩) ?_ ?_
                                  rotate_left
                                  · intro w'
                                    go_simp
                                    with_reducible rfl
                                  rotate_left
                                  · simp only [Act.put, List.setIfInBounds_toArray, List.set_cons_zero, List.set_cons_succ, i64_w, i32_w]
                                    rfl
                                  refine pure_ (i := 15) (N := some 91) (v := ?_) (a' := ?_) #[true, true, true, true, true, true, true, true, true, true, true, true, true, true, true, true, false] rfl rfl (any_of HT_.out (by kernel_rfl)) (fun _ _ _ h => h) (Or.inl ⟨by rfl, ?_⟩) ?_ ?_
                                  rotate_left
                                  · intro w'
                                    go_simp
                                    with_reducible rfl
                                  rotate_left
                                  · simp only [Act.put, List.setIfInBounds_toArray, List.set_cons_zero, List.set_cons_succ, i64_w, i32_w]
                                    rfl
                                  refine pure_ (i := 16) (N := some 4) (v := ?_) (a' := ?_) #[true, true, true, true, true, true, true, true, true, true, true, true, true, true, true, true, true] rfl rfl (any_of HT_.out (by kernel_rfl)) (fun _ _ _ h => h) (Or.inl ⟨by rfl, ?_⟩) ?_ ?_
                                  rotate_left
                                  · intro w'
                                    go_simp
                                    with_reducible rfl
                                  rotate_left
                                  · simp only [Act.put, List.setIfInBounds_toArray, List.set_cons_zero, List.set_cons_succ, i64_w, i32_w]
                                    rfl
                                  refine done_ (done_of HT_.out (by kernel_rfl)) ?_
                                  try go_wp2
                                  go_ret
                                  exact ⟨by first | rfl | (simp [errW_none, errW_some] <;> rfl) | (simp [*, errW_none, errW_some] <;> rfl), by repeat (first | (with_reducible first | exact HB.out | apply below_alloc | apply pw_below_drewN | apply below_drew1 | refine below_set ?_ GE212.out) | exact HB.out)⟩
                                · rw [if_neg c56] at H
                                  exact absurd H (by simp)
                              · rw [if_neg c55] at H
                                exact absurd H (by simp)
                            · rw [if_neg c53] at H
                              exact absurd H (by simp)
                          · rw [if_neg c52] at H
                            exact absurd H (by simp)
                        · rw [if_neg c51] at H
                          exact absurd H (by simp)
                      · rw [if_neg c49] at H
                        exact absurd H (by simp)
                    · rw [if_neg c48] at H
                      have c48b0 : (a0_0 == 10) = false := beq_eq_false_iff_ne.mpr c48
                      have c48b1 : (a0_0 != 10) = true := bne_iff_ne.mpr c48
                      have HC60 := Aside0.mk H
                      clear H
                      go_upto_if 92 with (fail)
                      go_cut [92] (fun v92 wc => ∃ (kq : Nat) (x92_59 : Bool), v92 = .bool x92_59 ∧ Aside0 (impl_Formula_text.j2 kq l1 t213 x92_59 a0_0 a0_1 a0_2 a0_3 l0_4 = some r) ∧ Aside0 (kq ≤ kj20) ∧ Aside0 (wc.heap[gb212]? = some (.cells #[.int .i64 a0_0, .int .i64 a0_1, .int .i64 a0_2, .int .i64 a0_3, (.slice A0_4 l0_4.length c0_4)] 32 (0, 0))) ∧ Aside0 (Below w.heap.size w wc))
                      case first =>
                        have H := HC60.out
                        clear HC60
                        by_cases c61 : a0_0 = 11
                        · rw [if_pos c61] at H
                          have c61b0 : (a0_0 == 11) = true := beq_iff_eq.mpr c61
                          have c61b1 : (a0_0 != 11) = false := bne_eq_false_iff_eq.mpr c61
                          clear c61
                          (first | rw [c61b0] | (simp only [i64_w, i32_w]; rw [c61b0]) | skip)
                          have H' := Aside0.mk H
                          clear H
                          go_wp2
                          go_meet
                          case rel => exact ⟨_, ((a0_0 == 11)), (by first | rfl | (simp; done) | (simp [*]; done) | (simp; rw [Bool.eq_iff_iff]; simp; done)), H', ⟨by have := HJ3.out; have := HJ20.out; first | omega | exact Nat.le_refl _⟩, ⟨by (with_reducible repeat (first | refine blk_drewN ?_ _ | refine blk_drew ?_ | refine blk_alloc ?_ _)); exact BK212.out⟩, ⟨by repeat (first | (with_reducible first | exact HB.out | apply below_alloc | apply pw_below_drewN | apply below_drew1 | refine below_set ?_ GE212.out) | exact HB.out)⟩⟩
                        · rw [if_neg c61] at H
                          have c61b0 : (a0_0 == 11) = false := beq_eq_false_iff_ne.mpr c61
                          have c61b1 : (a0_0 != 11) = true := bne_iff_ne.mpr c61
                          (first | rw [c61b0] | (simp only [i64_w, i32_w]; rw [c61b0]) | skip)
                          have H' := Aside0.mk H
                          clear H
                          go_wp2
                          go_meet
                          case rel => exact ⟨_, ((a0_0 == 12)), (by first | rfl | (simp; done) | (simp [*]; done) | (simp; rw [Bool.eq_iff_iff]; simp; done)), H', ⟨by have := HJ3.out; have := HJ20.out; first | omega | exact Nat.le_refl _⟩, ⟨by (with_reducible repeat (first | refine blk_drewN ?_ _ | refine blk_drew ?_ | refine blk_alloc ?_ _)); exact BK212.out⟩, ⟨by repeat (first | (with_reducible first | exact HB.out | apply below_alloc | apply pw_below_drewN | apply below_drew1 | refine below_set ?_ GE212.out) | exact HB.out)⟩⟩
                      case rest =>
                        clear HC60
                        try clear c1
                        try clear c2
                        try clear p2
                        try clear q2
                        try clear hx2
                        try clear qi2
                        try clear c3
                        try clear c4
                        try clear c5
                        try clear c6
                        try clear c22
                        try clear p22
                        try clear q22
                        try clear hx22
                        try clear qi22
                        try clear c36
                        try clear c36b0
                        try clear c36b1
                        try clear c37
                        try clear c39
                        try clear c40
                        try clear c41
                        try clear c43
                        try clear c44
                        try clear c47
                        try clear c48
                        try clear c48b0
                        try clear c48b1
                        try clear c49
                        try clear c49b0
                        try clear c49b1
                        try clear c51
                        try clear c51b0
                        try clear c51b1
                        try clear c51b2
                        try clear c52
                        try clear c52b0
                        try clear c52b1
                        try clear c52b2
                        try clear c53
                        try clear c53b0
                        try clear c53b1
                        try clear c55
                        try clear c55b0
                        try clear c55b1
                        try clear c55b2
                        try clear c56
                        try clear c56b0
                        try clear c56b1
                        try clear c56b2
                        try clear c61
                        try clear c61b0
                        try clear c61b1
                        try clear hx221_0
                        try clear hx221_1
                        try clear hx221_2
                        try clear hx221_3
                        try clear hx221_4
                        try clear hx223_0
                        try clear hx223_1
                        try clear hx223_2
                        try clear hx223_3
                        try clear hx223_4
                        try clear hx225_0
                        try clear hx225_1
                        try clear hx225_2
                        try clear hx225_3
                        try clear hx225_4
                        try clear hx227_0
                        try clear hx227_1
                        try clear hx227_2
                        try clear hx227_3
                        try clear hx227_4
                        try clear p223
                        try clear p225
                        try clear p227
                        try clear q223
                        try clear q225
                        try clear q227
                        obtain ⟨kq, x92_59, rfl, HA, HJ59, BK212, HB⟩ := hcut
                        cases kq with
                        | zero => exact absurd HA.out (by simp [impl_Formula_text.j2])
                        | succ kj59 =>
                          have H := HA.out
                          clear HA
                          simp only [impl_Formula_text.j2] at H
                          by_cases c62 : x92_59 = true
                          · subst c62
                            have H1 : ((impl_logicName.f a0_2).bind fun t229 => (if t213.size + t229.size ≤ 9223372036854775807 then (if (t213 ++ t229).size + 1 ≤ 9223372036854775807 then (if 0 < (l0_4.length : Int) then ((impl_Formula_text.f kj59 ((rd_T32 l0_4 0).f0) ((rd_T32 l0_4 0).f1) ((rd_T32 l0_4 0).f2) ((rd_T32 l0_4 0).f3) ((rd_T32 l0_4 0).f4) l1).bind fun t231 => (if ((t213 ++ t229) ++ (⟨#[46]⟩ : ByteArray)).size + t231.size ≤ 9223372036854775807 then (some (((t213 ++ t229) ++ (⟨#[46]⟩ : ByteArray)) ++ t231)) else (none))) else (none)) else (none)) else (none))) = some r := by rw [if_pos rfl] at H; exact H
                            clear H
                            have H := H1
                            clear H1
                            replace H := Option.bind_eq_some_iff.mp H
                            obtain ⟨t229, A630, H⟩ := H
                            replace H : (if t213.size + t229.size ≤ 9223372036854775807 then (if (t213 ++ t229).size + 1 ≤ 9223372036854775807 then (if 0 < (l0_4.length : Int) then ((impl_Formula_text.f kj59 ((rd_T32 l0_4 0).f0) ((rd_T32 l0_4 0).f1) ((rd_T32 l0_4 0).f2) ((rd_T32 l0_4 0).f3) ((rd_T32 l0_4 0).f4) l1).bind fun t231 => (if ((t213 ++ t229) ++ (⟨#[46]⟩ : ByteArray)).size + t231.size ≤ 9223372036854775807 then (some (((t213 ++ t229) ++ (⟨#[46]⟩ : ByteArray)) ++ t231)) else (none))) else (none)) else (none)) else (none)) = some r := H
                            have A63 := Aside0.mk A630
                            clear A630
                            by_cases c64 : t213.size + t229.size ≤ 9223372036854775807
                            · rw [if_pos c64] at H
                              have c64b0 := eq_true c64
                              have c64b1 : decide (t213.size + t229.size ≤ 9223372036854775807) = true := decide_eq_true c64
                              try have c64b2 : (9223372036854775807 < t213.size + t229.size) = False := eq_false (Nat.not_lt.2 c64)
                              by_cases c65 : (t213 ++ t229).size + 1 ≤ 9223372036854775807
                              · rw [if_pos c65] at H
                                have c65b0 := eq_true c65
                                have c65b1 : decide ((t213 ++ t229).size + 1 ≤ 9223372036854775807) = true := decide_eq_true c65
                                try have c65b2 : (9223372036854775807 < (t213 ++ t229).size + 1) = False := eq_false (Nat.not_lt.2 c65)
                                try have c65s : (9223372036854775807 < t213.size + t229.size + 1) = False := by have h := c65b2; simp only [ByteArray.size_append] at h; exact h
                                by_cases c66 : 0 < (l0_4.length : Int)
                                · rw [if_pos c66] at H
                                  have c66b0 : decide (0 < (l0_4.length : Int)) = true := decide_eq_true c66
                                  have c66b1 : decide (0 < l0_4.length) = true := decide_eq_true (by omega)
                                  clear c66
                                  replace H := Option.bind_eq_some_iff.mp H
                                  obtain ⟨t231, A670, H⟩ := H
                                  replace H : (if ((t213 ++ t229) ++ (⟨#[46]⟩ : ByteArray)).size + t231.size ≤ 9223372036854775807 then (some (((t213 ++ t229) ++ (⟨#[46]⟩ : ByteArray)) ++ t231)) else (none)) = some r := H
                                  have A67 := Aside0.mk A670
                                  clear A670
                                  by_cases c68 : ((t213 ++ t229) ++ (⟨#[46]⟩ : ByteArray)).size + t231.size ≤ 9223372036854775807
                                  · rw [if_pos c68] at H
                                    have c68b0 := eq_true c68
                                    have c68b1 : decide (((t213 ++ t229) ++ (⟨#[46]⟩ : ByteArray)).size + t231.size ≤ 9223372036854775807) = true := decide_eq_true c68
                                    try have c68b2 : (9223372036854775807 < ((t213 ++ t229) ++ (⟨#[46]⟩ : ByteArray)).size + t231.size) = False := eq_false (Nat.not_lt.2 c68)
                                    try have c68s : (9223372036854775807 < t213.size + t229.size + 1 + t231.size) = False := by have h := c68b2; simp only [ByteArray.size_append] at h; exact h
                                    obtain rfl := Option.some.inj H
                                    try go_wp2
                                    have n0_ := Aside0.mk (blk_drew BK212.out)
                                    have n1_ := Aside0.mk (below_drew1 HB.out)
                                    clear BK212
                                    clear HB
                                    have BK212 := n0_
                                    have HB := n1_
                                    clear n0_ n1_
                                    have p230 : 0 ≤ (0 : Int) := (by omega)
                                    have q230 : 0 < (l0_4.length : Int) := of_decide_eq_true (by first | (with_reducible assumption) | assumption)
                                    obtain ⟨ad230, A230_4, c230_4, e230, hx230_0, hx230_1, hx230_2, hx230_3, hx230_4, hl230_4, hi230_4⟩ := at_T32 HR0_4.out 0 p230 q230
                                    have hw230_4 := hx230_4
                                    (try rw [show ((0 : Int)).toNat = 0 from rfl] at hw230_4)
                                    (try rw [show 0 * 5 = 0 from rfl] at hw230_4)
                                    (try rw [Addr.add_zero'] at hw230_4)
                                    have hw230_3 := hx230_3
                                    (try rw [show ((0 : Int)).toNat = 0 from rfl] at hw230_3)
                                    (try rw [show 0 * 5 = 0 from rfl] at hw230_3)
                                    (try rw [Addr.add_zero'] at hw230_3)
                                    have hw230_2 := hx230_2
                                    (try rw [show ((0 : Int)).toNat = 0 from rfl] at hw230_2)
                                    (try rw [show 0 * 5 = 0 from rfl] at hw230_2)
                                    (try rw [Addr.add_zero'] at hw230_2)
                                    have hw230_1 := hx230_1
                                    (try rw [show ((0 : Int)).toNat = 0 from rfl] at hw230_1)
                                    (try rw [show 0 * 5 = 0 from rfl] at hw230_1)
                                    (try rw [Addr.add_zero'] at hw230_1)
                                    have hw230_0 := hx230_0
                                    (try rw [show ((0 : Int)).toNat = 0 from rfl] at hw230_0)
                                    (try rw [show 0 * 5 = 0 from rfl] at hw230_0)
                                    (try rw [Addr.add_zero'] at hw230_0)
                                    cases e230
                                    have qi230 : (0 < l0_4.length) = True := eq_true (by omega)
                                    (try rw [show ((0 : Int)).toNat = 0 from rfl] at hx230_0)
                                    (try rw [show 0 * 5 = 0 from rfl] at hx230_0)
                                    (try rw [Addr.add_zero'] at hx230_0)
                                    (try rw [show ((0 : Int)).toNat = 0 from rfl] at hx230_1)
                                    (try rw [show 0 * 5 = 0 from rfl] at hx230_1)
                                    (try rw [Addr.add_zero'] at hx230_1)
                                    (try rw [show ((0 : Int)).toNat = 0 from rfl] at hx230_2)
                                    (try rw [show 0 * 5 = 0 from rfl] at hx230_2)
                                    (try rw [Addr.add_zero'] at hx230_2)
                                    (try rw [show ((0 : Int)).toNat = 0 from rfl] at hx230_3)
                                    (try rw [show 0 * 5 = 0 from rfl] at hx230_3)
                                    (try rw [Addr.add_zero'] at hx230_3)
                                    (try rw [show ((0 : Int)).toNat = 0 from rfl] at hx230_4)
                                    (try rw [show 0 * 5 = 0 from rfl] at hx230_4)
                                    (try rw [Addr.add_zero'] at hx230_4)
                                    replace hx230_0 := (HB.out.cell (World.block_lt_of_cell? w _ hx230_0)).trans hx230_0
                                    replace hx230_1 := (HB.out.cell (World.block_lt_of_cell? w _ hx230_1)).trans hx230_1
                                    replace hx230_2 := (HB.out.cell (World.block_lt_of_cell? w _ hx230_2)).trans hx230_2
                                    replace hx230_3 := (HB.out.cell (World.block_lt_of_cell? w _ hx230_3)).trans hx230_3
                                    replace hx230_4 := (HB.out.cell (World.block_lt_of_cell? w _ hx230_4)).trans hx230_4
                                    have HR230_4 := Aside0.mk hi230_4
                                    have HC230_4 := Aside0.mk hl230_4
                                    clear hi230_4 hl230_4
                                    replace p230 := eq_true p230
                                    replace q230 := eq_true q230
                                    refine start_ (n := 14) (S := fun w' => w'.cell? ⟨gb212, 0, none⟩ = some (.int .i64 a0_0) ∧ w'.cell? ⟨gb212, 1, none⟩ = some (.int .i64 a0_1) ∧ w'.cell? ⟨gb212, 2, none⟩ = some (.int .i64 a0_2) ∧ w'.cell? ⟨gb212, 3, none⟩ = some (.int .i64 a0_3) ∧ w'.cell? ⟨gb212, 4, none⟩ = some (.slice (some ad230) l0_4.length c0_4) ∧ w'.cell? ad230 = some (.int .i64 ((rd_T32 l0_4 0).f0)) ∧ w'.cell? ⟨ad230.block, ad230.off + 1, none⟩ = some (.int .i64 ((rd_T32 l0_4 0).f1)) ∧ w'.cell? ⟨ad230.block, ad230.off + 2, none⟩ = some (.int .i64 ((rd_T32 l0_4 0).f2)) ∧ w'.cell? ⟨ad230.block, ad230.off + 3, none⟩ = some (.int .i64 ((rd_T32 l0_4 0).f3)) ∧ w'.cell? ⟨ad230.block, ad230.off + 4, none⟩ = some (.slice A230_4 ((rd_T32 l0_4 0).f4).length c230_4)) (ds := []) #[false, false, false, false, false, false, false, false, false, false, false, false, false, false] (by kernel_rfl) rfl rfl ⟨(blk_cell BK212.out 0).trans rfl, (blk_cell BK212.out 1).trans rfl, (blk_cell BK212.out 2).trans rfl, (blk_cell BK212.out 3).trans rfl, (blk_cell BK212.out 4).trans rfl, ((HB.out.cell (World.block_lt_of_cell? w _ hw230_0)).trans hw230_0), ((HB.out.cell (World.block_lt_of_cell? w _ hw230_1)).trans hw230_1), ((HB.out.cell (World.block_lt_of_cell? w _ hw230_2)).trans hw230_2), ((HB.out.cell (World.block_lt_of_cell? w _ hw230_3)).trans hw230_3), ((HB.out.cell (World.block_lt_of_cell? w _ hw230_4)).trans hw230_4)⟩ (fun hHeld => ?_); refine with_tabW impl_Formula_text.tab20 impl_Formula_text.bits20 (fun HT_ HW_ => ?_)
                                    generalize wc.drew = w69 at BK212 HB HR230_4 hx230_0 hx230_1 hx230_2 hx230_3 hx230_4 hHeld ⊢
                                    refine pure_ (i := 0) (N := some 95) (v := ?_) (a' := ?_) #[true, false, false, false, false, false, false, false, false, false, false, false, false, false] rfl rfl (any_of HT_.out (by kernel_rfl)) (fun _ _ _ h => h) (Or.inl ⟨by rfl, ?_⟩) ?_ ?_
                                    rotate_left
                                    · intro w'
                                      go_simp
                                      with_reducible rfl
                                    rotate_left
                                    · simp only [Act.put, List.setIfInBounds_toArray, List.set_cons_zero, List.set_cons_succ, i64_w, i32_w]
                                      rfl
                                    refine pure_ (i := 1) (N := some 96) (v := ?_) (a' := ?_) #[true, true, false, false, false, false, false, false, false, false, false, false, false, false] rfl rfl (any_of HT_.out (by kernel_rfl)) (fun _ _ _ h => h) (Or.inl ⟨by rfl, ?_⟩) ?_ ?_
                                    rotate_left
                                    · intro w'
                                      go_simp
                                      with_reducible rfl
                                    rotate_left
                                    · simp only [Act.put, List.setIfInBounds_toArray, List.set_cons_zero, List.set_cons_succ, i64_w, i32_w]
                                      rfl
                                    refine pure_ (i := 6) (N := some 101) (v := ?_) (a' := ?_) #[true, true, false, false, false, false, true, false, false, false, false, false, false, false] rfl rfl (any_of HT_.out (by kernel_rfl)) (fun _ _ _ h => h) (Or.inl ⟨by rfl, ?_⟩) ?_ ?_
                                    rotate_left
                                    · intro w'
                                      go_simp
                                      with_reducible rfl
                                    rotate_left
                                    · simp only [Act.put, List.setIfInBounds_toArray, List.set_cons_zero, List.set_cons_succ, i64_w, i32_w]
                                      rfl
                                    refine pure_ (i := 10) (N := some 105) (v := ?_) (a' := ?_) #[true, true, false, false, false, false, true, false, false, false, true, false, false, false] rfl rfl (any_of HT_.out (by kernel_rfl)) (fun _ _ _ h => h) (Or.inl ⟨by rfl, ?_⟩) ?_ ?_
                                    rotate_left
                                    · intro w'
                                      go_simp
                                      with_reducible rfl
                                    rotate_left
                                    · simp only [Act.put, List.setIfInBounds_toArray, List.set_cons_zero, List.set_cons_succ, i64_w, i32_w]
                                      rfl
                                    refine take_ (i := 2) (N := some 97) (v := ?_) (a' := ?_) #[true, true, true, false, false, false, true, false, false, false, true, false, false, false] rfl rfl (take_ofW HT_.out HW_.out (by kernel_rfl)) (fun _ _ _ h => h) (Or.inl ⟨by rfl, ?_⟩) hHeld ?_ ?_
                                    rotate_left
                                    · rintro w' ⟨s0, s1, s2, s3, s4, s5, s6, s7, s8, s9⟩
                                      go_simp
                                      with_reducible rfl
                                    rotate_left
                                    · simp only [Act.put, List.setIfInBounds_toArray, List.set_cons_zero, List.set_cons_succ, i64_w, i32_w]
                                      rfl
                                    refine take_ (i := 7) (N := some 102) (v := ?_) (a' := ?_) #[true, true, true, false, false, false, true, true, false, false, true, false, false, false] rfl rfl (take_ofW HT_.out HW_.out (by kernel_rfl)) (fun _ _ _ h => h) (Or.inl ⟨by rfl, ?_⟩) hHeld ?_ ?_
                                    rotate_left
                                    · rintro w' ⟨s0, s1, s2, s3, s4, s5, s6, s7, s8, s9⟩
                                      go_simp
                                      with_reducible rfl
                                    rotate_left
                                    · simp only [Act.put, List.setIfInBounds_toArray, List.set_cons_zero, List.set_cons_succ, i64_w, i32_w]
                                      rfl
                                    refine pure_ (i := 8) (N := some 103) (v := ?_) (a' := ?_) #[true, true, true, false, false, false, true, true, true, false, true, false, false, false] rfl rfl (any_of HT_.out (by kernel_rfl)) (fun _ _ _ h => h) (Or.inl ⟨by rfl, ?_⟩) ?_ ?_
                                    rotate_left
                                    · intro w'
                                      go_simp
                                      with_reducible rfl
                                    rotate_left
                                    · simp only [Act.put, List.setIfInBounds_toArray, List.set_cons_zero, List.set_cons_succ, i64_w, i32_w]
                                      rfl
                                    refine take_ (i := 9) (N := some 104) (v := ?_) (a' := ?_) #[true, true, true, false, false, false, true, true, true, true, true, false, false, false] rfl rfl (take_ofW HT_.out HW_.out (by kernel_rfl)) (fun _ _ _ h => h) (Or.inl ⟨by rfl, ?_⟩) hHeld ?_ ?_
                                    rotate_left
                                    · rintro w' ⟨s0, s1, s2, s3, s4, s5, s6, s7, s8, s9⟩
                                      go_simp
                                      with_reducible rfl
                                    rotate_left
                                    · simp only [Act.put, List.setIfInBounds_toArray, List.set_cons_zero, List.set_cons_succ, i64_w, i32_w]
                                      rfl
                                    refine one_ (i := 3) (N := some 98) #[true, true, true, true, false, false, true, true, true, true, true, false, false, false] rfl rfl (one_of HT_.out (by kernel_rfl)) (by decide) (fun K hK => ?_)
                                    refine goes_ Try.func84 (by kernel_rfl) rfl #[.int .i64 a0_2] (by rfl) rfl rfl (by (try simp only [List.map_toArray, List.map_cons, List.map_nil]); first | done | rfl | (simp only [List.length_drop, List.length_take]; rfl)) ?_
                                    with_reducible refine (impl_logicName.calls a0_2 t229 _ A63.out).mono ?_
                                    rintro e w' ⟨rfl, ⟨nd, rfl⟩⟩
                                    refine ⟨_, rfl, ?_⟩
                                    refine hK.out _ _ ⟨(blk_cell BK212.out 0).trans rfl, (blk_cell BK212.out 1).trans rfl, (blk_cell BK212.out 2).trans rfl, (blk_cell BK212.out 3).trans rfl, (blk_cell BK212.out 4).trans rfl, ((HB.out.cell (World.block_lt_of_cell? w _ hw230_0)).trans hw230_0), ((HB.out.cell (World.block_lt_of_cell? w _ hw230_1)).trans hw230_1), ((HB.out.cell (World.block_lt_of_cell? w _ hw230_2)).trans hw230_2), ((HB.out.cell (World.block_lt_of_cell? w _ hw230_3)).trans hw230_3), ((HB.out.cell (World.block_lt_of_cell? w _ hw230_4)).trans hw230_4)⟩ (fun hHeld => ?_)
                                    clear hK K
                                    refine norm_ (a' := ?_) ?_ ?_
                                    rotate_left
                                    · show Act.put _ (some 98) _ = _
                                      simp only [Act.put, List.setIfInBounds_toArray, List.set_cons_zero, List.set_cons_succ, i64_w, i32_w]
                                      rfl
                                    refine pure_ (i := 4) (N := some 99) (v := ?_) (a' := ?_) #[true, true, true, true, true, false, true, true, true, true, true, false, false, false] rfl rfl (any_of HT_.out (by kernel_rfl)) (fun _ _ _ h => h) (Or.inl ⟨by rfl, ?_⟩) ?_ ?_
                                    rotate_left
                                    · intro w'
                                      go_simp
                                      with_reducible rfl
                                    rotate_left
                                    · simp only [Act.put, List.setIfInBounds_toArray, List.set_cons_zero, List.set_cons_succ, i64_w, i32_w]
                                      rfl
                                    refine pure_ (i := 5) (N := some 100) (v := ?_) (a' := ?_) #[true, true, true, true, true, true, true, true, true, true, true, false, false, false] rfl rfl (any_of HT_.out (by kernel_rfl)) (fun _ _ _ h => h) (Or.inl ⟨by rfl, ?_⟩) ?_ ?_
                                    rotate_left
                                    · intro w'
                                      go_simp
                                      with_reducible rfl
                                    rotate_left
                                    · simp only [Act.put, List.setIfInBounds_toArray, List.set_cons_zero, List.set_cons_succ, i64_w, i32_w]
                                      rfl
                                    refine one_ (i := 11) (N := some 106) #[true, true, true, true, true, true, true, true, true, true, true, true, false, false] rfl rfl (one_of HT_.out (by kernel_rfl)) (by decide) (fun K hK => ?_)
                                    refine goes_ Try.func47 (by kernel_rfl) rfl #[.agg #[.int .i64 ((rd_T32 l0_4 0).f0), .int .i64 ((rd_T32 l0_4 0).f1), .int .i64 ((rd_T32 l0_4 0).f2), .int .i64 ((rd_T32 l0_4 0).f3), .slice A230_4 ((rd_T32 l0_4 0).f4).length c230_4], .slice A1 l1.length c1] (by rfl) rfl rfl (by (try simp only [List.map_toArray, List.map_cons, List.map_nil]); first | done | rfl | (simp only [List.length_drop, List.length_take]; rfl)) ?_
                                    with_reducible refine (ih kj59 (by have := HJ3.out; have := HJ20.out; have := HJ59.out; omega) ((rd_T32 l0_4 0).f0) ((rd_T32 l0_4 0).f1) ((rd_T32 l0_4 0).f2) ((rd_T32 l0_4 0).f3) _ _ ((rd_T32 l0_4 0).f4) _ _ l1 t231 _ ?side1 ?side2 ?side3 ?side4 A67.out).mono ?_
                                    (case side1 => repeat (first | exact (Kd.C_below HR230_4.out (by repeat (first | (with_reducible first | exact HB.out | apply below_alloc | apply pw_below_drewN | apply below_drew1 | refine below_set ?_ GE212.out) | exact HB.out))) | (with_reducible refine Kd.C_alloc ?_ _) | (with_reducible refine Kd.C_drewN ?_ _) | (with_reducible refine Kd.C_drew ?_)))
                                    (case side2 => exact HC230_4.out)
                                    (case side3 => repeat (first | exact (Kd.C_below HR1.out (by repeat (first | (with_reducible first | exact HB.out | apply below_alloc | apply pw_below_drewN | apply below_drew1 | refine below_set ?_ GE212.out) | exact HB.out))) | (with_reducible refine Kd.C_alloc ?_ _) | (with_reducible refine Kd.C_drewN ?_ _) | (with_reducible refine Kd.C_drew ?_)))
                                    (case side4 => exact HC1.out)
                                    rintro e w70 ⟨rfl, hb⟩
                                    refine ⟨_, rfl, ?_⟩
                                    have n0_ := Aside0.mk (blk_below (g := gb212) (o := .cells #[.int .i64 a0_0, .int .i64 a0_1, .int .i64 a0_2, .int .i64 a0_3, .slice (some ad230) l0_4.length c0_4] 32 (0, 0)) (by (with_reducible repeat (first | refine blk_drewN ?_ _ | refine blk_drew ?_ | refine blk_alloc ?_ _)); exact BK212.out) hb)
                                    have n1_ := Aside0.mk (below_step (by repeat (first | (with_reducible first | exact HB.out | apply below_alloc | apply pw_below_drewN | apply below_drew1 | refine below_set ?_ GE212.out) | exact HB.out)) hb)
                                    clear BK212
                                    clear HB
                                    have BK212 := n0_
                                    have HB := n1_
                                    clear n0_ n1_
                                    (try clear hb)
                                    (try clear hb2)
                                    (try clear hk)
                                    (try clear hi)
                                    refine hK.out _ _ ⟨(blk_cell BK212.out 0).trans rfl, (blk_cell BK212.out 1).trans rfl, (blk_cell BK212.out 2).trans rfl, (blk_cell BK212.out 3).trans rfl, (blk_cell BK212.out 4).trans rfl, ((HB.out.cell (World.block_lt_of_cell? w _ hw230_0)).trans hw230_0), ((HB.out.cell (World.block_lt_of_cell? w _ hw230_1)).trans hw230_1), ((HB.out.cell (World.block_lt_of_cell? w _ hw230_2)).trans hw230_2), ((HB.out.cell (World.block_lt_of_cell? w _ hw230_3)).trans hw230_3), ((HB.out.cell (World.block_lt_of_cell? w _ hw230_4)).trans hw230_4)⟩ (fun hHeld => ?_)
                                    clear hK K
                                    refine norm_ (a' := ?_) ?_ ?_
                                    rotate_left
                                    · show Act.put _ (some 106) _ = _
                                      simp only [Act.put, List.setIfInBounds_toArray, List.set_cons_zero, List.set_cons_succ, i64_w, i32_w]
                                      rfl
                                    refine pure_ (i := 12) (N := some 107) (v := ?_) (a' := ?_) #[true, true, true, true, true, true, true, true, true, true, true, true, true, false] rfl rfl (any_of HT_.out (by kernel_rfl)) (fun _ _ _ h => h) (Or.inl ⟨by rfl, ?_⟩) ?_ ?_
                                    rotate_left
                                    · intro w'
                                      go_simp
                                      with_reducible rfl
                                    rotate_left
                                    · simp only [Act.put, List.setIfInBounds_toArray, List.set_cons_zero, List.set_cons_succ, i64_w, i32_w]
                                      rfl
                                    refine pure_ (i := 13) (N := some 4) (v := ?_) (a' := ?_) #[true, true, true, true, true, true, true, true, true, true, true, true, true, true] rfl rfl (any_of HT_.out (by kernel_rfl)) (fun _ _ _ h => h) (Or.inl ⟨by rfl, ?_⟩) ?_ ?_
                                    rotate_left
                                    · intro w'
                                      go_simp
                                      with_reducible rfl
                                    rotate_left
                                    · simp only [Act.put, List.setIfInBounds_toArray, List.set_cons_zero, List.set_cons_succ, i64_w, i32_w]
                                      rfl
                                    refine done_ (done_of HT_.out (by kernel_rfl)) ?_
                                    try go_wp2
                                    go_ret
                                    exact ⟨by first | rfl | (simp [errW_none, errW_some] <;> rfl) | (simp [*, errW_none, errW_some] <;> rfl), by repeat (first | (with_reducible first | exact HB.out | apply below_alloc | apply pw_below_drewN | apply below_drew1 | refine below_set ?_ GE212.out) | exact HB.out)⟩
                                  · rw [if_neg c68] at H
                                    exact absurd H (by simp)
                                · rw [if_neg c66] at H
                                  exact absurd H (by simp)
                              · rw [if_neg c65] at H
                                exact absurd H (by simp)
                            · rw [if_neg c64] at H
                              exact absurd H (by simp)
                          · replace c62 := Bool.eq_false_iff.mpr c62
                            subst c62
                            have H1 : (some t213) = some r := by rw [if_neg (show ¬ (false = true) by decide)] at H; exact H
                            clear H
                            have H := H1
                            clear H1
                            obtain rfl := Option.some.inj H
                            go_wp2
                            go_ret
                            exact ⟨by first | rfl | (simp [errW_none, errW_some] <;> rfl) | (simp [*, errW_none, errW_some] <;> rfl), by repeat (first | (with_reducible first | exact HB.out | apply below_alloc | apply pw_below_drewN | apply below_drew1 | refine below_set ?_ GE212.out) | exact HB.out)⟩

end Go.Proofs.Ytoljagpjejpmpaa.PFnExactFormulaText
