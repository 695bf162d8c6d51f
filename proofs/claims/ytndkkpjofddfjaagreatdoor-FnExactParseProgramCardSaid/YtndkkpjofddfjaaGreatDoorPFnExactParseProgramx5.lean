-- Laid by wip/tools/xprint.py (a program of this session over the kit's print). Not trusted: Lean checks it.
import Derived.Test.YtndkkpjofddfjaaGreatDoorXAuto
import Derived.Test.YtndkkpjofddfjaaGreatDoorPFnExactParseProgramx0
import Derived.Test.YtndkkpjofddfjaaGreatDoorPFnExactParseProgramx3
import Derived.Test.YtndkkpjofddfjaaGreatDoorPFnExactParseProgramx4
namespace Go.Proofs.YtndkkpjofddfjaaGreatDoor.PFnExactParseProgram
open Go.RowKit Go.Proofs.YtndkkpjofddfjaaGreatDoorW.PrintWords Go.Proofs.YtndkkpjofddfjaaGreatDoorW.PrintLast Go.Proofs.YtndkkpjofddfjaaGreatDoorW.PrintMore
attribute [local go_sem] max2_int min2_int max_two min_two max_three min_three max_four min_four
set_option linter.unusedVariables false
set_option linter.unusedSimpArgs false
def spec_ProgramText.l0 : Nat → ByteArray → Int → List ByteArray → Int → List (S52) → Option (ByteArray)
 | 0, _, _, _, _, _ => none
 | k + 1, x3, x4, x161000, x161001, x161002 => if x4 < (x161002.length : Int) then (if 0 ≤ x4 then (if x3.size + 1 ≤ 9223372036854775807 then ((spec_FormatInt.f k ((rd_T52 x161002 x4).f0)).bind fun t166 => (if (x3 ++ (⟨#[59]⟩ : ByteArray)).size + t166.size ≤ 9223372036854775807 then (if ((x3 ++ (⟨#[59]⟩ : ByteArray)) ++ t166).size + 1 ≤ 9223372036854775807 then ((spec_FormatInt.f k ((rd_T52 x161002 x4).f1)).bind fun t167 => (if (((x3 ++ (⟨#[59]⟩ : ByteArray)) ++ t166) ++ (⟨#[32]⟩ : ByteArray)).size + t167.size ≤ 9223372036854775807 then (if ((((x3 ++ (⟨#[59]⟩ : ByteArray)) ++ t166) ++ (⟨#[32]⟩ : ByteArray)) ++ t167).size + 1 ≤ 9223372036854775807 then ((spec_StmtText.f k ((rd_T52 x161002 x4).f2.f0) ((rd_T52 x161002 x4).f2.f1) ((rd_T52 x161002 x4).f2.f2)).bind fun t168 => (if (((((x3 ++ (⟨#[59]⟩ : ByteArray)) ++ t166) ++ (⟨#[32]⟩ : ByteArray)) ++ t167) ++ (⟨#[32]⟩ : ByteArray)).size + t168.size ≤ 9223372036854775807 then (spec_ProgramText.l0 k ((((((x3 ++ (⟨#[59]⟩ : ByteArray)) ++ t166) ++ (⟨#[32]⟩ : ByteArray)) ++ t167) ++ (⟨#[32]⟩ : ByteArray)) ++ t168) (wrap64 (x4 + 1)) x161000 x161001 x161002) else (none))) else (none)) else (none))) else (none)) else (none))) else (none)) else (none)) else (some x3)
def spec_ProgramText.f (k : Nat) (l0_0 : List ByteArray) (a0_1 : Int) (l0_2 : List (S52)) : Option (ByteArray) := (spec_IsProgram.f k l0_0 a0_1 l0_2).bind fun t161 => (if t161 = true then ((spec_Join.f k l0_0 (⟨#[32]⟩ : ByteArray)).bind fun t162 => (if t162.size + 1 ≤ 9223372036854775807 then ((spec_FormatInt.f k a0_1).bind fun t163 => (if (t162 ++ (⟨#[59]⟩ : ByteArray)).size + t163.size ≤ 9223372036854775807 then (spec_ProgramText.l0 k ((t162 ++ (⟨#[59]⟩ : ByteArray)) ++ t163) 0 l0_0 a0_1 l0_2) else (none))) else (none))) else (some (⟨#[]⟩ : ByteArray)))
theorem spec_ProgramText.mono_l : ∀ k, (∀ y0 y1 y2 y3 y4, LeO (spec_ProgramText.l0 k y0 y1 y2 y3 y4) (spec_ProgramText.l0 (k + 1) y0 y1 y2 y3 y4))
 | 0 => fun _ _ _ _ _ r h => by simp [spec_ProgramText.l0] at h
 | k + 1 => by
  have ih0 := spec_ProgramText.mono_l k
  ·intro y0 y1 y2 y3 y4; unfold spec_ProgramText.l0; repeat' with_reducible first | exact ih0 _ _ _ _ _ | exact spec_FormatInt.mono _ _ | exact spec_IsProgram.mono _ _ _ _ | exact spec_Join.mono _ _ _ | exact spec_StmtText.mono _ _ _ _ | exact LeO.refl _ | exact LeO.none _ | refine LeO.ite ?_ ?_ | refine LeO.bind ?_ (fun _ => ?_)
theorem spec_ProgramText.mono : ∀ a0 a1 a2 k, LeO (spec_ProgramText.f k a0 a1 a2) (spec_ProgramText.f (k + 1) a0 a1 a2) := by
 intro a0 a1 a2 k
 have ih0 := spec_ProgramText.mono_l k
 unfold spec_ProgramText.f
 repeat' with_reducible first | exact ih0 _ _ _ _ _ | exact spec_FormatInt.mono _ _ | exact spec_IsProgram.mono _ _ _ _ | exact spec_Join.mono _ _ _ | exact spec_StmtText.mono _ _ _ _ | exact LeO.refl _ | exact LeO.none _ | refine LeO.ite ?_ ?_ | refine LeO.bind ?_ (fun _ => ?_)
def spec_ProgramText.T3 : Bool × List (List Nat × List Nat) := (true, [([], []), ([0], [0]), ([1], [1]), ([2], [2]), ([], []), ([4], [4]), ([5, 2], [5]), ([3, 6], [3, 6]), ([7, 6, 0, 1, 2, 3, 4, 5, 6, 7], [7])])
def spec_ProgramText.B3 : List Nat := [0, 1, 3, 7, 0, 16, 55, 127, 255]
theorem spec_ProgramText.tab3 : rtab .any (opsOf Tryz.f7 3) = spec_ProgramText.T3 := by kernel_rfl
theorem spec_ProgramText.bits3 : waitsOk spec_ProgramText.T3.2 spec_ProgramText.B3 = true := by kernel_rfl
def spec_ProgramText.T8 : Bool × List (List Nat × List Nat) := (true, [([], []), ([0], [0]), ([], []), ([2], [2]), ([3], [3]), ([1, 4], [1, 4]), ([5], [5]), ([], []), ([7], [7]), ([8, 4], [8]), ([6, 9], [6, 9]), ([10], [10]), ([], []), ([12], [12]), ([13, 9], [13]), ([11, 14], [11, 14]), ([15, 14, 0, 1, 2, 3, 4, 5, 6, 7, 8, 9, 10, 11, 12, 13, 14, 15], [0, 15])])
def spec_ProgramText.B8 : List Nat := [0, 1, 0, 4, 12, 31, 63, 0, 128, 412, 1023, 2047, 0, 4096, 13212, 32767, 65535]
theorem spec_ProgramText.tab8 : rtab .any (opsOf Tryz.f7 8) = spec_ProgramText.T8 := by kernel_rfl
theorem spec_ProgramText.bits8 : waitsOk spec_ProgramText.T8.2 spec_ProgramText.B8 = true := by kernel_rfl
set_option maxHeartbeats 32000000 in
set_option maxRecDepth 100000 in
theorem spec_ProgramText.calls (k : Nat) (A0_0 : Option Addr) (c0_0 : Nat) (l0_0 : List ByteArray) (a0_1 : Int) (A0_2 : Option Addr) (c0_2 : Nat) (l0_2 : List (S52)) (r : ByteArray) (w : World) (hr0_0 : Kd.C Kd.string w A0_0 l0_0.length l0_0) (hc0_0 : l0_0.length ≤ c0_0) (hr0_2 : Kd.C k52 w A0_2 l0_2.length l0_2) (hc0_2 : l0_2.length ≤ c0_2) (h : spec_ProgramText.f k l0_0 a0_1 l0_2 = some r) :
  Calls Tryz.prog 7 #[.agg #[.slice A0_0 l0_0.length c0_0, .int .i64 a0_1, .slice A0_2 l0_2.length c0_2]] w fun e w' => e = .returned (.string r) ∧ Below w.heap.size w w' := by
 have hu30 := Tryz.underlying30
 have hu52 := Tryz.underlying52
 have hu50 := Tryz.underlying50
 have HR0_0 := Aside0.mk hr0_0
 have HC0_0 := Aside0.mk hc0_0
 clear hr0_0 hc0_0
 have HR0_2 := Aside0.mk hr0_2
 have HC0_2 := Aside0.mk hc0_2
 clear hr0_2 hc0_2
 have HB := Aside0.mk (Below.refl w.heap.size w)
 have H : ((spec_IsProgram.f k l0_0 a0_1 l0_2).bind fun t161 => (if t161 = true then ((spec_Join.f k l0_0 (⟨#[32]⟩ : ByteArray)).bind fun t162 => (if t162.size + 1 ≤ 9223372036854775807 then ((spec_FormatInt.f k a0_1).bind fun t163 => (if (t162 ++ (⟨#[59]⟩ : ByteArray)).size + t163.size ≤ 9223372036854775807 then (spec_ProgramText.l0 k ((t162 ++ (⟨#[59]⟩ : ByteArray)) ++ t163) 0 l0_0 a0_1 l0_2) else (none))) else (none))) else (some (⟨#[]⟩ : ByteArray)))) = some r := h
 clear h
 replace H := Option.bind_eq_some_iff.mp H
 obtain ⟨t161, A20, H⟩ := H
 replace H : (if t161 = true then ((spec_Join.f k l0_0 (⟨#[32]⟩ : ByteArray)).bind fun t162 => (if t162.size + 1 ≤ 9223372036854775807 then ((spec_FormatInt.f k a0_1).bind fun t163 => (if (t162 ++ (⟨#[59]⟩ : ByteArray)).size + t163.size ≤ 9223372036854775807 then (spec_ProgramText.l0 k ((t162 ++ (⟨#[59]⟩ : ByteArray)) ++ t163) 0 l0_0 a0_1 l0_2) else (none))) else (none))) else (some (⟨#[]⟩ : ByteArray))) = some r := H
 have A2 := Aside0.mk A20
 clear A20
 by_cases c3 : t161 = true
 ·subst c3
  have H1 : ((spec_Join.f k l0_0 (⟨#[32]⟩ : ByteArray)).bind fun t162 => (if t162.size + 1 ≤ 9223372036854775807 then ((spec_FormatInt.f k a0_1).bind fun t163 => (if (t162 ++ (⟨#[59]⟩ : ByteArray)).size + t163.size ≤ 9223372036854775807 then (spec_ProgramText.l0 k ((t162 ++ (⟨#[59]⟩ : ByteArray)) ++ t163) 0 l0_0 a0_1 l0_2) else (none))) else (none))) = some r := by rw [if_pos rfl] at H; exact H
  clear H; have H := H1; clear H1; replace H := Option.bind_eq_some_iff.mp H; obtain ⟨t162, A40, H⟩ := H; replace H : (if t162.size + 1 ≤ 9223372036854775807 then ((spec_FormatInt.f k a0_1).bind fun t163 => (if (t162 ++ (⟨#[59]⟩ : ByteArray)).size + t163.size ≤ 9223372036854775807 then (spec_ProgramText.l0 k ((t162 ++ (⟨#[59]⟩ : ByteArray)) ++ t163) 0 l0_0 a0_1 l0_2) else (none))) else (none)) = some r := H; have A4 := Aside0.mk A40; clear A40; by_cases c5 : t162.size + 1 ≤ 9223372036854775807
  ·rw [if_pos c5] at H; have c5b0 := eq_true c5; have c5b1 : decide (t162.size + 1 ≤ 9223372036854775807) = true := decide_eq_true c5; try have c5b2 : (9223372036854775807 < t162.size + 1) = False := eq_false (Nat.not_lt.2 c5)
   replace H := Option.bind_eq_some_iff.mp H; obtain ⟨t163, A60, H⟩ := H; replace H : (if (t162 ++ (⟨#[59]⟩ : ByteArray)).size + t163.size ≤ 9223372036854775807 then (spec_ProgramText.l0 k ((t162 ++ (⟨#[59]⟩ : ByteArray)) ++ t163) 0 l0_0 a0_1 l0_2) else (none)) = some r := H; have A6 := Aside0.mk A60; clear A60; by_cases c7 : (t162 ++ (⟨#[59]⟩ : ByteArray)).size + t163.size ≤ 9223372036854775807
   ·rw [if_pos c7] at H; have c7b0 := eq_true c7; have c7b1 : decide ((t162 ++ (⟨#[59]⟩ : ByteArray)).size + t163.size ≤ 9223372036854775807) = true := decide_eq_true c7; try have c7b2 : (9223372036854775807 < (t162 ++ (⟨#[59]⟩ : ByteArray)).size + t163.size) = False := eq_false (Nat.not_lt.2 c7)
    try have c7b3 : (9223372036854775807 < t162.size + 1 + t163.size) = False := eq_false (Nat.not_lt.2 (by have h_ := c7; simp only [ByteArray.size_append] at h_; exact h_))
    have H' := Aside0.mk H; clear H; go_enter Tryz.func7, Tryz.ntmps7; try go_wp2_with (first | ((with_reducible refine gate_dst (N := 1) rfl ?_); refine Bx (N := 1) (cs := #[.slice A0_0 l0_0.length c0_0, .int .i64 a0_1, .slice A0_2 l0_2.length c0_2]) (t := 30) (h := ?_); intro gb160 hg w8 hbox hb; have BK160 := Aside0.mk (hbox); have GW160 := Gs (w := w) hg (Bb0 HB.out); have GE160 := Gs (w := w) hg (Bb0 HB.out); replace HB := Sb (Bb0 HB.out) hb; clear hb hbox hg; obtain ⟨q9_0, q9_1, q9_2, u9_0, u9_1, u9_2⟩ := Cf3 BK160) | ((with_reducible refine gate_callee (f := 18) rfl ?_); refine goesL_ (some 7) rfl rfl Tryz.func18 (by kernel_rfl) rfl #[.agg #[.slice A0_0 l0_0.length c0_0, .int .i64 a0_1, .slice A0_2 l0_2.length c0_2]] rfl Zm ?_; (with_reducible refine (spec_IsProgram.calls k _ _ l0_0 a0_1 _ _ l0_2 true _ ?side1 ?side2 ?side3 ?side4 A2.out).mono ?_); (case side1 => exact Bc (Kd.C_below HR0_0.out HB.out)); (case side2 => exact HC0_0.out); (case side3 => exact Bc (Kd.C_below HR0_2.out HB.out)); (case side4 => exact HC0_2.out); rintro e w10 ⟨rfl, hb⟩; refine ⟨_, rfl, ?_⟩; replace BK160 := Kb BK160 hb; replace HB := Sb (Bb1 HB.out GE160.out) hb; (try clear hb); (try clear hb2); (try clear hk); (try clear hi)))
    replace BK160 := Aside0.mk (blk_drew BK160.out); replace HB := Aside0.mk (below_drew1 HB.out); refine start_ (n := 9) (S := fun w' => w'.cell? ⟨gb160, 0, none⟩ = some (.slice A0_0 l0_0.length c0_0) ∧ w'.cell? ⟨gb160, 1, none⟩ = some (.int .i64 a0_1) ∧ w'.cell? ⟨gb160, 2, none⟩ = some (.slice A0_2 l0_2.length c0_2)) (ds := []) #[false, false, false, false, false, false, false, false, false] (by kernel_rfl) rfl rfl ⟨(blk_cell BK160.out 0).trans rfl, (blk_cell BK160.out 1).trans rfl, (blk_cell BK160.out 2).trans rfl⟩ (fun hHeld => ?_); refine with_tabW spec_ProgramText.tab3 spec_ProgramText.bits3 (fun HT_ HW_ => ?_); generalize w10.drew = w11 at BK160 HB hHeld ⊢; refine Pt 0 9 HT_ (h := ?_); refine Pt 4 13 HT_ (h := ?_); refine take_ (i := 1) (N := some 10) (v := ?_) (a' := ?_) #[true, true, false, false, true, false, false, false, false] rfl rfl (take_ofW HT_.out HW_.out (by kernel_rfl)) (fun _ _ _ h => h) (Or.inl ⟨by rfl, ?_⟩) hHeld ?_ ?_; rotate_left
    ·rintro w' ⟨s0, s1, s2⟩; go_simp; with_reducible rfl
    rotate_left
    ·simp only [Act.put, List.setIfInBounds_toArray, List.set_cons_zero, List.set_cons_succ, i64_w, i32_w]; rfl
    refine take_ (i := 5) (N := some 14) (v := ?_) (a' := ?_) #[true, true, false, false, true, true, false, false, false] rfl rfl (take_ofW HT_.out HW_.out (by kernel_rfl)) (fun _ _ _ h => h) (Or.inl ⟨by rfl, ?_⟩) hHeld ?_ ?_; rotate_left
    ·rintro w' ⟨s0, s1, s2⟩; go_simp; with_reducible rfl
    rotate_left
    ·simp only [Act.put, List.setIfInBounds_toArray, List.set_cons_zero, List.set_cons_succ, i64_w, i32_w]; rfl
    refine one_ (i := 2) (N := some 11) #[true, true, true, false, true, true, false, false, false] rfl rfl (one_of HT_.out (by kernel_rfl)) (by decide) (fun K hK => ?_); refine goes_ Tryz.func29 (by kernel_rfl) rfl #[.slice A0_0 l0_0.length c0_0, .string (⟨#[32]⟩ : ByteArray)] (by rfl) rfl rfl Zm ?_; with_reducible refine (spec_Join.calls k _ _ l0_0 (⟨#[32]⟩ : ByteArray) t162 _ ?side1 ?side2 A4.out).mono ?_
    (case side1 => exact Bc (Kd.C_below HR0_0.out HB.out))
    (case side2 => exact HC0_0.out)
    rintro e w12 ⟨rfl, hb⟩; refine ⟨_, rfl, ?_⟩; replace BK160 := Kb BK160 hb; replace HB := Sb (Bb1 HB.out GE160.out) hb; (try clear hb)
    (try clear hb2)
    (try clear hk)
    (try clear hi)
    refine hK.out _ _ ⟨(blk_cell BK160.out 0).trans rfl, (blk_cell BK160.out 1).trans rfl, (blk_cell BK160.out 2).trans rfl⟩ (fun hHeld => ?_); clear hK K; refine Nn 11 (h := ?_); refine Pt 3 12 HT_ (h := ?_); refine one_ (i := 6) (N := some 15) #[true, true, true, true, true, true, true, false, false] rfl rfl (one_of HT_.out (by kernel_rfl)) (by decide) (fun K hK => ?_); refine goes_ Tryz.func30 (by kernel_rfl) rfl #[.int .i64 a0_1] (by rfl) rfl rfl Zm ?_; with_reducible refine (spec_FormatInt.calls k a0_1 t163 _ A6.out).mono ?_
    rintro e w13 ⟨rfl, hb⟩; refine ⟨_, rfl, ?_⟩; replace BK160 := Kb BK160 hb; replace HB := Sb (Bb1 HB.out GE160.out) hb; (try clear hb)
    (try clear hb2)
    (try clear hk)
    (try clear hi)
    refine hK.out _ _ ⟨(blk_cell BK160.out 0).trans rfl, (blk_cell BK160.out 1).trans rfl, (blk_cell BK160.out 2).trans rfl⟩ (fun hHeld => ?_); clear hK K; refine Nn 15 (h := ?_); refine Pt 7 16 HT_ (h := ?_); refine Pt 8 3 HT_ (h := ?_); refine done_ (done_of HT_.out (by kernel_rfl)) ?_; try go_wp2
    go_loopg [3, 4] k (fun kq v3 v4 w' => ∃ (x3_1 : ByteArray) (x4_1 : Int), v3 = .string x3_1 ∧ v4 = .int .i64 x4_1 ∧ Aside0 (spec_ProgramText.l0 kq x3_1 x4_1 l0_0 a0_1 l0_2 = some r) ∧ Aside0 (kq ≤ k) ∧ Aside0 (w'.heap[gb160]? = some (.cells #[(.slice A0_0 l0_0.length c0_0), .int .i64 a0_1, (.slice A0_2 l0_2.length c0_2)] 30 (0, 0))) ∧ Aside0 (Below w.heap.size w w'))
    case atStart => exact ⟨((t162 ++ (⟨#[59]⟩ : ByteArray)) ++ t163), (0), Zf, Zf, H', ⟨Nat.le_refl _⟩, ⟨Ba BK160.out⟩, ⟨Bb1 HB.out GE160.out⟩⟩
    case round =>
     clear H'; try clear c1
     try clear c2
     try clear p2
     try clear c3
     try clear c5
     try clear c5b0
     try clear c5b1
     try clear c5b2
     try clear c7
     try clear c7b0
     try clear c7b1
     try clear c7b2
     try clear q9_0
     try clear q9_1
     try clear q9_2
     try clear u9_0
     try clear u9_1
     try clear u9_2
     obtain ⟨x3_1, x4_1, rfl, rfl, HA, HK1, BK160, HB⟩ := hrel; cases gk with
     | zero => exact absurd HA.out (by simp [spec_ProgramText.l0])
     | succ k1 =>
      have H := HA.out; clear HA; simp only [spec_ProgramText.l0] at H; by_cases c14 : x4_1 < (l0_2.length : Int)
      ·rw [if_pos c14] at H; have c14b0 : decide (x4_1 < (l0_2.length : Int)) = true := decide_eq_true c14; clear c14; by_cases c15 : 0 ≤ x4_1
       ·rw [if_pos c15] at H; have c15b0 : decide (0 ≤ x4_1) = true := decide_eq_true c15; clear c15; by_cases c16 : x3_1.size + 1 ≤ 9223372036854775807
        ·rw [if_pos c16] at H; have c16b0 := eq_true c16; have c16b1 : decide (x3_1.size + 1 ≤ 9223372036854775807) = true := decide_eq_true c16; try have c16b2 : (9223372036854775807 < x3_1.size + 1) = False := eq_false (Nat.not_lt.2 c16)
         replace H := Option.bind_eq_some_iff.mp H; obtain ⟨t166, A170, H⟩ := H; replace H : (if (x3_1 ++ (⟨#[59]⟩ : ByteArray)).size + t166.size ≤ 9223372036854775807 then (if ((x3_1 ++ (⟨#[59]⟩ : ByteArray)) ++ t166).size + 1 ≤ 9223372036854775807 then ((spec_FormatInt.f k1 ((rd_T52 l0_2 x4_1).f1)).bind fun t167 => (if (((x3_1 ++ (⟨#[59]⟩ : ByteArray)) ++ t166) ++ (⟨#[32]⟩ : ByteArray)).size + t167.size ≤ 9223372036854775807 then (if ((((x3_1 ++ (⟨#[59]⟩ : ByteArray)) ++ t166) ++ (⟨#[32]⟩ : ByteArray)) ++ t167).size + 1 ≤ 9223372036854775807 then ((spec_StmtText.f k1 ((rd_T52 l0_2 x4_1).f2.f0) ((rd_T52 l0_2 x4_1).f2.f1) ((rd_T52 l0_2 x4_1).f2.f2)).bind fun t168 => (if (((((x3_1 ++ (⟨#[59]⟩ : ByteArray)) ++ t166) ++ (⟨#[32]⟩ : ByteArray)) ++ t167) ++ (⟨#[32]⟩ : ByteArray)).size + t168.size ≤ 9223372036854775807 then (spec_ProgramText.l0 k1 ((((((x3_1 ++ (⟨#[59]⟩ : ByteArray)) ++ t166) ++ (⟨#[32]⟩ : ByteArray)) ++ t167) ++ (⟨#[32]⟩ : ByteArray)) ++ t168) (wrap64 (x4_1 + 1)) l0_0 a0_1 l0_2) else (none))) else (none)) else (none))) else (none)) else (none)) = some r := H; have A17 := Aside0.mk A170; clear A170; by_cases c18 : (x3_1 ++ (⟨#[59]⟩ : ByteArray)).size + t166.size ≤ 9223372036854775807
         ·rw [if_pos c18] at H; have c18b0 := eq_true c18; have c18b1 : decide ((x3_1 ++ (⟨#[59]⟩ : ByteArray)).size + t166.size ≤ 9223372036854775807) = true := decide_eq_true c18; try have c18b2 : (9223372036854775807 < (x3_1 ++ (⟨#[59]⟩ : ByteArray)).size + t166.size) = False := eq_false (Nat.not_lt.2 c18)
          try have c18b3 : (9223372036854775807 < x3_1.size + 1 + t166.size) = False := eq_false (Nat.not_lt.2 (by have h_ := c18; simp only [ByteArray.size_append] at h_; exact h_))
          by_cases c19 : ((x3_1 ++ (⟨#[59]⟩ : ByteArray)) ++ t166).size + 1 ≤ 9223372036854775807
          ·rw [if_pos c19] at H; have c19b0 := eq_true c19; have c19b1 : decide (((x3_1 ++ (⟨#[59]⟩ : ByteArray)) ++ t166).size + 1 ≤ 9223372036854775807) = true := decide_eq_true c19; try have c19b2 : (9223372036854775807 < ((x3_1 ++ (⟨#[59]⟩ : ByteArray)) ++ t166).size + 1) = False := eq_false (Nat.not_lt.2 c19)
           try have c19b3 : (9223372036854775807 < x3_1.size + 1 + t166.size + 1) = False := eq_false (Nat.not_lt.2 (by have h_ := c19; simp only [ByteArray.size_append] at h_; exact h_))
           replace H := Option.bind_eq_some_iff.mp H; obtain ⟨t167, A200, H⟩ := H; replace H : (if (((x3_1 ++ (⟨#[59]⟩ : ByteArray)) ++ t166) ++ (⟨#[32]⟩ : ByteArray)).size + t167.size ≤ 9223372036854775807 then (if ((((x3_1 ++ (⟨#[59]⟩ : ByteArray)) ++ t166) ++ (⟨#[32]⟩ : ByteArray)) ++ t167).size + 1 ≤ 9223372036854775807 then ((spec_StmtText.f k1 ((rd_T52 l0_2 x4_1).f2.f0) ((rd_T52 l0_2 x4_1).f2.f1) ((rd_T52 l0_2 x4_1).f2.f2)).bind fun t168 => (if (((((x3_1 ++ (⟨#[59]⟩ : ByteArray)) ++ t166) ++ (⟨#[32]⟩ : ByteArray)) ++ t167) ++ (⟨#[32]⟩ : ByteArray)).size + t168.size ≤ 9223372036854775807 then (spec_ProgramText.l0 k1 ((((((x3_1 ++ (⟨#[59]⟩ : ByteArray)) ++ t166) ++ (⟨#[32]⟩ : ByteArray)) ++ t167) ++ (⟨#[32]⟩ : ByteArray)) ++ t168) (wrap64 (x4_1 + 1)) l0_0 a0_1 l0_2) else (none))) else (none)) else (none)) = some r := H; have A20 := Aside0.mk A200; clear A200; by_cases c21 : (((x3_1 ++ (⟨#[59]⟩ : ByteArray)) ++ t166) ++ (⟨#[32]⟩ : ByteArray)).size + t167.size ≤ 9223372036854775807
           ·rw [if_pos c21] at H; have c21b0 := eq_true c21; have c21b1 : decide ((((x3_1 ++ (⟨#[59]⟩ : ByteArray)) ++ t166) ++ (⟨#[32]⟩ : ByteArray)).size + t167.size ≤ 9223372036854775807) = true := decide_eq_true c21; try have c21b2 : (9223372036854775807 < (((x3_1 ++ (⟨#[59]⟩ : ByteArray)) ++ t166) ++ (⟨#[32]⟩ : ByteArray)).size + t167.size) = False := eq_false (Nat.not_lt.2 c21)
            try have c21b3 : (9223372036854775807 < x3_1.size + 1 + t166.size + 1 + t167.size) = False := eq_false (Nat.not_lt.2 (by have h_ := c21; simp only [ByteArray.size_append] at h_; exact h_))
            by_cases c22 : ((((x3_1 ++ (⟨#[59]⟩ : ByteArray)) ++ t166) ++ (⟨#[32]⟩ : ByteArray)) ++ t167).size + 1 ≤ 9223372036854775807
            ·rw [if_pos c22] at H; have c22b0 := eq_true c22; have c22b1 : decide (((((x3_1 ++ (⟨#[59]⟩ : ByteArray)) ++ t166) ++ (⟨#[32]⟩ : ByteArray)) ++ t167).size + 1 ≤ 9223372036854775807) = true := decide_eq_true c22; try have c22b2 : (9223372036854775807 < ((((x3_1 ++ (⟨#[59]⟩ : ByteArray)) ++ t166) ++ (⟨#[32]⟩ : ByteArray)) ++ t167).size + 1) = False := eq_false (Nat.not_lt.2 c22)
             try have c22b3 : (9223372036854775807 < x3_1.size + 1 + t166.size + 1 + t167.size + 1) = False := eq_false (Nat.not_lt.2 (by have h_ := c22; simp only [ByteArray.size_append] at h_; exact h_))
             replace H := Option.bind_eq_some_iff.mp H; obtain ⟨t168, A230, H⟩ := H; replace H : (if (((((x3_1 ++ (⟨#[59]⟩ : ByteArray)) ++ t166) ++ (⟨#[32]⟩ : ByteArray)) ++ t167) ++ (⟨#[32]⟩ : ByteArray)).size + t168.size ≤ 9223372036854775807 then (spec_ProgramText.l0 k1 ((((((x3_1 ++ (⟨#[59]⟩ : ByteArray)) ++ t166) ++ (⟨#[32]⟩ : ByteArray)) ++ t167) ++ (⟨#[32]⟩ : ByteArray)) ++ t168) (wrap64 (x4_1 + 1)) l0_0 a0_1 l0_2) else (none)) = some r := H; have A23 := Aside0.mk A230; clear A230; by_cases c24 : (((((x3_1 ++ (⟨#[59]⟩ : ByteArray)) ++ t166) ++ (⟨#[32]⟩ : ByteArray)) ++ t167) ++ (⟨#[32]⟩ : ByteArray)).size + t168.size ≤ 9223372036854775807
             ·rw [if_pos c24] at H; have c24b0 := eq_true c24; have c24b1 : decide ((((((x3_1 ++ (⟨#[59]⟩ : ByteArray)) ++ t166) ++ (⟨#[32]⟩ : ByteArray)) ++ t167) ++ (⟨#[32]⟩ : ByteArray)).size + t168.size ≤ 9223372036854775807) = true := decide_eq_true c24; try have c24b2 : (9223372036854775807 < (((((x3_1 ++ (⟨#[59]⟩ : ByteArray)) ++ t166) ++ (⟨#[32]⟩ : ByteArray)) ++ t167) ++ (⟨#[32]⟩ : ByteArray)).size + t168.size) = False := eq_false (Nat.not_lt.2 c24)
              try have c24b3 : (9223372036854775807 < x3_1.size + 1 + t166.size + 1 + t167.size + 1 + t168.size) = False := eq_false (Nat.not_lt.2 (by have h_ := c24; simp only [ByteArray.size_append] at h_; exact h_))
              have H' := Aside0.mk H; clear H; obtain ⟨q25_0, q25_1, q25_2, u25_0, u25_1, u25_2⟩ := Cf3 BK160; have p164 : 0 ≤ (x4_1 : Int) := Da; have q164 : x4_1 < (l0_2.length : Int) := Da; obtain ⟨ad164, e164, hx164_0, hx164_1, hx164_2, hx164_3, hx164_4⟩ := at_T52 HR0_2.out x4_1 p164 q164; cases e164
              replace hx164_0 := Cx HB hx164_0; replace hx164_1 := Cx HB hx164_1; replace hx164_2 := Cx HB hx164_2; replace hx164_3 := Cx HB hx164_3; replace hx164_4 := Cx HB hx164_4; replace p164 := eq_true p164; replace q164 := eq_true q164; try go_wp2_with (first | ((with_reducible refine gate_dst (N := 5) rfl ?_); refine Bx (N := 5) (cs := #[.int .i64 0, .int .i64 0, .int .i64 0, .string (⟨#[]⟩ : ByteArray), .string (⟨#[]⟩ : ByteArray)]) (t := 52) (h := ?_); intro gb165 hg w26 hbox hb; have BK165 := Aside0.mk (hbox); have GW165 := Gs (w := w) hg (Bb1 HB.out GE160.out); have GE165 := Gs (w := w) hg (Bb1 HB.out GE160.out); replace HB := Sb (Bb1 HB.out GE160.out) hb; have NB160_165 := Nl hg BK160; have NB165_160 := Ng hg BK160; replace BK160 := Kb BK160 hb; clear hb hbox hg; have hnb27 := NB165_160.out; have hnc27 := NB160_165.out; obtain ⟨q28_0, q28_1, q28_2, q28_3, q28_4, u28_0, u28_1, u28_2, u28_3, u28_4⟩ := Cf5 BK165))
              have n0_ : Aside0 ((((((w26.setCell ⟨gb165, 0, none⟩ (.int .i64 ((rd_T52 l0_2 x4_1).f0))).setCell ⟨gb165, 1, none⟩ (.int .i64 ((rd_T52 l0_2 x4_1).f1))).setCell ⟨gb165, 2, none⟩ (.int .i64 ((rd_T52 l0_2 x4_1).f2.f0))).setCell ⟨gb165, 3, none⟩ (.string ((rd_T52 l0_2 x4_1).f2.f1))).setCell ⟨gb165, 4, none⟩ (.string ((rd_T52 l0_2 x4_1).f2.f2))).heap[gb160]? = some (.cells #[.slice A0_0 l0_0.length c0_0, .int .i64 a0_1, .slice (some ad164) l0_2.length c0_2] 30 (0, 0))) := ⟨by (iterate 5 ((with_reducible repeat (first | refine blk_drewN ?_ _ | refine blk_drew ?_ | refine blk_alloc ?_ _)); refine blk_far ?_ NB160_165.out _)); (with_reducible repeat (first | refine blk_drewN ?_ _ | refine blk_drew ?_ | refine blk_alloc ?_ _)); exact BK160.out⟩; have n1_ : Aside0 ((((((w26.setCell ⟨gb165, 0, none⟩ (.int .i64 ((rd_T52 l0_2 x4_1).f0))).setCell ⟨gb165, 1, none⟩ (.int .i64 ((rd_T52 l0_2 x4_1).f1))).setCell ⟨gb165, 2, none⟩ (.int .i64 ((rd_T52 l0_2 x4_1).f2.f0))).setCell ⟨gb165, 3, none⟩ (.string ((rd_T52 l0_2 x4_1).f2.f1))).setCell ⟨gb165, 4, none⟩ (.string ((rd_T52 l0_2 x4_1).f2.f2))).heap[gb165]? = some (.cells #[.int .i64 ((rd_T52 l0_2 x4_1).f0), .int .i64 ((rd_T52 l0_2 x4_1).f1), .int .i64 ((rd_T52 l0_2 x4_1).f2.f0), .string ((rd_T52 l0_2 x4_1).f2.f1), .string ((rd_T52 l0_2 x4_1).f2.f2)] 52 (0, 0))) := ⟨by (with_reducible repeat (first | refine blk_drewN ?_ _ | refine blk_drew ?_ | refine blk_alloc ?_ _)); refine blk_put (cs := #[.int .i64 ((rd_T52 l0_2 x4_1).f0), .int .i64 ((rd_T52 l0_2 x4_1).f1), .int .i64 ((rd_T52 l0_2 x4_1).f2.f0), .string ((rd_T52 l0_2 x4_1).f2.f1), .string (⟨#[]⟩ : ByteArray)]) ?_ 4 _ rfl; (with_reducible repeat (first | refine blk_drewN ?_ _ | refine blk_drew ?_ | refine blk_alloc ?_ _)); refine blk_put (cs := #[.int .i64 ((rd_T52 l0_2 x4_1).f0), .int .i64 ((rd_T52 l0_2 x4_1).f1), .int .i64 ((rd_T52 l0_2 x4_1).f2.f0), .string (⟨#[]⟩ : ByteArray), .string (⟨#[]⟩ : ByteArray)]) ?_ 3 _ rfl; (with_reducible repeat (first | refine blk_drewN ?_ _ | refine blk_drew ?_ | refine blk_alloc ?_ _)); refine blk_put (cs := #[.int .i64 ((rd_T52 l0_2 x4_1).f0), .int .i64 ((rd_T52 l0_2 x4_1).f1), .int .i64 0, .string (⟨#[]⟩ : ByteArray), .string (⟨#[]⟩ : ByteArray)]) ?_ 2 _ rfl; (with_reducible repeat (first | refine blk_drewN ?_ _ | refine blk_drew ?_ | refine blk_alloc ?_ _)); refine blk_put (cs := #[.int .i64 ((rd_T52 l0_2 x4_1).f0), .int .i64 0, .int .i64 0, .string (⟨#[]⟩ : ByteArray), .string (⟨#[]⟩ : ByteArray)]) ?_ 1 _ rfl; (with_reducible repeat (first | refine blk_drewN ?_ _ | refine blk_drew ?_ | refine blk_alloc ?_ _)); refine blk_put (cs := #[.int .i64 0, .int .i64 0, .int .i64 0, .string (⟨#[]⟩ : ByteArray), .string (⟨#[]⟩ : ByteArray)]) ?_ 0 _ rfl; (with_reducible repeat (first | refine blk_drewN ?_ _ | refine blk_drew ?_ | refine blk_alloc ?_ _)); exact BK165.out⟩; have n2_ : Aside0 (Below w.heap.size w (((((w26.setCell ⟨gb165, 0, none⟩ (.int .i64 ((rd_T52 l0_2 x4_1).f0))).setCell ⟨gb165, 1, none⟩ (.int .i64 ((rd_T52 l0_2 x4_1).f1))).setCell ⟨gb165, 2, none⟩ (.int .i64 ((rd_T52 l0_2 x4_1).f2.f0))).setCell ⟨gb165, 3, none⟩ (.string ((rd_T52 l0_2 x4_1).f2.f1))).setCell ⟨gb165, 4, none⟩ (.string ((rd_T52 l0_2 x4_1).f2.f2)))) := ⟨Bb2 HB.out GE160.out GE165.out⟩; (try clear BK160)
              (try clear BK165)
              (try clear HB)
              generalize (((((w26.setCell ⟨gb165, 0, none⟩ (.int .i64 ((rd_T52 l0_2 x4_1).f0))).setCell ⟨gb165, 1, none⟩ (.int .i64 ((rd_T52 l0_2 x4_1).f1))).setCell ⟨gb165, 2, none⟩ (.int .i64 ((rd_T52 l0_2 x4_1).f2.f0))).setCell ⟨gb165, 3, none⟩ (.string ((rd_T52 l0_2 x4_1).f2.f1))).setCell ⟨gb165, 4, none⟩ (.string ((rd_T52 l0_2 x4_1).f2.f2))) = w29 at n0_ n1_ n2_ ⊢; have BK160 := n0_; have BK165 := n1_; have HB := n2_; clear n0_ n1_ n2_; replace BK160 := Aside0.mk (blk_drew BK160.out); replace BK165 := Aside0.mk (blk_drew BK165.out); replace HB := Aside0.mk (below_drew1 HB.out); refine start_ (n := 17) (S := fun w' => w'.cell? ⟨gb165, 0, none⟩ = some (.int .i64 ((rd_T52 l0_2 x4_1).f0)) ∧ w'.cell? ⟨gb165, 1, none⟩ = some (.int .i64 ((rd_T52 l0_2 x4_1).f1)) ∧ w'.cell? ⟨gb165, 2, none⟩ = some (.int .i64 ((rd_T52 l0_2 x4_1).f2.f0)) ∧ w'.cell? ⟨gb165, 3, none⟩ = some (.string ((rd_T52 l0_2 x4_1).f2.f1)) ∧ w'.cell? ⟨gb165, 4, none⟩ = some (.string ((rd_T52 l0_2 x4_1).f2.f2))) (ds := []) #[false, false, false, false, false, false, false, false, false, false, false, false, false, false, false, false, false] (by kernel_rfl) rfl rfl ⟨(blk_cell BK165.out 0).trans rfl, (blk_cell BK165.out 1).trans rfl, (blk_cell BK165.out 2).trans rfl, (blk_cell BK165.out 3).trans rfl, (blk_cell BK165.out 4).trans rfl⟩ (fun hHeld => ?_); refine with_tabW spec_ProgramText.tab8 spec_ProgramText.bits8 (fun HT_ HW_ => ?_); generalize w29.drew = w30 at BK160 BK165 HB hHeld ⊢; refine Pt 0 29 HT_ (h := ?_); refine Pt 1 30 HT_ (h := ?_); refine Pt 2 31 HT_ (h := ?_); refine Pt 7 36 HT_ (h := ?_); refine Pt 12 41 HT_ (h := ?_); refine take_ (i := 3) (N := some 32) (v := ?_) (a' := ?_) #[true, true, true, true, false, false, false, true, false, false, false, false, true, false, false, false, false] rfl rfl (take_ofW HT_.out HW_.out (by kernel_rfl)) (fun _ _ _ h => h) (Or.inl ⟨by rfl, ?_⟩) hHeld ?_ ?_; rotate_left
              ·rintro w' ⟨s0, s1, s2, s3, s4⟩; go_simp; with_reducible rfl
              rotate_left
              ·simp only [Act.put, List.setIfInBounds_toArray, List.set_cons_zero, List.set_cons_succ, i64_w, i32_w]; rfl
              refine take_ (i := 8) (N := some 37) (v := ?_) (a' := ?_) #[true, true, true, true, false, false, false, true, true, false, false, false, true, false, false, false, false] rfl rfl (take_ofW HT_.out HW_.out (by kernel_rfl)) (fun _ _ _ h => h) (Or.inl ⟨by rfl, ?_⟩) hHeld ?_ ?_; rotate_left
              ·rintro w' ⟨s0, s1, s2, s3, s4⟩; go_simp; with_reducible rfl
              rotate_left
              ·simp only [Act.put, List.setIfInBounds_toArray, List.set_cons_zero, List.set_cons_succ, i64_w, i32_w]; rfl
              refine take_ (i := 13) (N := some 42) (v := ?_) (a' := ?_) #[true, true, true, true, false, false, false, true, true, false, false, false, true, true, false, false, false] rfl rfl (take_ofW HT_.out HW_.out (by kernel_rfl)) (fun _ _ _ h => h) (Or.inl ⟨by rfl, ?_⟩) hHeld ?_ ?_; rotate_left
              ·rintro w' ⟨s0, s1, s2, s3, s4⟩; go_simp; with_reducible rfl
              rotate_left
              ·simp only [Act.put, List.setIfInBounds_toArray, List.set_cons_zero, List.set_cons_succ, i64_w, i32_w]; rfl
              refine one_ (i := 4) (N := some 33) #[true, true, true, true, true, false, false, true, true, false, false, false, true, true, false, false, false] rfl rfl (one_of HT_.out (by kernel_rfl)) (by decide) (fun K hK => ?_); refine goes_ Tryz.func30 (by kernel_rfl) rfl #[.int .i64 ((rd_T52 l0_2 x4_1).f0)] (by rfl) rfl rfl Zm ?_; with_reducible refine (spec_FormatInt.calls k1 ((rd_T52 l0_2 x4_1).f0) t166 _ A17.out).mono ?_
              rintro e w31 ⟨rfl, hb⟩; refine ⟨_, rfl, ?_⟩; replace BK160 := Kb BK160 hb; replace BK165 := Kb BK165 hb; replace HB := Sb (Bb2 HB.out GE160.out GE165.out) hb; (try clear hb)
              (try clear hb2)
              (try clear hk)
              (try clear hi)
              refine hK.out _ _ ⟨(blk_cell BK165.out 0).trans rfl, (blk_cell BK165.out 1).trans rfl, (blk_cell BK165.out 2).trans rfl, (blk_cell BK165.out 3).trans rfl, (blk_cell BK165.out 4).trans rfl⟩ (fun hHeld => ?_); clear hK K; refine Nn 33 (h := ?_); refine Pt 5 34 HT_ (h := ?_); refine Pt 6 35 HT_ (h := ?_); refine one_ (i := 9) (N := some 38) #[true, true, true, true, true, true, true, true, true, true, false, false, true, true, false, false, false] rfl rfl (one_of HT_.out (by kernel_rfl)) (by decide) (fun K hK => ?_); refine goes_ Tryz.func30 (by kernel_rfl) rfl #[.int .i64 ((rd_T52 l0_2 x4_1).f1)] (by rfl) rfl rfl Zm ?_; with_reducible refine (spec_FormatInt.calls k1 ((rd_T52 l0_2 x4_1).f1) t167 _ A20.out).mono ?_
              rintro e w32 ⟨rfl, hb⟩; refine ⟨_, rfl, ?_⟩; replace BK160 := Kb BK160 hb; replace BK165 := Kb BK165 hb; replace HB := Sb (Bb2 HB.out GE160.out GE165.out) hb; (try clear hb)
              (try clear hb2)
              (try clear hk)
              (try clear hi)
              refine hK.out _ _ ⟨(blk_cell BK165.out 0).trans rfl, (blk_cell BK165.out 1).trans rfl, (blk_cell BK165.out 2).trans rfl, (blk_cell BK165.out 3).trans rfl, (blk_cell BK165.out 4).trans rfl⟩ (fun hHeld => ?_); clear hK K; refine Nn 38 (h := ?_); refine Pt 10 39 HT_ (h := ?_); refine Pt 11 40 HT_ (h := ?_); refine one_ (i := 14) (N := some 43) #[true, true, true, true, true, true, true, true, true, true, true, true, true, true, true, false, false] rfl rfl (one_of HT_.out (by kernel_rfl)) (by decide) (fun K hK => ?_); refine goes_ Tryz.func31 (by kernel_rfl) rfl #[.agg #[.int .i64 ((rd_T52 l0_2 x4_1).f2.f0), .string ((rd_T52 l0_2 x4_1).f2.f1), .string ((rd_T52 l0_2 x4_1).f2.f2)]] (by rfl) rfl rfl Zm ?_; with_reducible refine (spec_StmtText.calls k1 ((rd_T52 l0_2 x4_1).f2.f0) ((rd_T52 l0_2 x4_1).f2.f1) ((rd_T52 l0_2 x4_1).f2.f2) t168 _ A23.out).mono ?_
              rintro e w33 ⟨rfl, hb⟩; refine ⟨_, rfl, ?_⟩; replace BK160 := Kb BK160 hb; replace BK165 := Kb BK165 hb; replace HB := Sb (Bb2 HB.out GE160.out GE165.out) hb; (try clear hb)
              (try clear hb2)
              (try clear hk)
              (try clear hi)
              refine hK.out _ _ ⟨(blk_cell BK165.out 0).trans rfl, (blk_cell BK165.out 1).trans rfl, (blk_cell BK165.out 2).trans rfl, (blk_cell BK165.out 3).trans rfl, (blk_cell BK165.out 4).trans rfl⟩ (fun hHeld => ?_); clear hK K; refine Nn 43 (h := ?_); refine Pt 15 44 HT_ (h := ?_); refine Pt 16 3 HT_ (h := ?_); refine done_ (done_of HT_.out (by kernel_rfl)) ?_; try go_wp2
              go_roundg k1
              case measure => have := HK1.out; omega
              case rel => exact ⟨((((((x3_1 ++ (⟨#[59]⟩ : ByteArray)) ++ t166) ++ (⟨#[32]⟩ : ByteArray)) ++ t167) ++ (⟨#[32]⟩ : ByteArray)) ++ t168), (wrap64 (x4_1 + 1)), Zf, Zf, H', ⟨by have := HK1.out; omega⟩, ⟨Ba BK160.out⟩, ⟨Bb2 HB.out GE160.out GE165.out⟩⟩
             ·rw [if_neg c24] at H; exact absurd H (by simp)
            ·rw [if_neg c22] at H; exact absurd H (by simp)
           ·rw [if_neg c21] at H; exact absurd H (by simp)
          ·rw [if_neg c19] at H; exact absurd H (by simp)
         ·rw [if_neg c18] at H; exact absurd H (by simp)
        ·rw [if_neg c16] at H; exact absurd H (by simp)
       ·rw [if_neg c15] at H; exact absurd H (by simp)
      ·rw [if_neg c14] at H; have c14b0 : decide (x4_1 < (l0_2.length : Int)) = false := decide_eq_false c14; clear c14; obtain rfl := Option.some.inj H; obtain ⟨q34_0, q34_1, q34_2, u34_0, u34_1, u34_2⟩ := Cf3 BK160; go_wp2; go_ret; exact ⟨Ze, Bb1 HB.out GE160.out⟩
   ·rw [if_neg c7] at H; exact absurd H (by simp)
  ·rw [if_neg c5] at H; exact absurd H (by simp)
 ·replace c3 := Bool.eq_false_iff.mpr c3
  subst c3; have H1 : (some (⟨#[]⟩ : ByteArray)) = some r := by rw [if_neg (show ¬ (false = true) by decide)] at H; exact H
  clear H; have H := H1; clear H1; obtain rfl := Option.some.inj H; go_enter Tryz.func7, Tryz.ntmps7; go_wp2_with (first | ((with_reducible refine gate_dst (N := 1) rfl ?_); refine Bx (N := 1) (cs := #[.slice A0_0 l0_0.length c0_0, .int .i64 a0_1, .slice A0_2 l0_2.length c0_2]) (t := 30) (h := ?_); intro gb160 hg w35 hbox hb; have BK160 := Aside0.mk (hbox); have GW160 := Gs (w := w) hg (Bb0 HB.out); have GE160 := Gs (w := w) hg (Bb0 HB.out); replace HB := Sb (Bb0 HB.out) hb; clear hb hbox hg; obtain ⟨q36_0, q36_1, q36_2, u36_0, u36_1, u36_2⟩ := Cf3 BK160) | ((with_reducible refine gate_callee (f := 18) rfl ?_); refine goesL_ (some 7) rfl rfl Tryz.func18 (by kernel_rfl) rfl #[.agg #[.slice A0_0 l0_0.length c0_0, .int .i64 a0_1, .slice A0_2 l0_2.length c0_2]] rfl Zm ?_; (with_reducible refine (spec_IsProgram.calls k _ _ l0_0 a0_1 _ _ l0_2 false _ ?side1 ?side2 ?side3 ?side4 A2.out).mono ?_); (case side1 => exact Bc (Kd.C_below HR0_0.out HB.out)); (case side2 => exact HC0_0.out); (case side3 => exact Bc (Kd.C_below HR0_2.out HB.out)); (case side4 => exact HC0_2.out); rintro e w37 ⟨rfl, hb⟩; refine ⟨_, rfl, ?_⟩; replace BK160 := Kb BK160 hb; replace HB := Sb (Bb1 HB.out GE160.out) hb; (try clear hb); (try clear hb2); (try clear hk); (try clear hi))); go_ret; exact ⟨Ze, Bb1 HB.out GE160.out⟩
def spec_SplitByte.l0 : Nat → ByteArray → Int → List ByteArray → Int → Int → Option (List ByteArray)
 | 0, _, _, _, _, _ => none
 | k + 1, x0, x1, x5, x6, x7 => if x7 ≤ (x0.size : Int) then (if x7 = (x0.size : Int) then (if 0 ≤ x6 then (if x6 ≤ x7 then (if x5.length < 8796093022208 then (spec_SplitByte.l0 k x0 x1 (x5 ++ [x0.extract (x6 : Int).toNat (x7 : Int).toNat]) (wrap64 (x7 + 1)) (wrap64 (x7 + 1))) else (none)) else (none)) else (none)) else (if 0 ≤ x7 then (if x7 < (x0.size : Int) then (if (bt x0 x7) = x1 then (if 0 ≤ x6 then (if x6 ≤ x7 then (if x5.length < 8796093022208 then (spec_SplitByte.l0 k x0 x1 (x5 ++ [x0.extract (x6 : Int).toNat (x7 : Int).toNat]) (wrap64 (x7 + 1)) (wrap64 (x7 + 1))) else (none)) else (none)) else (none)) else (spec_SplitByte.l0 k x0 x1 x5 x6 (wrap64 (x7 + 1)))) else (none)) else (none))) else (some x5)
def spec_SplitByte.f (k : Nat) (a0 : ByteArray) (a1 : Int) : Option (List ByteArray) := spec_SplitByte.l0 k a0 a1 (([] : List ByteArray)) 0 0
theorem spec_SplitByte.mono_l : ∀ k, (∀ y0 y1 y2 y3 y4, LeO (spec_SplitByte.l0 k y0 y1 y2 y3 y4) (spec_SplitByte.l0 (k + 1) y0 y1 y2 y3 y4))
 | 0 => fun _ _ _ _ _ r h => by simp [spec_SplitByte.l0] at h
 | k + 1 => by
  have ih0 := spec_SplitByte.mono_l k
  ·intro y0 y1 y2 y3 y4; unfold spec_SplitByte.l0; repeat' with_reducible first | exact ih0 _ _ _ _ _ | exact LeO.refl _ | exact LeO.none _ | refine LeO.ite ?_ ?_ | refine LeO.bind ?_ (fun _ => ?_)
theorem spec_SplitByte.mono : ∀ a0 a1 k, LeO (spec_SplitByte.f k a0 a1) (spec_SplitByte.f (k + 1) a0 a1) := by
 intro a0 a1 k
 have ih0 := spec_SplitByte.mono_l k
 unfold spec_SplitByte.f
 repeat' with_reducible first | exact ih0 _ _ _ _ _ | exact LeO.refl _ | exact LeO.none _ | refine LeO.ite ?_ ?_ | refine LeO.bind ?_ (fun _ => ?_)
set_option maxHeartbeats 32000000 in
set_option maxRecDepth 100000 in
theorem spec_SplitByte.calls (k : Nat) (a0 : ByteArray) (a1 : Int) (r : List ByteArray) (w : World) (h : spec_SplitByte.f k a0 a1 = some r) :
  Calls Tryz.prog 39 #[.string a0, .int .u8 a1] w fun e w' => ∃ v0_ : Value, e = .returned (v0_) ∧ Kd.R Kd.string 9 w' w.heap.size (fun _ => True) v0_ r ∧ Below w.heap.size w w' := by
 have HB := Aside0.mk (Below.refl w.heap.size w)
 have H : (spec_SplitByte.l0 k a0 a1 (([] : List ByteArray)) 0 0) = some r := h
 clear h
 obtain ⟨y169, hy169⟩ : ∃ y_ : List ByteArray, y_ = (([] : List ByteArray)) := ⟨_, rfl⟩
 replace H : (spec_SplitByte.l0 k a0 a1 y169 0 0) = some r := by first | (rw [hy169]; with_reducible exact H) | (have H2_ := (Option.bind_some _ _).symm.trans H; rw [hy169]; with_reducible exact H2_) | (have H2_ := (Option.bind_some _ _).symm.trans H; with_reducible exact H2_) | with_reducible exact H | (rw [hy169]; exact H) | exact H
 have Ny169 := Aside0.mk hy169
 clear hy169
 have H' := Aside0.mk H
 clear H
 go_enter Tryz.func39, Tryz.ntmps39
 go_wp2_with (first | ((with_reducible refine gate_dst (N := 8) rfl ?_); refine Kd.R_lit Kd.string _ 9 ?hg (N := 8) ?hd (xs := ([] : List ByteArray)) (inner := []) (ok := fun _ => True) (okp := fun _ => True) ?hr ?hp (fun _ hk => hk) trivial (Below.refl _ _) (Nat.le_refl _) (by simp) ?_; (case hd => rfl); (case hg => rfl); (case hr => first | (go_simp; done) | (go_simp; rfl)); (case hp => exact (Reps.none _ _)); intro v170 w3 ho4 hb hg_ hnew_; clear hg_ hnew_; (first | rw [← Ny169.out] at ho4 | (simp only [Int.reduceToNat] at ho4; rw [← Ny169.out] at ho4)); have HO171 := Aside0.mk (Kd.R_lower ho4 (below_size (Bb0 HB.out))); replace HB := Sb (Bb0 HB.out) hb; clear hb ho4))
 go_loopg [5, 6, 7] k (fun kq v5 v6 v7 w' => ∃ (x5_1 : List ByteArray) (x6_1 : Int) (x7_1 : Int), v6 = .int .i64 x6_1 ∧ v7 = .int .i64 x7_1 ∧ Aside0 (spec_SplitByte.l0 kq a0 a1 x5_1 x6_1 x7_1 = some r) ∧ Aside0 (kq ≤ k) ∧ Aside0 (Kd.R Kd.string 9 w' w.heap.size (fun _ => True) v5 x5_1) ∧ Aside0 (Below w.heap.size w w'))
 case atStart => exact ⟨(y169), (0), (0), Zf, Zf, H', ⟨Nat.le_refl _⟩, ⟨by (with_reducible repeat (first | apply Kd.R_alloc | apply Kd.R_drewN | apply Kd.R_drew)); exact HO171.out⟩, ⟨Bb0 HB.out⟩⟩
 case round =>
  clear H'; try clear p2
  try clear c3
  obtain ⟨x5_1, x6_1, x7_1, rfl, rfl, HA, HK1, HO_5, HB⟩ := hrel; cases gk with
  | zero => exact absurd HA.out (by simp [spec_SplitByte.l0])
  | succ k1 =>
   have H := HA.out; clear HA; simp only [spec_SplitByte.l0] at H; by_cases c5 : x7_1 ≤ (a0.size : Int)
   ·rw [if_pos c5] at H; have c5b0 : decide (x7_1 ≤ (a0.size : Int)) = true := decide_eq_true c5; clear c5; by_cases c6 : x7_1 = (a0.size : Int)
    ·rw [if_pos c6] at H; have c6b0 : (x7_1 == (a0.size : Int)) = true := beq_iff_eq.mpr c6; have c6b1 : (x7_1 != (a0.size : Int)) = false := bne_eq_false_iff_eq.mpr c6; clear c6; by_cases c7 : 0 ≤ x6_1
     ·rw [if_pos c7] at H; have c7b0 := eq_true c7; have c7b1 : decide (0 ≤ x6_1) = true := decide_eq_true c7; clear c7; by_cases c8 : x6_1 ≤ x7_1
      ·rw [if_pos c8] at H; have c8b0 := eq_true c8; have c8b1 : decide (x6_1 ≤ x7_1) = true := decide_eq_true c8; clear c8; have c9b0 := eq_true (Da : x7_1 ≤ (a0.size : Int)); by_cases c10 : x5_1.length < 8796093022208
       ·rw [if_pos c10] at H; have LMc10 := Aside0.mk c10; clear c10; obtain ⟨y172, hy172⟩ : ∃ y_ : List ByteArray, y_ = (x5_1 ++ [a0.extract (x6_1 : Int).toNat (x7_1 : Int).toNat]) := ⟨_, rfl⟩; replace H : (spec_SplitByte.l0 k1 a0 a1 y172 (wrap64 (x7_1 + 1)) (wrap64 (x7_1 + 1))) = some r := by first | (rw [hy172]; with_reducible exact H) | (have H2_ := (Option.bind_some _ _).symm.trans H; rw [hy172]; with_reducible exact H2_) | (have H2_ := (Option.bind_some _ _).symm.trans H; with_reducible exact H2_) | with_reducible exact H | (rw [hy172]; exact H) | exact H
        have Ny172 := Aside0.mk hy172; clear hy172; have H' := Aside0.mk H; clear H; go_wp2_with (first | ((with_reducible refine gate_builtin (b := .append) (xs := #[.tmp 26, .tmp 31]) rfl ?_); at_builtin; refine Kd.R_append Kd.string (w0 := w) w.heap.size rfl (.tmp 26) (.tmp 31) 22 9 (.string ⟨#[]⟩) 16 rfl Tryz.underlying22 info9 rfl (by decide) (by omega) u5 x5_1 (a0.extract (x6_1 : Int).toNat (x7_1 : Int).toNat) [.string (a0.extract (x6_1 : Int).toNat (x7_1 : Int).toNat)] (fun _ => True) (fun _ => False) rfl rfl ?aP (fun _ hk => hk.elim) ?aF ?aO ?aB ?aS ?aL ?_; (case aP => exact rfl); (case aB => exact (Bb0 HB.out)); (case aF => exact (fun _ _ => trivial)); (case aO => exact (Br HO_5.out)); (case aS => exact (below_size (Bb0 HB.out))); (case aL => have := LMc10.out; omega); intro v173 w11 ho hb hg hat; rw [← Ny172.out] at ho; replace HB := Aside0.mk (hb); have HO174 := Aside0.mk (ho); clear HO_5; clear ho hb hg hat)); go_roundg k1
        case measure => have := HK1.out; omega
        case rel => exact ⟨(y172), (wrap64 (x7_1 + 1)), (wrap64 (x7_1 + 1)), Zf, Zf, H', ⟨by have := HK1.out; omega⟩, ⟨by (with_reducible repeat (first | apply Kd.R_alloc | apply Kd.R_drewN | apply Kd.R_drew)); exact HO174.out⟩, ⟨Bb0 HB.out⟩⟩
       ·rw [if_neg c10] at H; exact absurd H (by simp)
      ·rw [if_neg c8] at H; exact absurd H (by simp)
     ·rw [if_neg c7] at H; exact absurd H (by simp)
    ·rw [if_neg c6] at H; have c6b0 : (x7_1 == (a0.size : Int)) = false := beq_eq_false_iff_ne.mpr c6; have c6b1 : (x7_1 != (a0.size : Int)) = true := bne_iff_ne.mpr c6; by_cases c12 : 0 ≤ x7_1
     ·rw [if_pos c12] at H; have c12b0 : decide (0 ≤ x7_1) = true := decide_eq_true c12; clear c12; by_cases c13 : x7_1 < (a0.size : Int)
      ·rw [if_pos c13] at H; have c13b0 : decide (x7_1 < (a0.size : Int)) = true := decide_eq_true c13; clear c13; by_cases c15 : (bt a0 x7_1) = a1
       ·rw [if_pos c15] at H; have c15b0 : ((bt a0 x7_1) == a1) = true := beq_iff_eq.mpr c15; have c15b1 : ((bt a0 x7_1) != a1) = false := bne_eq_false_iff_eq.mpr c15; clear c15; by_cases c16 : 0 ≤ x6_1
        ·rw [if_pos c16] at H; have c16b0 := eq_true c16; have c16b1 : decide (0 ≤ x6_1) = true := decide_eq_true c16; clear c16; by_cases c17 : x6_1 ≤ x7_1
         ·rw [if_pos c17] at H; have c17b0 := eq_true c17; have c17b1 : decide (x6_1 ≤ x7_1) = true := decide_eq_true c17; clear c17; have c18b0 := eq_true (Da : x7_1 ≤ (a0.size : Int)); by_cases c19 : x5_1.length < 8796093022208
          ·rw [if_pos c19] at H; have LMc19 := Aside0.mk c19; clear c19; obtain ⟨y175, hy175⟩ : ∃ y_ : List ByteArray, y_ = (x5_1 ++ [a0.extract (x6_1 : Int).toNat (x7_1 : Int).toNat]) := ⟨_, rfl⟩; replace H : (spec_SplitByte.l0 k1 a0 a1 y175 (wrap64 (x7_1 + 1)) (wrap64 (x7_1 + 1))) = some r := by first | (rw [hy175]; with_reducible exact H) | (have H2_ := (Option.bind_some _ _).symm.trans H; rw [hy175]; with_reducible exact H2_) | (have H2_ := (Option.bind_some _ _).symm.trans H; with_reducible exact H2_) | with_reducible exact H | (rw [hy175]; exact H) | exact H
           have Ny175 := Aside0.mk hy175; clear hy175; have H' := Aside0.mk H; clear H; have p14 : 0 ≤ (x7_1 : Int) := Da; have q14 : x7_1 < (a0.size : Int) := Da; have hx14 := bt_at a0 x7_1; replace p14 := eq_true p14; replace q14 := eq_true q14; go_wp2_with (first | ((with_reducible refine gate_builtin (b := .append) (xs := #[.tmp 26, .tmp 31]) rfl ?_); at_builtin; refine Kd.R_append Kd.string (w0 := w) w.heap.size rfl (.tmp 26) (.tmp 31) 22 9 (.string ⟨#[]⟩) 16 rfl Tryz.underlying22 info9 rfl (by decide) (by omega) u5 x5_1 (a0.extract (x6_1 : Int).toNat (x7_1 : Int).toNat) [.string (a0.extract (x6_1 : Int).toNat (x7_1 : Int).toNat)] (fun _ => True) (fun _ => False) rfl rfl ?aP (fun _ hk => hk.elim) ?aF ?aO ?aB ?aS ?aL ?_; (case aP => exact rfl); (case aB => exact (Bb0 HB.out)); (case aF => exact (fun _ _ => trivial)); (case aO => exact (Br HO_5.out)); (case aS => exact (below_size (Bb0 HB.out))); (case aL => have := LMc19.out; omega); intro v176 w20 ho hb hg hat; rw [← Ny175.out] at ho; replace HB := Aside0.mk (hb); have HO177 := Aside0.mk (ho); clear HO_5; clear ho hb hg hat)); go_roundg k1
           case measure => have := HK1.out; omega
           case rel => exact ⟨(y175), (wrap64 (x7_1 + 1)), (wrap64 (x7_1 + 1)), Zf, Zf, H', ⟨by have := HK1.out; omega⟩, ⟨by (with_reducible repeat (first | apply Kd.R_alloc | apply Kd.R_drewN | apply Kd.R_drew)); exact HO177.out⟩, ⟨Bb0 HB.out⟩⟩
          ·rw [if_neg c19] at H; exact absurd H (by simp)
         ·rw [if_neg c17] at H; exact absurd H (by simp)
        ·rw [if_neg c16] at H; exact absurd H (by simp)
       ·rw [if_neg c15] at H; have c15b0 : ((bt a0 x7_1) == a1) = false := beq_eq_false_iff_ne.mpr c15; have c15b1 : ((bt a0 x7_1) != a1) = true := bne_iff_ne.mpr c15; have H' := Aside0.mk H; clear H; have p14 : 0 ≤ (x7_1 : Int) := Da; have q14 : x7_1 < (a0.size : Int) := Da; have hx14 := bt_at a0 x7_1; replace p14 := eq_true p14; replace q14 := eq_true q14; go_wp2; go_roundg k1
        case measure => have := HK1.out; omega
        case rel => exact ⟨(x5_1), (x6_1), (wrap64 (x7_1 + 1)), Zf, Zf, H', ⟨by have := HK1.out; omega⟩, ⟨by (with_reducible repeat (first | apply Kd.R_alloc | apply Kd.R_drewN | apply Kd.R_drew)); exact HO_5.out⟩, ⟨Bb0 HB.out⟩⟩
      ·rw [if_neg c13] at H; exact absurd H (by simp)
     ·rw [if_neg c12] at H; exact absurd H (by simp)
   ·rw [if_neg c5] at H; have c5b0 : decide (x7_1 ≤ (a0.size : Int)) = false := decide_eq_false c5; clear c5; obtain rfl := Option.some.inj H; go_wp2; go_ret; exact ⟨_, Ze, by (with_reducible repeat (first | apply Kd.R_alloc | apply Kd.R_drewN | apply Kd.R_drew)); exact HO_5.out, Bb0 HB.out⟩
end Go.Proofs.YtndkkpjofddfjaaGreatDoor.PFnExactParseProgram
