-- Laid by wip/tools/xprint.py (a program of this session over the kit's print). Not trusted: Lean checks it.
import Derived.Test.YtndkkpjofddfjaaGreatDoorXAuto
import Derived.Test.YtndkkpjofddfjaaGreatDoorPFnExactProgramTextx0
import Derived.Test.YtndkkpjofddfjaaGreatDoorPFnExactProgramTextx1
import Derived.Test.YtndkkpjofddfjaaGreatDoorPFnExactProgramTextx2
namespace Go.Proofs.YtndkkpjofddfjaaGreatDoor.PFnExactProgramText
open Go.RowKit Go.Proofs.YtndkkpjofddfjaaGreatDoorW.PrintWords Go.Proofs.YtndkkpjofddfjaaGreatDoorW.PrintLast Go.Proofs.YtndkkpjofddfjaaGreatDoorW.PrintMore
attribute [local go_sem] max2_int min2_int max_two min_two max_three min_three max_four min_four
set_option linter.unusedVariables false
set_option linter.unusedSimpArgs false
def spec_StmtText.j0 : Nat → Bool → Int → ByteArray → ByteArray → Option (ByteArray)
 | 0, _, _, _, _ => none
 | k + 1, x42, x152000, x152001, x152002 => if x42 = true then (some (⟨#[]⟩ : ByteArray)) else (if x152000 = 1 then (some (⟨#[115, 107, 105, 112]⟩ : ByteArray)) else (if x152000 = 2 then (if x152001.size + 5 ≤ 9223372036854775807 then (some (x152001 ++ (⟨#[61, 110, 117, 108, 108]⟩ : ByteArray))) else (none)) else (if x152000 = 3 then (if x152001.size + 4 ≤ 9223372036854775807 then (some (x152001 ++ (⟨#[61, 110, 101, 119]⟩ : ByteArray))) else (none)) else (if x152000 = 4 then (if x152001.size + 1 ≤ 9223372036854775807 then (if (x152001 ++ (⟨#[61]⟩ : ByteArray)).size + x152002.size ≤ 9223372036854775807 then (some ((x152001 ++ (⟨#[61]⟩ : ByteArray)) ++ x152002)) else (none)) else (none)) else (if x152000 = 5 then (if x152001.size + 1 ≤ 9223372036854775807 then (if (x152001 ++ (⟨#[61]⟩ : ByteArray)).size + x152002.size ≤ 9223372036854775807 then (if ((x152001 ++ (⟨#[61]⟩ : ByteArray)) ++ x152002).size + 2 ≤ 9223372036854775807 then (some (((x152001 ++ (⟨#[61]⟩ : ByteArray)) ++ x152002) ++ (⟨#[46, 110]⟩ : ByteArray))) else (none)) else (none)) else (none)) else (if x152000 = 6 then (if x152001.size + 7 ≤ 9223372036854775807 then (some (x152001 ++ (⟨#[46, 110, 61, 110, 117, 108, 108]⟩ : ByteArray))) else (none)) else (if x152000 = 7 then (if x152001.size + 3 ≤ 9223372036854775807 then (if (x152001 ++ (⟨#[46, 110, 61]⟩ : ByteArray)).size + x152002.size ≤ 9223372036854775807 then (some ((x152001 ++ (⟨#[46, 110, 61]⟩ : ByteArray)) ++ x152002)) else (none)) else (none)) else (if x152000 = 8 then (if 5 + x152001.size ≤ 9223372036854775807 then (some ((⟨#[102, 114, 101, 101, 32]⟩ : ByteArray) ++ x152001)) else (none)) else (if x152000 = 9 then (if x152001.size + 6 ≤ 9223372036854775807 then (some (x152001 ++ (⟨#[61, 61, 110, 117, 108, 108]⟩ : ByteArray))) else (none)) else (if x152000 = 10 then (if x152001.size + 6 ≤ 9223372036854775807 then (some (x152001 ++ (⟨#[33, 61, 110, 117, 108, 108]⟩ : ByteArray))) else (none)) else (if x152000 = 11 then (if x152001.size + 2 ≤ 9223372036854775807 then (if (x152001 ++ (⟨#[61, 61]⟩ : ByteArray)).size + x152002.size ≤ 9223372036854775807 then (some ((x152001 ++ (⟨#[61, 61]⟩ : ByteArray)) ++ x152002)) else (none)) else (none)) else (if x152001.size + 2 ≤ 9223372036854775807 then (if (x152001 ++ (⟨#[33, 61]⟩ : ByteArray)).size + x152002.size ≤ 9223372036854775807 then (some ((x152001 ++ (⟨#[33, 61]⟩ : ByteArray)) ++ x152002)) else (none)) else (none)))))))))))))
def spec_StmtText.f (k : Nat) (a0_0 : Int) (a0_1 : ByteArray) (a0_2 : ByteArray) : Option (ByteArray) := (spec_NamesOf.f k a0_0).bind fun t152 => (if t152 < 0 then (spec_StmtText.j0 k true a0_0 a0_1 a0_2) else ((spec_IsName.f k a0_1).bind fun t153 => (if ((decide (t152 > 0)) != t153) = true then (spec_StmtText.j0 k true a0_0 a0_1 a0_2) else ((spec_IsName.f k a0_2).bind fun t154 => (if ((decide (t152 > 1)) != t154) = true then (spec_StmtText.j0 k true a0_0 a0_1 a0_2) else (if t152 < 1 then (if a0_1.toList = ([] : List UInt8) then (if t152 < 2 then (spec_StmtText.j0 k (a0_2.toList != ([] : List UInt8)) a0_0 a0_1 a0_2) else (spec_StmtText.j0 k false a0_0 a0_1 a0_2)) else (spec_StmtText.j0 k true a0_0 a0_1 a0_2)) else (if t152 < 2 then (spec_StmtText.j0 k (a0_2.toList != ([] : List UInt8)) a0_0 a0_1 a0_2) else (spec_StmtText.j0 k false a0_0 a0_1 a0_2))))))))
theorem spec_StmtText.mono_l : ∀ k, (∀ y0 y1 y2 y3, LeO (spec_StmtText.j0 k y0 y1 y2 y3) (spec_StmtText.j0 (k + 1) y0 y1 y2 y3))
 | 0 => fun _ _ _ _ r h => by simp [spec_StmtText.j0] at h
 | k + 1 => by
  have ih0 := spec_StmtText.mono_l k
  ·intro y0 y1 y2 y3
   unfold spec_StmtText.j0
   repeat' first
   | (with_reducible exact ih0 _ _ _ _)
   | (with_reducible exact spec_IsName.mono _ _)
   | (with_reducible exact spec_NamesOf.mono _ _)
   | (with_reducible exact LeO.refl _)
   | (with_reducible exact LeO.none _)
   | (with_reducible refine LeO.ite ?_ ?_)
   | (with_reducible refine LeO.bind ?_ (fun _ => ?_))
   | exact ih0 _ _ _ _
   | exact spec_IsName.mono _ _
   | exact spec_NamesOf.mono _ _
   | exact LeO.none _
   | refine LeO.ite ?_ ?_
   | refine LeO.bind ?_ (fun _ => ?_)
theorem spec_StmtText.mono : ∀ a0 a1 a2 k, LeO (spec_StmtText.f k a0 a1 a2) (spec_StmtText.f (k + 1) a0 a1 a2) := by
 intro a0 a1 a2 k
 have ih0 := spec_StmtText.mono_l k
 unfold spec_StmtText.f
 repeat' first
   | (with_reducible exact ih0 _ _ _ _)
   | (with_reducible exact spec_IsName.mono _ _)
   | (with_reducible exact spec_NamesOf.mono _ _)
   | (with_reducible exact LeO.refl _)
   | (with_reducible exact LeO.none _)
   | (with_reducible refine LeO.ite ?_ ?_)
   | (with_reducible refine LeO.bind ?_ (fun _ => ?_))
   | exact ih0 _ _ _ _
   | exact spec_IsName.mono _ _
   | exact spec_NamesOf.mono _ _
   | exact LeO.none _
   | refine LeO.ite ?_ ?_
   | refine LeO.bind ?_ (fun _ => ?_)
set_option maxHeartbeats 8000000 in
set_option maxRecDepth 100000 in
theorem spec_StmtText.calls (k : Nat) (a0_0 : Int) (a0_1 : ByteArray) (a0_2 : ByteArray) (r : ByteArray) (w : World) (h : spec_StmtText.f k a0_0 a0_1 a0_2 = some r) :
  Calls Tryz.prog 31 #[.agg #[.int .i64 a0_0, .string a0_1, .string a0_2]] w fun e w' => e = .returned (.string r) ∧ Below w.heap.size w w' := by
 have hu50 := Tryz.underlying50
 have HB := Aside0.mk (Below.refl w.heap.size w)
 have H : ((spec_NamesOf.f k a0_0).bind fun t152 => (if t152 < 0 then (spec_StmtText.j0 k true a0_0 a0_1 a0_2) else ((spec_IsName.f k a0_1).bind fun t153 => (if ((decide (t152 > 0)) != t153) = true then (spec_StmtText.j0 k true a0_0 a0_1 a0_2) else ((spec_IsName.f k a0_2).bind fun t154 => (if ((decide (t152 > 1)) != t154) = true then (spec_StmtText.j0 k true a0_0 a0_1 a0_2) else (if t152 < 1 then (if a0_1.toList = ([] : List UInt8) then (if t152 < 2 then (spec_StmtText.j0 k (a0_2.toList != ([] : List UInt8)) a0_0 a0_1 a0_2) else (spec_StmtText.j0 k false a0_0 a0_1 a0_2)) else (spec_StmtText.j0 k true a0_0 a0_1 a0_2)) else (if t152 < 2 then (spec_StmtText.j0 k (a0_2.toList != ([] : List UInt8)) a0_0 a0_1 a0_2) else (spec_StmtText.j0 k false a0_0 a0_1 a0_2))))))))) = some r := h
 clear h
 replace H := Option.bind_eq_some_iff.mp H
 obtain ⟨t152, A20, H⟩ := H
 replace H : (if t152 < 0 then (spec_StmtText.j0 k true a0_0 a0_1 a0_2) else ((spec_IsName.f k a0_1).bind fun t153 => (if ((decide (t152 > 0)) != t153) = true then (spec_StmtText.j0 k true a0_0 a0_1 a0_2) else ((spec_IsName.f k a0_2).bind fun t154 => (if ((decide (t152 > 1)) != t154) = true then (spec_StmtText.j0 k true a0_0 a0_1 a0_2) else (if t152 < 1 then (if a0_1.toList = ([] : List UInt8) then (if t152 < 2 then (spec_StmtText.j0 k (a0_2.toList != ([] : List UInt8)) a0_0 a0_1 a0_2) else (spec_StmtText.j0 k false a0_0 a0_1 a0_2)) else (spec_StmtText.j0 k true a0_0 a0_1 a0_2)) else (if t152 < 2 then (spec_StmtText.j0 k (a0_2.toList != ([] : List UInt8)) a0_0 a0_1 a0_2) else (spec_StmtText.j0 k false a0_0 a0_1 a0_2)))))))) = some r := H
 have A2 := Aside0.mk A20
 clear A20
 have HC3 := Aside0.mk H
 clear H
 go_enter Tryz.func31, Tryz.ntmps31
 go_upto_region 2 with (first | ((with_reducible refine gate_dst (N := 1) rfl ?_); refine box_event ?hg (N := 1) ?hd (cs := #[.int .i64 a0_0, .string a0_1, .string a0_2]) (t := 50) ?hr ?_; (case hd => rfl); (case hg => rfl); (case hr => first | (go_simp; done) | (go_simp; rfl)); intro gb151 hg w4 hbox hb; have BK151 := Aside0.mk (hbox); have GW151 := Aside0.mk ((by rw [hg]; exact (below_size (Bb0 HB.out)) : w.heap.size ≤ gb151)); have GE151 := Aside0.mk ((by rw [hg]; exact (below_size (Bb0 HB.out)) : w.heap.size ≤ gb151)); replace HB := Aside0.mk (below_step (Bb0 HB.out) hb); clear hb hbox hg; have q5_0 : w4.cell? ⟨gb151, 0, none⟩ = some (.int .i64 a0_0) := (blk_cell BK151.out 0).trans rfl; have q5_1 : w4.cell? ⟨gb151, 1, none⟩ = some (.string a0_1) := (blk_cell BK151.out 1).trans rfl; have q5_2 : w4.cell? ⟨gb151, 2, none⟩ = some (.string a0_2) := (blk_cell BK151.out 2).trans rfl; have u5_0 := blk_frozen BK151.out 0; have u5_1 := blk_frozen BK151.out 1; have u5_2 := blk_frozen BK151.out 2) | ((with_reducible refine gate_callee (f := 68) rfl ?_); refine goesL_ (some 6) rfl rfl Tryz.func68 (by kernel_rfl) rfl #[.int .i64 a0_0] rfl (by (try simp only [List.map_toArray, List.map_cons, List.map_nil]); first | done | rfl | (simp only [List.length_drop, List.length_take]; rfl)) ?_; (with_reducible refine (spec_NamesOf.calls k a0_0 t152 _ A2.out).mono ?_); rintro e w' ⟨rfl, ⟨nd, rfl⟩⟩; refine ⟨_, rfl, ?_⟩))
 (try simp only [Act.put, List.setIfInBounds_toArray, List.set_cons_zero, List.set_cons_succ])
 go_cut [42] (fun v42 wc => ∃ (kq : Nat) (x42_2 : Bool), v42 = .bool x42_2 ∧ Aside0 (spec_StmtText.j0 kq x42_2 a0_0 a0_1 a0_2 = some r) ∧ Aside0 (kq ≤ k) ∧ Aside0 (wc.heap[gb151]? = some (.cells #[.int .i64 a0_0, .string a0_1, .string a0_2] 50 (0, 0))) ∧ Aside0 (Below w.heap.size w wc))
 case first =>
  have H := HC3.out
  clear HC3
  by_cases c6 : t152 < 0
  ·rw [if_pos c6] at H
   have c6b0 : decide (t152 < 0) = true := decide_eq_true c6
   clear c6
   (first | rw [c6b0] | (simp only [i64_w, i32_w]; rw [c6b0]) | skip)
   have H' := Aside0.mk H
   clear H
   go_wp2
   go_meet
   case rel => exact ⟨_, (true), (by first | rfl | (simp; done) | (simp [*]; done) | (simp; rw [Bool.eq_iff_iff]; simp; done)), H', ⟨by first | omega | exact Nat.le_refl _⟩, ⟨Ba BK151.out⟩, ⟨Bb1 HB.out GE151.out⟩⟩
  ·rw [if_neg c6] at H
   have c6b0 : decide (t152 < 0) = false := decide_eq_false c6
   clear c6
   (first | rw [c6b0] | (simp only [i64_w, i32_w]; rw [c6b0]) | skip)
   replace H := Option.bind_eq_some_iff.mp H
   obtain ⟨t153, A70, H⟩ := H
   replace H : (if ((decide (t152 > 0)) != t153) = true then (spec_StmtText.j0 k true a0_0 a0_1 a0_2) else ((spec_IsName.f k a0_2).bind fun t154 => (if ((decide (t152 > 1)) != t154) = true then (spec_StmtText.j0 k true a0_0 a0_1 a0_2) else (if t152 < 1 then (if a0_1.toList = ([] : List UInt8) then (if t152 < 2 then (spec_StmtText.j0 k (a0_2.toList != ([] : List UInt8)) a0_0 a0_1 a0_2) else (spec_StmtText.j0 k false a0_0 a0_1 a0_2)) else (spec_StmtText.j0 k true a0_0 a0_1 a0_2)) else (if t152 < 2 then (spec_StmtText.j0 k (a0_2.toList != ([] : List UInt8)) a0_0 a0_1 a0_2) else (spec_StmtText.j0 k false a0_0 a0_1 a0_2)))))) = some r := H
   have A7 := Aside0.mk A70
   clear A70
   by_cases c8 : ((decide (t152 > 0)) != t153) = true
   ·rw [if_pos c8] at H
    have c8b0 : ((decide (t152 > 0)) != t153) = true := c8
    (try (have c8b1 : decide ((decide (t152 > 0)) = t153) = false := by simpa using c8))
    (try (have c8b2 : ((decide (t152 > 0)) == t153) = false := by simpa using c8))
    (try (have c8b3 : ¬ ((decide (t152 > 0)) = t153) := by simpa using c8))
    clear c8
    have H' := Aside0.mk H
    clear H
    have q9_0 : w4.cell? ⟨gb151, 0, none⟩ = some (.int .i64 a0_0) := (blk_cell BK151.out 0).trans rfl
    have q9_1 : w4.cell? ⟨gb151, 1, none⟩ = some (.string a0_1) := (blk_cell BK151.out 1).trans rfl
    have q9_2 : w4.cell? ⟨gb151, 2, none⟩ = some (.string a0_2) := (blk_cell BK151.out 2).trans rfl
    have u9_0 := blk_frozen BK151.out 0
    have u9_1 := blk_frozen BK151.out 1
    have u9_2 := blk_frozen BK151.out 2
    go_wp2_with (first | (go_at_call 69; (with_reducible refine (spec_IsName.calls k a0_1 t153 _ A7.out).mono ?_); rintro e w' ⟨rfl, ⟨nd, rfl⟩⟩))
    go_meet
    case rel => exact ⟨_, (true), (by first | rfl | (simp; done) | (simp [*]; done) | (simp; rw [Bool.eq_iff_iff]; simp; done)), H', ⟨by first | omega | exact Nat.le_refl _⟩, ⟨Ba BK151.out⟩, ⟨Bb1 HB.out GE151.out⟩⟩
   ·rw [if_neg c8] at H
    have c8b0 : ((decide (t152 > 0)) != t153) = false := by simpa using c8
    (try (have c8b1 : decide ((decide (t152 > 0)) = t153) = true := by simpa using c8))
    (try (have c8b2 : ((decide (t152 > 0)) == t153) = true := by simpa using c8))
    clear c8
    replace H := Option.bind_eq_some_iff.mp H
    obtain ⟨t154, A100, H⟩ := H
    replace H : (if ((decide (t152 > 1)) != t154) = true then (spec_StmtText.j0 k true a0_0 a0_1 a0_2) else (if t152 < 1 then (if a0_1.toList = ([] : List UInt8) then (if t152 < 2 then (spec_StmtText.j0 k (a0_2.toList != ([] : List UInt8)) a0_0 a0_1 a0_2) else (spec_StmtText.j0 k false a0_0 a0_1 a0_2)) else (spec_StmtText.j0 k true a0_0 a0_1 a0_2)) else (if t152 < 2 then (spec_StmtText.j0 k (a0_2.toList != ([] : List UInt8)) a0_0 a0_1 a0_2) else (spec_StmtText.j0 k false a0_0 a0_1 a0_2)))) = some r := H
    have A10 := Aside0.mk A100
    clear A100
    by_cases c11 : ((decide (t152 > 1)) != t154) = true
    ·rw [if_pos c11] at H
     have c11b0 : ((decide (t152 > 1)) != t154) = true := c11
     (try (have c11b1 : decide ((decide (t152 > 1)) = t154) = false := by simpa using c11))
     (try (have c11b2 : ((decide (t152 > 1)) == t154) = false := by simpa using c11))
     (try (have c11b3 : ¬ ((decide (t152 > 1)) = t154) := by simpa using c11))
     clear c11
     have H' := Aside0.mk H
     clear H
     have q12_0 : w4.cell? ⟨gb151, 0, none⟩ = some (.int .i64 a0_0) := (blk_cell BK151.out 0).trans rfl
     have q12_1 : w4.cell? ⟨gb151, 1, none⟩ = some (.string a0_1) := (blk_cell BK151.out 1).trans rfl
     have q12_2 : w4.cell? ⟨gb151, 2, none⟩ = some (.string a0_2) := (blk_cell BK151.out 2).trans rfl
     have u12_0 := blk_frozen BK151.out 0
     have u12_1 := blk_frozen BK151.out 1
     have u12_2 := blk_frozen BK151.out 2
     go_wp2_with (first | (go_at_call 69; (with_reducible refine (spec_IsName.calls k a0_1 t153 _ A7.out).mono ?_); rintro e w' ⟨rfl, ⟨nd, rfl⟩⟩) | (go_at_call 69; (with_reducible refine (spec_IsName.calls k a0_2 t154 _ A10.out).mono ?_); rintro e w' ⟨rfl, ⟨nd, rfl⟩⟩))
     go_meet
     case rel => exact ⟨_, (true), (by first | rfl | (simp; done) | (simp [*]; done) | (simp; rw [Bool.eq_iff_iff]; simp; done)), H', ⟨by first | omega | exact Nat.le_refl _⟩, ⟨Ba BK151.out⟩, ⟨Bb1 HB.out GE151.out⟩⟩
    ·rw [if_neg c11] at H
     have c11b0 : ((decide (t152 > 1)) != t154) = false := by simpa using c11
     (try (have c11b1 : decide ((decide (t152 > 1)) = t154) = true := by simpa using c11))
     (try (have c11b2 : ((decide (t152 > 1)) == t154) = true := by simpa using c11))
     clear c11
     by_cases c13 : t152 < 1
     ·rw [if_pos c13] at H
      have c13b0 : decide (t152 < 1) = true := decide_eq_true c13
      clear c13
      by_cases c14 : a0_1.toList = ([] : List UInt8)
      ·rw [if_pos c14] at H
       have c14b0 : (a0_1.toList == ([] : List UInt8)) = true := beq_iff_eq.mpr c14
       have c14b1 : (a0_1.toList != ([] : List UInt8)) = false := bne_eq_false_iff_eq.mpr c14
       clear c14
       by_cases c15 : t152 < 2
       ·rw [if_pos c15] at H
        have c15b0 : decide (t152 < 2) = true := decide_eq_true c15
        clear c15
        have H' := Aside0.mk H
        clear H
        have q16_0 : w4.cell? ⟨gb151, 0, none⟩ = some (.int .i64 a0_0) := (blk_cell BK151.out 0).trans rfl
        have q16_1 : w4.cell? ⟨gb151, 1, none⟩ = some (.string a0_1) := (blk_cell BK151.out 1).trans rfl
        have q16_2 : w4.cell? ⟨gb151, 2, none⟩ = some (.string a0_2) := (blk_cell BK151.out 2).trans rfl
        have u16_0 := blk_frozen BK151.out 0
        have u16_1 := blk_frozen BK151.out 1
        have u16_2 := blk_frozen BK151.out 2
        go_wp2_with (first | (go_at_call 69; (with_reducible refine (spec_IsName.calls k a0_1 t153 _ A7.out).mono ?_); rintro e w' ⟨rfl, ⟨nd, rfl⟩⟩) | (go_at_call 69; (with_reducible refine (spec_IsName.calls k a0_2 t154 _ A10.out).mono ?_); rintro e w' ⟨rfl, ⟨nd, rfl⟩⟩))
        go_meet
        case rel => exact ⟨_, ((a0_2.toList != ([] : List UInt8))), (by first | rfl | (simp; done) | (simp [*]; done) | (simp; rw [Bool.eq_iff_iff]; simp; done)), H', ⟨by first | omega | exact Nat.le_refl _⟩, ⟨Ba BK151.out⟩, ⟨Bb1 HB.out GE151.out⟩⟩
       ·rw [if_neg c15] at H
        have c15b0 : decide (t152 < 2) = false := decide_eq_false c15
        clear c15
        have H' := Aside0.mk H
        clear H
        have q17_0 : w4.cell? ⟨gb151, 0, none⟩ = some (.int .i64 a0_0) := (blk_cell BK151.out 0).trans rfl
        have q17_1 : w4.cell? ⟨gb151, 1, none⟩ = some (.string a0_1) := (blk_cell BK151.out 1).trans rfl
        have q17_2 : w4.cell? ⟨gb151, 2, none⟩ = some (.string a0_2) := (blk_cell BK151.out 2).trans rfl
        have u17_0 := blk_frozen BK151.out 0
        have u17_1 := blk_frozen BK151.out 1
        have u17_2 := blk_frozen BK151.out 2
        go_wp2_with (first | (go_at_call 69; (with_reducible refine (spec_IsName.calls k a0_1 t153 _ A7.out).mono ?_); rintro e w' ⟨rfl, ⟨nd, rfl⟩⟩) | (go_at_call 69; (with_reducible refine (spec_IsName.calls k a0_2 t154 _ A10.out).mono ?_); rintro e w' ⟨rfl, ⟨nd, rfl⟩⟩))
        go_meet
        case rel => exact ⟨_, (false), (by first | rfl | (simp; done) | (simp [*]; done) | (simp; rw [Bool.eq_iff_iff]; simp; done)), H', ⟨by first | omega | exact Nat.le_refl _⟩, ⟨Ba BK151.out⟩, ⟨Bb1 HB.out GE151.out⟩⟩
      ·rw [if_neg c14] at H
       have c14b0 : (a0_1.toList == ([] : List UInt8)) = false := beq_eq_false_iff_ne.mpr c14
       have c14b1 : (a0_1.toList != ([] : List UInt8)) = true := bne_iff_ne.mpr c14
       have H' := Aside0.mk H
       clear H
       have q18_0 : w4.cell? ⟨gb151, 0, none⟩ = some (.int .i64 a0_0) := (blk_cell BK151.out 0).trans rfl
       have q18_1 : w4.cell? ⟨gb151, 1, none⟩ = some (.string a0_1) := (blk_cell BK151.out 1).trans rfl
       have q18_2 : w4.cell? ⟨gb151, 2, none⟩ = some (.string a0_2) := (blk_cell BK151.out 2).trans rfl
       have u18_0 := blk_frozen BK151.out 0
       have u18_1 := blk_frozen BK151.out 1
       have u18_2 := blk_frozen BK151.out 2
       go_wp2_with (first | (go_at_call 69; (with_reducible refine (spec_IsName.calls k a0_1 t153 _ A7.out).mono ?_); rintro e w' ⟨rfl, ⟨nd, rfl⟩⟩) | (go_at_call 69; (with_reducible refine (spec_IsName.calls k a0_2 t154 _ A10.out).mono ?_); rintro e w' ⟨rfl, ⟨nd, rfl⟩⟩))
       go_meet
       case rel => exact ⟨_, (true), (by first | rfl | (simp; done) | (simp [*]; done) | (simp; rw [Bool.eq_iff_iff]; simp; done)), H', ⟨by first | omega | exact Nat.le_refl _⟩, ⟨Ba BK151.out⟩, ⟨Bb1 HB.out GE151.out⟩⟩
     ·rw [if_neg c13] at H
      have c13b0 : decide (t152 < 1) = false := decide_eq_false c13
      clear c13
      by_cases c19 : t152 < 2
      ·rw [if_pos c19] at H
       have c19b0 : decide (t152 < 2) = true := decide_eq_true c19
       clear c19
       have H' := Aside0.mk H
       clear H
       have q20_0 : w4.cell? ⟨gb151, 0, none⟩ = some (.int .i64 a0_0) := (blk_cell BK151.out 0).trans rfl
       have q20_1 : w4.cell? ⟨gb151, 1, none⟩ = some (.string a0_1) := (blk_cell BK151.out 1).trans rfl
       have q20_2 : w4.cell? ⟨gb151, 2, none⟩ = some (.string a0_2) := (blk_cell BK151.out 2).trans rfl
       have u20_0 := blk_frozen BK151.out 0
       have u20_1 := blk_frozen BK151.out 1
       have u20_2 := blk_frozen BK151.out 2
       go_wp2_with (first | (go_at_call 69; (with_reducible refine (spec_IsName.calls k a0_1 t153 _ A7.out).mono ?_); rintro e w' ⟨rfl, ⟨nd, rfl⟩⟩) | (go_at_call 69; (with_reducible refine (spec_IsName.calls k a0_2 t154 _ A10.out).mono ?_); rintro e w' ⟨rfl, ⟨nd, rfl⟩⟩))
       go_meet
       case rel => exact ⟨_, ((a0_2.toList != ([] : List UInt8))), (by first | rfl | (simp; done) | (simp [*]; done) | (simp; rw [Bool.eq_iff_iff]; simp; done)), H', ⟨by first | omega | exact Nat.le_refl _⟩, ⟨Ba BK151.out⟩, ⟨Bb1 HB.out GE151.out⟩⟩
      ·rw [if_neg c19] at H
       have c19b0 : decide (t152 < 2) = false := decide_eq_false c19
       clear c19
       have H' := Aside0.mk H
       clear H
       have q21_0 : w4.cell? ⟨gb151, 0, none⟩ = some (.int .i64 a0_0) := (blk_cell BK151.out 0).trans rfl
       have q21_1 : w4.cell? ⟨gb151, 1, none⟩ = some (.string a0_1) := (blk_cell BK151.out 1).trans rfl
       have q21_2 : w4.cell? ⟨gb151, 2, none⟩ = some (.string a0_2) := (blk_cell BK151.out 2).trans rfl
       have u21_0 := blk_frozen BK151.out 0
       have u21_1 := blk_frozen BK151.out 1
       have u21_2 := blk_frozen BK151.out 2
       go_wp2_with (first | (go_at_call 69; (with_reducible refine (spec_IsName.calls k a0_1 t153 _ A7.out).mono ?_); rintro e w' ⟨rfl, ⟨nd, rfl⟩⟩) | (go_at_call 69; (with_reducible refine (spec_IsName.calls k a0_2 t154 _ A10.out).mono ?_); rintro e w' ⟨rfl, ⟨nd, rfl⟩⟩))
       go_meet
       case rel => exact ⟨_, (false), (by first | rfl | (simp; done) | (simp [*]; done) | (simp; rw [Bool.eq_iff_iff]; simp; done)), H', ⟨by first | omega | exact Nat.le_refl _⟩, ⟨Ba BK151.out⟩, ⟨Bb1 HB.out GE151.out⟩⟩
 case rest =>
  clear HC3
  try clear c1
  try clear p2
  try clear c3
  try clear c6
  try clear c6b0
  try clear c8
  try clear c8b0
  try clear c8b1
  try clear c8b2
  try clear c11
  try clear c11b0
  try clear c11b1
  try clear c11b2
  try clear c13
  try clear c13b0
  try clear c14
  try clear c14b0
  try clear c14b1
  try clear c15
  try clear c15b0
  try clear c19
  try clear c19b0
  try clear q12_0
  try clear q12_1
  try clear q12_2
  try clear q16_0
  try clear q16_1
  try clear q16_2
  try clear q17_0
  try clear q17_1
  try clear q17_2
  try clear q18_0
  try clear q18_1
  try clear q18_2
  try clear q20_0
  try clear q20_1
  try clear q20_2
  try clear q21_0
  try clear q21_1
  try clear q21_2
  try clear q5_0
  try clear q5_1
  try clear q5_2
  try clear q9_0
  try clear q9_1
  try clear q9_2
  try clear u12_0
  try clear u12_1
  try clear u12_2
  try clear u16_0
  try clear u16_1
  try clear u16_2
  try clear u17_0
  try clear u17_1
  try clear u17_2
  try clear u18_0
  try clear u18_1
  try clear u18_2
  try clear u20_0
  try clear u20_1
  try clear u20_2
  try clear u21_0
  try clear u21_1
  try clear u21_2
  try clear u5_0
  try clear u5_1
  try clear u5_2
  try clear u9_0
  try clear u9_1
  try clear u9_2
  obtain ⟨kq, x42_2, rfl, HA, HJ2, BK151, HB⟩ := hcut
  cases kq with
  | zero => exact absurd HA.out (by simp [spec_StmtText.j0])
  | succ kj2 =>
   have H := HA.out
   clear HA
   simp only [spec_StmtText.j0] at H
   by_cases c22 : x42_2 = true
   ·subst c22
    have H1 : (some (⟨#[]⟩ : ByteArray)) = some r := by rw [if_pos rfl] at H; exact H
    clear H
    have H := H1
    clear H1
    obtain rfl := Option.some.inj H
    go_wp2
    go_ret
    exact ⟨by first | rfl | (simp [errW_none, errW_some] <;> rfl) | (simp [*, errW_none, errW_some] <;> rfl), by repeat (first | (with_reducible first | exact HB.out | apply below_alloc | apply pw_below_drewN | apply below_drew1 | refine below_set ?_ GE151.out) | exact HB.out)⟩
   ·replace c22 := Bool.eq_false_iff.mpr c22
    subst c22
    have H1 : (if a0_0 = 1 then (some (⟨#[115, 107, 105, 112]⟩ : ByteArray)) else (if a0_0 = 2 then (if a0_1.size + 5 ≤ 9223372036854775807 then (some (a0_1 ++ (⟨#[61, 110, 117, 108, 108]⟩ : ByteArray))) else (none)) else (if a0_0 = 3 then (if a0_1.size + 4 ≤ 9223372036854775807 then (some (a0_1 ++ (⟨#[61, 110, 101, 119]⟩ : ByteArray))) else (none)) else (if a0_0 = 4 then (if a0_1.size + 1 ≤ 9223372036854775807 then (if (a0_1 ++ (⟨#[61]⟩ : ByteArray)).size + a0_2.size ≤ 9223372036854775807 then (some ((a0_1 ++ (⟨#[61]⟩ : ByteArray)) ++ a0_2)) else (none)) else (none)) else (if a0_0 = 5 then (if a0_1.size + 1 ≤ 9223372036854775807 then (if (a0_1 ++ (⟨#[61]⟩ : ByteArray)).size + a0_2.size ≤ 9223372036854775807 then (if ((a0_1 ++ (⟨#[61]⟩ : ByteArray)) ++ a0_2).size + 2 ≤ 9223372036854775807 then (some (((a0_1 ++ (⟨#[61]⟩ : ByteArray)) ++ a0_2) ++ (⟨#[46, 110]⟩ : ByteArray))) else (none)) else (none)) else (none)) else (if a0_0 = 6 then (if a0_1.size + 7 ≤ 9223372036854775807 then (some (a0_1 ++ (⟨#[46, 110, 61, 110, 117, 108, 108]⟩ : ByteArray))) else (none)) else (if a0_0 = 7 then (if a0_1.size + 3 ≤ 9223372036854775807 then (if (a0_1 ++ (⟨#[46, 110, 61]⟩ : ByteArray)).size + a0_2.size ≤ 9223372036854775807 then (some ((a0_1 ++ (⟨#[46, 110, 61]⟩ : ByteArray)) ++ a0_2)) else (none)) else (none)) else (if a0_0 = 8 then (if 5 + a0_1.size ≤ 9223372036854775807 then (some ((⟨#[102, 114, 101, 101, 32]⟩ : ByteArray) ++ a0_1)) else (none)) else (if a0_0 = 9 then (if a0_1.size + 6 ≤ 9223372036854775807 then (some (a0_1 ++ (⟨#[61, 61, 110, 117, 108, 108]⟩ : ByteArray))) else (none)) else (if a0_0 = 10 then (if a0_1.size + 6 ≤ 9223372036854775807 then (some (a0_1 ++ (⟨#[33, 61, 110, 117, 108, 108]⟩ : ByteArray))) else (none)) else (if a0_0 = 11 then (if a0_1.size + 2 ≤ 9223372036854775807 then (if (a0_1 ++ (⟨#[61, 61]⟩ : ByteArray)).size + a0_2.size ≤ 9223372036854775807 then (some ((a0_1 ++ (⟨#[61, 61]⟩ : ByteArray)) ++ a0_2)) else (none)) else (none)) else (if a0_1.size + 2 ≤ 9223372036854775807 then (if (a0_1 ++ (⟨#[33, 61]⟩ : ByteArray)).size + a0_2.size ≤ 9223372036854775807 then (some ((a0_1 ++ (⟨#[33, 61]⟩ : ByteArray)) ++ a0_2)) else (none)) else (none))))))))))))) = some r := by rw [if_neg (show ¬ (false = true) by decide)] at H; exact H
    clear H
    have H := H1
    clear H1
    by_cases c23 : a0_0 = 1
    ·rw [if_pos c23] at H
     have c23b0 : (a0_0 == 1) = true := beq_iff_eq.mpr c23
     have c23b1 : (a0_0 != 1) = false := bne_eq_false_iff_eq.mpr c23
     clear c23
     obtain rfl := Option.some.inj H
     have q24_0 : wc.cell? ⟨gb151, 0, none⟩ = some (.int .i64 a0_0) := (blk_cell BK151.out 0).trans rfl
     have q24_1 : wc.cell? ⟨gb151, 1, none⟩ = some (.string a0_1) := (blk_cell BK151.out 1).trans rfl
     have q24_2 : wc.cell? ⟨gb151, 2, none⟩ = some (.string a0_2) := (blk_cell BK151.out 2).trans rfl
     have u24_0 := blk_frozen BK151.out 0
     have u24_1 := blk_frozen BK151.out 1
     have u24_2 := blk_frozen BK151.out 2
     go_wp2
     go_ret
     exact ⟨by first | rfl | (simp [errW_none, errW_some] <;> rfl) | (simp [*, errW_none, errW_some] <;> rfl), by repeat (first | (with_reducible first | exact HB.out | apply below_alloc | apply pw_below_drewN | apply below_drew1 | refine below_set ?_ GE151.out) | exact HB.out)⟩
    ·rw [if_neg c23] at H
     have c23b0 : (a0_0 == 1) = false := beq_eq_false_iff_ne.mpr c23
     have c23b1 : (a0_0 != 1) = true := bne_iff_ne.mpr c23
     by_cases c25 : a0_0 = 2
     ·rw [if_pos c25] at H
      have c25b0 : (a0_0 == 2) = true := beq_iff_eq.mpr c25
      have c25b1 : (a0_0 != 2) = false := bne_eq_false_iff_eq.mpr c25
      clear c25
      by_cases c26 : a0_1.size + 5 ≤ 9223372036854775807
      ·rw [if_pos c26] at H
       have c26b0 := eq_true c26
       have c26b1 : decide (a0_1.size + 5 ≤ 9223372036854775807) = true := decide_eq_true c26
       try have c26b2 : (9223372036854775807 < a0_1.size + 5) = False := eq_false (Nat.not_lt.2 c26)
       obtain rfl := Option.some.inj H
       have q27_0 : wc.cell? ⟨gb151, 0, none⟩ = some (.int .i64 a0_0) := (blk_cell BK151.out 0).trans rfl
       have q27_1 : wc.cell? ⟨gb151, 1, none⟩ = some (.string a0_1) := (blk_cell BK151.out 1).trans rfl
       have q27_2 : wc.cell? ⟨gb151, 2, none⟩ = some (.string a0_2) := (blk_cell BK151.out 2).trans rfl
       have u27_0 := blk_frozen BK151.out 0
       have u27_1 := blk_frozen BK151.out 1
       have u27_2 := blk_frozen BK151.out 2
       go_wp2
       go_ret
       exact ⟨by first | rfl | (simp [errW_none, errW_some] <;> rfl) | (simp [*, errW_none, errW_some] <;> rfl), by repeat (first | (with_reducible first | exact HB.out | apply below_alloc | apply pw_below_drewN | apply below_drew1 | refine below_set ?_ GE151.out) | exact HB.out)⟩
      ·rw [if_neg c26] at H
       exact absurd H (by simp)
     ·rw [if_neg c25] at H
      have c25b0 : (a0_0 == 2) = false := beq_eq_false_iff_ne.mpr c25
      have c25b1 : (a0_0 != 2) = true := bne_iff_ne.mpr c25
      by_cases c28 : a0_0 = 3
      ·rw [if_pos c28] at H
       have c28b0 : (a0_0 == 3) = true := beq_iff_eq.mpr c28
       have c28b1 : (a0_0 != 3) = false := bne_eq_false_iff_eq.mpr c28
       clear c28
       by_cases c29 : a0_1.size + 4 ≤ 9223372036854775807
       ·rw [if_pos c29] at H
        have c29b0 := eq_true c29
        have c29b1 : decide (a0_1.size + 4 ≤ 9223372036854775807) = true := decide_eq_true c29
        try have c29b2 : (9223372036854775807 < a0_1.size + 4) = False := eq_false (Nat.not_lt.2 c29)
        obtain rfl := Option.some.inj H
        have q30_0 : wc.cell? ⟨gb151, 0, none⟩ = some (.int .i64 a0_0) := (blk_cell BK151.out 0).trans rfl
        have q30_1 : wc.cell? ⟨gb151, 1, none⟩ = some (.string a0_1) := (blk_cell BK151.out 1).trans rfl
        have q30_2 : wc.cell? ⟨gb151, 2, none⟩ = some (.string a0_2) := (blk_cell BK151.out 2).trans rfl
        have u30_0 := blk_frozen BK151.out 0
        have u30_1 := blk_frozen BK151.out 1
        have u30_2 := blk_frozen BK151.out 2
        go_wp2
        go_ret
        exact ⟨by first | rfl | (simp [errW_none, errW_some] <;> rfl) | (simp [*, errW_none, errW_some] <;> rfl), by repeat (first | (with_reducible first | exact HB.out | apply below_alloc | apply pw_below_drewN | apply below_drew1 | refine below_set ?_ GE151.out) | exact HB.out)⟩
       ·rw [if_neg c29] at H
        exact absurd H (by simp)
      ·rw [if_neg c28] at H
       have c28b0 : (a0_0 == 3) = false := beq_eq_false_iff_ne.mpr c28
       have c28b1 : (a0_0 != 3) = true := bne_iff_ne.mpr c28
       by_cases c31 : a0_0 = 4
       ·rw [if_pos c31] at H
        have c31b0 : (a0_0 == 4) = true := beq_iff_eq.mpr c31
        have c31b1 : (a0_0 != 4) = false := bne_eq_false_iff_eq.mpr c31
        clear c31
        by_cases c32 : a0_1.size + 1 ≤ 9223372036854775807
        ·rw [if_pos c32] at H
         have c32b0 := eq_true c32
         have c32b1 : decide (a0_1.size + 1 ≤ 9223372036854775807) = true := decide_eq_true c32
         try have c32b2 : (9223372036854775807 < a0_1.size + 1) = False := eq_false (Nat.not_lt.2 c32)
         by_cases c33 : (a0_1 ++ (⟨#[61]⟩ : ByteArray)).size + a0_2.size ≤ 9223372036854775807
         ·rw [if_pos c33] at H
          have c33b0 := eq_true c33
          have c33b1 : decide ((a0_1 ++ (⟨#[61]⟩ : ByteArray)).size + a0_2.size ≤ 9223372036854775807) = true := decide_eq_true c33
          try have c33b2 : (9223372036854775807 < (a0_1 ++ (⟨#[61]⟩ : ByteArray)).size + a0_2.size) = False := eq_false (Nat.not_lt.2 c33)
          try have c33b3 : (9223372036854775807 < a0_1.size + 1 + a0_2.size) = False := eq_false (Nat.not_lt.2 (by have h_ := c33; simp only [ByteArray.size_append] at h_; exact h_))
          obtain rfl := Option.some.inj H
          have q34_0 : wc.cell? ⟨gb151, 0, none⟩ = some (.int .i64 a0_0) := (blk_cell BK151.out 0).trans rfl
          have q34_1 : wc.cell? ⟨gb151, 1, none⟩ = some (.string a0_1) := (blk_cell BK151.out 1).trans rfl
          have q34_2 : wc.cell? ⟨gb151, 2, none⟩ = some (.string a0_2) := (blk_cell BK151.out 2).trans rfl
          have u34_0 := blk_frozen BK151.out 0
          have u34_1 := blk_frozen BK151.out 1
          have u34_2 := blk_frozen BK151.out 2
          go_wp2
          go_ret
          exact ⟨by first | rfl | (simp [errW_none, errW_some] <;> rfl) | (simp [*, errW_none, errW_some] <;> rfl), by repeat (first | (with_reducible first | exact HB.out | apply below_alloc | apply pw_below_drewN | apply below_drew1 | refine below_set ?_ GE151.out) | exact HB.out)⟩
         ·rw [if_neg c33] at H
          exact absurd H (by simp)
        ·rw [if_neg c32] at H
         exact absurd H (by simp)
       ·rw [if_neg c31] at H
        have c31b0 : (a0_0 == 4) = false := beq_eq_false_iff_ne.mpr c31
        have c31b1 : (a0_0 != 4) = true := bne_iff_ne.mpr c31
        by_cases c35 : a0_0 = 5
        ·rw [if_pos c35] at H
         have c35b0 : (a0_0 == 5) = true := beq_iff_eq.mpr c35
         have c35b1 : (a0_0 != 5) = false := bne_eq_false_iff_eq.mpr c35
         clear c35
         by_cases c36 : a0_1.size + 1 ≤ 9223372036854775807
         ·rw [if_pos c36] at H
          have c36b0 := eq_true c36
          have c36b1 : decide (a0_1.size + 1 ≤ 9223372036854775807) = true := decide_eq_true c36
          try have c36b2 : (9223372036854775807 < a0_1.size + 1) = False := eq_false (Nat.not_lt.2 c36)
          by_cases c37 : (a0_1 ++ (⟨#[61]⟩ : ByteArray)).size + a0_2.size ≤ 9223372036854775807
          ·rw [if_pos c37] at H
           have c37b0 := eq_true c37
           have c37b1 : decide ((a0_1 ++ (⟨#[61]⟩ : ByteArray)).size + a0_2.size ≤ 9223372036854775807) = true := decide_eq_true c37
           try have c37b2 : (9223372036854775807 < (a0_1 ++ (⟨#[61]⟩ : ByteArray)).size + a0_2.size) = False := eq_false (Nat.not_lt.2 c37)
           try have c37b3 : (9223372036854775807 < a0_1.size + 1 + a0_2.size) = False := eq_false (Nat.not_lt.2 (by have h_ := c37; simp only [ByteArray.size_append] at h_; exact h_))
           by_cases c38 : ((a0_1 ++ (⟨#[61]⟩ : ByteArray)) ++ a0_2).size + 2 ≤ 9223372036854775807
           ·rw [if_pos c38] at H
            have c38b0 := eq_true c38
            have c38b1 : decide (((a0_1 ++ (⟨#[61]⟩ : ByteArray)) ++ a0_2).size + 2 ≤ 9223372036854775807) = true := decide_eq_true c38
            try have c38b2 : (9223372036854775807 < ((a0_1 ++ (⟨#[61]⟩ : ByteArray)) ++ a0_2).size + 2) = False := eq_false (Nat.not_lt.2 c38)
            try have c38b3 : (9223372036854775807 < a0_1.size + 1 + a0_2.size + 2) = False := eq_false (Nat.not_lt.2 (by have h_ := c38; simp only [ByteArray.size_append] at h_; exact h_))
            obtain rfl := Option.some.inj H
            have q39_0 : wc.cell? ⟨gb151, 0, none⟩ = some (.int .i64 a0_0) := (blk_cell BK151.out 0).trans rfl
            have q39_1 : wc.cell? ⟨gb151, 1, none⟩ = some (.string a0_1) := (blk_cell BK151.out 1).trans rfl
            have q39_2 : wc.cell? ⟨gb151, 2, none⟩ = some (.string a0_2) := (blk_cell BK151.out 2).trans rfl
            have u39_0 := blk_frozen BK151.out 0
            have u39_1 := blk_frozen BK151.out 1
            have u39_2 := blk_frozen BK151.out 2
            go_wp2
            go_ret
            exact ⟨by first | rfl | (simp [errW_none, errW_some] <;> rfl) | (simp [*, errW_none, errW_some] <;> rfl), by repeat (first | (with_reducible first | exact HB.out | apply below_alloc | apply pw_below_drewN | apply below_drew1 | refine below_set ?_ GE151.out) | exact HB.out)⟩
           ·rw [if_neg c38] at H
            exact absurd H (by simp)
          ·rw [if_neg c37] at H
           exact absurd H (by simp)
         ·rw [if_neg c36] at H
          exact absurd H (by simp)
        ·rw [if_neg c35] at H
         have c35b0 : (a0_0 == 5) = false := beq_eq_false_iff_ne.mpr c35
         have c35b1 : (a0_0 != 5) = true := bne_iff_ne.mpr c35
         by_cases c40 : a0_0 = 6
         ·rw [if_pos c40] at H
          have c40b0 : (a0_0 == 6) = true := beq_iff_eq.mpr c40
          have c40b1 : (a0_0 != 6) = false := bne_eq_false_iff_eq.mpr c40
          clear c40
          by_cases c41 : a0_1.size + 7 ≤ 9223372036854775807
          ·rw [if_pos c41] at H
           have c41b0 := eq_true c41
           have c41b1 : decide (a0_1.size + 7 ≤ 9223372036854775807) = true := decide_eq_true c41
           try have c41b2 : (9223372036854775807 < a0_1.size + 7) = False := eq_false (Nat.not_lt.2 c41)
           obtain rfl := Option.some.inj H
           have q42_0 : wc.cell? ⟨gb151, 0, none⟩ = some (.int .i64 a0_0) := (blk_cell BK151.out 0).trans rfl
           have q42_1 : wc.cell? ⟨gb151, 1, none⟩ = some (.string a0_1) := (blk_cell BK151.out 1).trans rfl
           have q42_2 : wc.cell? ⟨gb151, 2, none⟩ = some (.string a0_2) := (blk_cell BK151.out 2).trans rfl
           have u42_0 := blk_frozen BK151.out 0
           have u42_1 := blk_frozen BK151.out 1
           have u42_2 := blk_frozen BK151.out 2
           go_wp2
           go_ret
           exact ⟨by first | rfl | (simp [errW_none, errW_some] <;> rfl) | (simp [*, errW_none, errW_some] <;> rfl), by repeat (first | (with_reducible first | exact HB.out | apply below_alloc | apply pw_below_drewN | apply below_drew1 | refine below_set ?_ GE151.out) | exact HB.out)⟩
          ·rw [if_neg c41] at H
           exact absurd H (by simp)
         ·rw [if_neg c40] at H
          have c40b0 : (a0_0 == 6) = false := beq_eq_false_iff_ne.mpr c40
          have c40b1 : (a0_0 != 6) = true := bne_iff_ne.mpr c40
          by_cases c43 : a0_0 = 7
          ·rw [if_pos c43] at H
           have c43b0 : (a0_0 == 7) = true := beq_iff_eq.mpr c43
           have c43b1 : (a0_0 != 7) = false := bne_eq_false_iff_eq.mpr c43
           clear c43
           by_cases c44 : a0_1.size + 3 ≤ 9223372036854775807
           ·rw [if_pos c44] at H
            have c44b0 := eq_true c44
            have c44b1 : decide (a0_1.size + 3 ≤ 9223372036854775807) = true := decide_eq_true c44
            try have c44b2 : (9223372036854775807 < a0_1.size + 3) = False := eq_false (Nat.not_lt.2 c44)
            by_cases c45 : (a0_1 ++ (⟨#[46, 110, 61]⟩ : ByteArray)).size + a0_2.size ≤ 9223372036854775807
            ·rw [if_pos c45] at H
             have c45b0 := eq_true c45
             have c45b1 : decide ((a0_1 ++ (⟨#[46, 110, 61]⟩ : ByteArray)).size + a0_2.size ≤ 9223372036854775807) = true := decide_eq_true c45
             try have c45b2 : (9223372036854775807 < (a0_1 ++ (⟨#[46, 110, 61]⟩ : ByteArray)).size + a0_2.size) = False := eq_false (Nat.not_lt.2 c45)
             try have c45b3 : (9223372036854775807 < a0_1.size + 3 + a0_2.size) = False := eq_false (Nat.not_lt.2 (by have h_ := c45; simp only [ByteArray.size_append] at h_; exact h_))
             obtain rfl := Option.some.inj H
             have q46_0 : wc.cell? ⟨gb151, 0, none⟩ = some (.int .i64 a0_0) := (blk_cell BK151.out 0).trans rfl
             have q46_1 : wc.cell? ⟨gb151, 1, none⟩ = some (.string a0_1) := (blk_cell BK151.out 1).trans rfl
             have q46_2 : wc.cell? ⟨gb151, 2, none⟩ = some (.string a0_2) := (blk_cell BK151.out 2).trans rfl
             have u46_0 := blk_frozen BK151.out 0
             have u46_1 := blk_frozen BK151.out 1
             have u46_2 := blk_frozen BK151.out 2
             go_wp2
             go_ret
             exact ⟨by first | rfl | (simp [errW_none, errW_some] <;> rfl) | (simp [*, errW_none, errW_some] <;> rfl), by repeat (first | (with_reducible first | exact HB.out | apply below_alloc | apply pw_below_drewN | apply below_drew1 | refine below_set ?_ GE151.out) | exact HB.out)⟩
            ·rw [if_neg c45] at H
             exact absurd H (by simp)
           ·rw [if_neg c44] at H
            exact absurd H (by simp)
          ·rw [if_neg c43] at H
           have c43b0 : (a0_0 == 7) = false := beq_eq_false_iff_ne.mpr c43
           have c43b1 : (a0_0 != 7) = true := bne_iff_ne.mpr c43
           by_cases c47 : a0_0 = 8
           ·rw [if_pos c47] at H
            have c47b0 : (a0_0 == 8) = true := beq_iff_eq.mpr c47
            have c47b1 : (a0_0 != 8) = false := bne_eq_false_iff_eq.mpr c47
            clear c47
            by_cases c48 : 5 + a0_1.size ≤ 9223372036854775807
            ·rw [if_pos c48] at H
             have c48b0 := eq_true c48
             have c48b1 : decide (5 + a0_1.size ≤ 9223372036854775807) = true := decide_eq_true c48
             try have c48b2 : (9223372036854775807 < 5 + a0_1.size) = False := eq_false (Nat.not_lt.2 c48)
             obtain rfl := Option.some.inj H
             have q49_0 : wc.cell? ⟨gb151, 0, none⟩ = some (.int .i64 a0_0) := (blk_cell BK151.out 0).trans rfl
             have q49_1 : wc.cell? ⟨gb151, 1, none⟩ = some (.string a0_1) := (blk_cell BK151.out 1).trans rfl
             have q49_2 : wc.cell? ⟨gb151, 2, none⟩ = some (.string a0_2) := (blk_cell BK151.out 2).trans rfl
             have u49_0 := blk_frozen BK151.out 0
             have u49_1 := blk_frozen BK151.out 1
             have u49_2 := blk_frozen BK151.out 2
             go_wp2
             go_ret
             exact ⟨by first | rfl | (simp [errW_none, errW_some] <;> rfl) | (simp [*, errW_none, errW_some] <;> rfl), by repeat (first | (with_reducible first | exact HB.out | apply below_alloc | apply pw_below_drewN | apply below_drew1 | refine below_set ?_ GE151.out) | exact HB.out)⟩
            ·rw [if_neg c48] at H
             exact absurd H (by simp)
           ·rw [if_neg c47] at H
            have c47b0 : (a0_0 == 8) = false := beq_eq_false_iff_ne.mpr c47
            have c47b1 : (a0_0 != 8) = true := bne_iff_ne.mpr c47
            by_cases c50 : a0_0 = 9
            ·rw [if_pos c50] at H
             have c50b0 : (a0_0 == 9) = true := beq_iff_eq.mpr c50
             have c50b1 : (a0_0 != 9) = false := bne_eq_false_iff_eq.mpr c50
             clear c50
             by_cases c51 : a0_1.size + 6 ≤ 9223372036854775807
             ·rw [if_pos c51] at H
              have c51b0 := eq_true c51
              have c51b1 : decide (a0_1.size + 6 ≤ 9223372036854775807) = true := decide_eq_true c51
              try have c51b2 : (9223372036854775807 < a0_1.size + 6) = False := eq_false (Nat.not_lt.2 c51)
              obtain rfl := Option.some.inj H
              have q52_0 : wc.cell? ⟨gb151, 0, none⟩ = some (.int .i64 a0_0) := (blk_cell BK151.out 0).trans rfl
              have q52_1 : wc.cell? ⟨gb151, 1, none⟩ = some (.string a0_1) := (blk_cell BK151.out 1).trans rfl
              have q52_2 : wc.cell? ⟨gb151, 2, none⟩ = some (.string a0_2) := (blk_cell BK151.out 2).trans rfl
              have u52_0 := blk_frozen BK151.out 0
              have u52_1 := blk_frozen BK151.out 1
              have u52_2 := blk_frozen BK151.out 2
              go_wp2
              go_ret
              exact ⟨by first | rfl | (simp [errW_none, errW_some] <;> rfl) | (simp [*, errW_none, errW_some] <;> rfl), by repeat (first | (with_reducible first | exact HB.out | apply below_alloc | apply pw_below_drewN | apply below_drew1 | refine below_set ?_ GE151.out) | exact HB.out)⟩
             ·rw [if_neg c51] at H
              exact absurd H (by simp)
            ·rw [if_neg c50] at H
             have c50b0 : (a0_0 == 9) = false := beq_eq_false_iff_ne.mpr c50
             have c50b1 : (a0_0 != 9) = true := bne_iff_ne.mpr c50
             by_cases c53 : a0_0 = 10
             ·rw [if_pos c53] at H
              have c53b0 : (a0_0 == 10) = true := beq_iff_eq.mpr c53
              have c53b1 : (a0_0 != 10) = false := bne_eq_false_iff_eq.mpr c53
              clear c53
              by_cases c54 : a0_1.size + 6 ≤ 9223372036854775807
              ·rw [if_pos c54] at H
               have c54b0 := eq_true c54
               have c54b1 : decide (a0_1.size + 6 ≤ 9223372036854775807) = true := decide_eq_true c54
               try have c54b2 : (9223372036854775807 < a0_1.size + 6) = False := eq_false (Nat.not_lt.2 c54)
               obtain rfl := Option.some.inj H
               have q55_0 : wc.cell? ⟨gb151, 0, none⟩ = some (.int .i64 a0_0) := (blk_cell BK151.out 0).trans rfl
               have q55_1 : wc.cell? ⟨gb151, 1, none⟩ = some (.string a0_1) := (blk_cell BK151.out 1).trans rfl
               have q55_2 : wc.cell? ⟨gb151, 2, none⟩ = some (.string a0_2) := (blk_cell BK151.out 2).trans rfl
               have u55_0 := blk_frozen BK151.out 0
               have u55_1 := blk_frozen BK151.out 1
               have u55_2 := blk_frozen BK151.out 2
               go_wp2
               go_ret
               exact ⟨by first | rfl | (simp [errW_none, errW_some] <;> rfl) | (simp [*, errW_none, errW_some] <;> rfl), by repeat (first | (with_reducible first | exact HB.out | apply below_alloc | apply pw_below_drewN | apply below_drew1 | refine below_set ?_ GE151.out) | exact HB.out)⟩
              ·rw [if_neg c54] at H
               exact absurd H (by simp)
             ·rw [if_neg c53] at H
              have c53b0 : (a0_0 == 10) = false := beq_eq_false_iff_ne.mpr c53
              have c53b1 : (a0_0 != 10) = true := bne_iff_ne.mpr c53
              by_cases c56 : a0_0 = 11
              ·rw [if_pos c56] at H
               have c56b0 : (a0_0 == 11) = true := beq_iff_eq.mpr c56
               have c56b1 : (a0_0 != 11) = false := bne_eq_false_iff_eq.mpr c56
               clear c56
               by_cases c57 : a0_1.size + 2 ≤ 9223372036854775807
               ·rw [if_pos c57] at H
                have c57b0 := eq_true c57
                have c57b1 : decide (a0_1.size + 2 ≤ 9223372036854775807) = true := decide_eq_true c57
                try have c57b2 : (9223372036854775807 < a0_1.size + 2) = False := eq_false (Nat.not_lt.2 c57)
                by_cases c58 : (a0_1 ++ (⟨#[61, 61]⟩ : ByteArray)).size + a0_2.size ≤ 9223372036854775807
                ·rw [if_pos c58] at H
                 have c58b0 := eq_true c58
                 have c58b1 : decide ((a0_1 ++ (⟨#[61, 61]⟩ : ByteArray)).size + a0_2.size ≤ 9223372036854775807) = true := decide_eq_true c58
                 try have c58b2 : (9223372036854775807 < (a0_1 ++ (⟨#[61, 61]⟩ : ByteArray)).size + a0_2.size) = False := eq_false (Nat.not_lt.2 c58)
                 try have c58b3 : (9223372036854775807 < a0_1.size + 2 + a0_2.size) = False := eq_false (Nat.not_lt.2 (by have h_ := c58; simp only [ByteArray.size_append] at h_; exact h_))
                 obtain rfl := Option.some.inj H
                 have q59_0 : wc.cell? ⟨gb151, 0, none⟩ = some (.int .i64 a0_0) := (blk_cell BK151.out 0).trans rfl
                 have q59_1 : wc.cell? ⟨gb151, 1, none⟩ = some (.string a0_1) := (blk_cell BK151.out 1).trans rfl
                 have q59_2 : wc.cell? ⟨gb151, 2, none⟩ = some (.string a0_2) := (blk_cell BK151.out 2).trans rfl
                 have u59_0 := blk_frozen BK151.out 0
                 have u59_1 := blk_frozen BK151.out 1
                 have u59_2 := blk_frozen BK151.out 2
                 go_wp2
                 go_ret
                 exact ⟨by first | rfl | (simp [errW_none, errW_some] <;> rfl) | (simp [*, errW_none, errW_some] <;> rfl), by repeat (first | (with_reducible first | exact HB.out | apply below_alloc | apply pw_below_drewN | apply below_drew1 | refine below_set ?_ GE151.out) | exact HB.out)⟩
                ·rw [if_neg c58] at H
                 exact absurd H (by simp)
               ·rw [if_neg c57] at H
                exact absurd H (by simp)
              ·rw [if_neg c56] at H
               have c56b0 : (a0_0 == 11) = false := beq_eq_false_iff_ne.mpr c56
               have c56b1 : (a0_0 != 11) = true := bne_iff_ne.mpr c56
               by_cases c60 : a0_1.size + 2 ≤ 9223372036854775807
               ·rw [if_pos c60] at H
                have c60b0 := eq_true c60
                have c60b1 : decide (a0_1.size + 2 ≤ 9223372036854775807) = true := decide_eq_true c60
                try have c60b2 : (9223372036854775807 < a0_1.size + 2) = False := eq_false (Nat.not_lt.2 c60)
                by_cases c61 : (a0_1 ++ (⟨#[33, 61]⟩ : ByteArray)).size + a0_2.size ≤ 9223372036854775807
                ·rw [if_pos c61] at H
                 have c61b0 := eq_true c61
                 have c61b1 : decide ((a0_1 ++ (⟨#[33, 61]⟩ : ByteArray)).size + a0_2.size ≤ 9223372036854775807) = true := decide_eq_true c61
                 try have c61b2 : (9223372036854775807 < (a0_1 ++ (⟨#[33, 61]⟩ : ByteArray)).size + a0_2.size) = False := eq_false (Nat.not_lt.2 c61)
                 try have c61b3 : (9223372036854775807 < a0_1.size + 2 + a0_2.size) = False := eq_false (Nat.not_lt.2 (by have h_ := c61; simp only [ByteArray.size_append] at h_; exact h_))
                 obtain rfl := Option.some.inj H
                 have q62_0 : wc.cell? ⟨gb151, 0, none⟩ = some (.int .i64 a0_0) := (blk_cell BK151.out 0).trans rfl
                 have q62_1 : wc.cell? ⟨gb151, 1, none⟩ = some (.string a0_1) := (blk_cell BK151.out 1).trans rfl
                 have q62_2 : wc.cell? ⟨gb151, 2, none⟩ = some (.string a0_2) := (blk_cell BK151.out 2).trans rfl
                 have u62_0 := blk_frozen BK151.out 0
                 have u62_1 := blk_frozen BK151.out 1
                 have u62_2 := blk_frozen BK151.out 2
                 go_wp2
                 go_ret
                 exact ⟨by first | rfl | (simp [errW_none, errW_some] <;> rfl) | (simp [*, errW_none, errW_some] <;> rfl), by repeat (first | (with_reducible first | exact HB.out | apply below_alloc | apply pw_below_drewN | apply below_drew1 | refine below_set ?_ GE151.out) | exact HB.out)⟩
                ·rw [if_neg c61] at H
                 exact absurd H (by simp)
               ·rw [if_neg c60] at H
                exact absurd H (by simp)
end Go.Proofs.YtndkkpjofddfjaaGreatDoor.PFnExactProgramText
