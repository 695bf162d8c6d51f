/- A part of the walk through the printed functions; no condition. -/
import Derived.Test.YtndkkpjofddfjaaGreatDoorXAuto
import Derived.Test.YtndkkpjofddfjaaGreatDoorPFnExactParseProgramx0
import Derived.Test.YtndkkpjofddfjaaGreatDoorPFnExactParseProgramx2
namespace Go.Proofs.YtndkkpjofddfjaaGreatDoor.PFnExactParseProgram
open Go.RowKit Go.Proofs.YtndkkpjofddfjaaGreatDoorW.PrintWords Go.Proofs.YtndkkpjofddfjaaGreatDoorW.PrintLast Go.Proofs.YtndkkpjofddfjaaGreatDoorW.PrintMore
attribute [local go_sem] max2_int min2_int max_two min_two max_three min_three max_four min_four
set_option maxHeartbeats 32000000
set_option maxRecDepth 100000
attribute [local irreducible] Go.World.setCell
set_option linter.unusedVariables false
set_option linter.unusedSimpArgs false
open Go.Proofs.YtndkkpjofddfjaaGreatDoorW.PrintWords.Aside0 renaming mk → Qa
open Go.RowKit renaming wrap64 → Qb
def spec_FormatInt.l0 : Nat → Int → Bool → ByteArray → Option (ByteArray)
 | 0, _, _, _ => none
 | k + 1, x0, x3, x4 => if x0 = 0 then (if x3 = true then (if 1 + x4.size ≤ 9223372036854775807 then (some ((⟨#[45]⟩ : ByteArray) ++ x4)) else (none)) else (some x4)) else (if (Int.tmod x0 10) < 0 then ((some (([(Qb (48 + (Qb (-(Int.tmod x0 10))))) % 256] : List Int) : List Int)).bind fun y69 => (if (strOfNums y69).size + x4.size ≤ 9223372036854775807 then (spec_FormatInt.l0 k (Qb (Int.tdiv x0 10)) x3 ((strOfNums y69) ++ x4)) else (none))) else ((some (([(Qb (48 + (Int.tmod x0 10))) % 256] : List Int) : List Int)).bind fun y70 => (if (strOfNums y70).size + x4.size ≤ 9223372036854775807 then (spec_FormatInt.l0 k (Qb (Int.tdiv x0 10)) x3 ((strOfNums y70) ++ x4)) else (none))))
def spec_FormatInt.f (k : Nat) (a0 : Int) : Option (ByteArray) := if a0 = 0 then (some (⟨#[48]⟩ : ByteArray)) else (spec_FormatInt.l0 k a0 (decide (a0 < 0)) (⟨#[]⟩ : ByteArray))
theorem spec_FormatInt.mono_l : ∀ k, (∀ y0 y1 y2, LeO (spec_FormatInt.l0 k y0 y1 y2) (spec_FormatInt.l0 (k + 1) y0 y1 y2))
 | 0 => fun _ _ _ r h => by simp [spec_FormatInt.l0] at h
 | k + 1 => by
  have ih0 := spec_FormatInt.mono_l k
  ·intro y0 y1 y2; unfold spec_FormatInt.l0; exact Lm1 ih0
theorem spec_FormatInt.mono : ∀ a0 k, LeO (spec_FormatInt.f k a0) (spec_FormatInt.f (k + 1) a0) := by
 intro a0 k
 have ih0 := spec_FormatInt.mono_l k
 unfold spec_FormatInt.f
 exact Lm1 ih0
theorem spec_FormatInt.calls (k : Nat) (a0 : Int) (r : ByteArray) (w : World) (h : spec_FormatInt.f k a0 = some r) :
  Calls Tryz.prog 30 #[.int .i64 a0] w fun e w' => e = .returned (.string r) ∧ Below w.heap.size w w' := by
 have HB := Qa (Below.refl w.heap.size w)
 have H : (if a0 = 0 then (some (⟨#[48]⟩ : ByteArray)) else (spec_FormatInt.l0 k a0 (decide (a0 < 0)) (⟨#[]⟩ : ByteArray))) = some r := h
 clear h
 by_cases c2 : a0 = 0
 ·rw [if_pos c2] at H
  have c2b0 := beq_iff_eq.mpr c2; have c2b1 := bne_eq_false_iff_eq.mpr c2; clear c2; obtain rfl := Option.some.inj H; go_enter Tryz.func30, Tryz.ntmps30; go_wp2; all_goals (try (first | contradiction | (exfalso; simp only [decide_eq_true_eq, decide_eq_false_iff_not, Int.not_lt] at *; omega)))
  go_ret; exact ⟨Ze, Bb0 HB.out⟩
 ·rw [if_neg c2] at H
  have c2b0 := beq_eq_false_iff_ne.mpr c2; have c2b1 := bne_iff_ne.mpr c2; have H' := Qa H; clear H; go_enter Tryz.func30, Tryz.ntmps30; go_wp2; go_loopg [0, 4] k (fun kq v0 v4 w' => ∃ (x0_1 : Int) (x4_1 : ByteArray), v0 = .int .i64 x0_1 ∧ v4 = .string x4_1 ∧ Aside0 (spec_FormatInt.l0 kq x0_1 (decide (a0 < 0)) x4_1 = some r) ∧ Aside0 (kq ≤ k) ∧ Aside0 (Below w.heap.size w w'))
  case atStart => exact ⟨(a0), ((⟨#[]⟩ : ByteArray)), Zf, Zf, H', ⟨Nat.le_refl _⟩, ⟨Bb0 HB.out⟩⟩
  case round =>
   clear H'; (try clear c2)
   (try clear c2b0)
   (try clear c2b1)
   (try clear p2)
   obtain ⟨x0_1, x4_1, rfl, rfl, HA, HK1, HB⟩ := hrel; cases gk with
   | zero => exact absurd HA.out (by simp [spec_FormatInt.l0])
   | succ k1 =>
    have H := HA.out; clear HA; simp only [spec_FormatInt.l0] at H; by_cases c3 : x0_1 = 0
    ·rw [if_pos c3] at H; have c3b0 := beq_iff_eq.mpr c3; have c3b1 := bne_eq_false_iff_eq.mpr c3; clear c3; by_cases c4 : (decide (a0 < 0)) = true
     ·rw [if_pos c4] at H; have c4b0 : (decide (a0 < 0)) = true := c4; clear c4; by_cases c5 : 1 + x4_1.size ≤ 9223372036854775807
      ·rw [if_pos c5] at H; have c5b0 := eq_true c5; have c5b1 := decide_eq_true c5; try have c5b2 : (9223372036854775807 < 1 + x4_1.size) = False := eq_false (Nat.not_lt.2 c5)
       obtain rfl := Option.some.inj H; go_wp2; all_goals (try (first | contradiction | (exfalso; simp only [decide_eq_true_eq, decide_eq_false_iff_not, Int.not_lt] at *; omega)))
       go_ret; exact ⟨Ze, Bb0 HB.out⟩
      ·rw [if_neg c5] at H; exact absurd H (by simp)
     ·rw [if_neg c4] at H; have c4b0 : (decide (a0 < 0)) = false := by simpa using c4
      clear c4; obtain rfl := Option.some.inj H; go_wp2; all_goals (try (first | contradiction | (exfalso; simp only [decide_eq_true_eq, decide_eq_false_iff_not, Int.not_lt] at *; omega)))
      go_ret; exact ⟨Ze, Bb0 HB.out⟩
    ·rw [if_neg c3] at H; have c3b0 := beq_eq_false_iff_ne.mpr c3; have c3b1 := bne_iff_ne.mpr c3; by_cases c6 : (Int.tmod x0_1 10) < 0
     ·rw [if_pos c6] at H; replace c6 := decide_eq_true c6; obtain ⟨y69, hy69⟩ : ∃ y_ : List Int, y_ = (([(Qb (48 + (Qb (-(Int.tmod x0_1 10))))) % 256] : List Int)) := ⟨_, rfl⟩; replace H : (if (strOfNums y69).size + x4_1.size ≤ 9223372036854775807 then (spec_FormatInt.l0 k1 (Qb (Int.tdiv x0_1 10)) (decide (a0 < 0)) ((strOfNums y69) ++ x4_1)) else (none)) = some r := Zh hy69 H; have Ny69 := Qa hy69; clear hy69; by_cases c7 : (strOfNums y69).size + x4_1.size ≤ 9223372036854775807
      ·rw [if_pos c7] at H; have c7b0 := eq_true c7; have c7b1 := decide_eq_true c7; try have c7b2 : (9223372036854775807 < (strOfNums y69).size + x4_1.size) = False := eq_false (Nat.not_lt.2 c7)
       have H' := Qa H; clear H; go_wp2_with (first | ((with_reducible refine gate_dst (N := 21) rfl ?_); refine Kd.R_lit (Kd.int .u8) _ 5 ?hg (N := 21) ?hd (xs := ([(Qb (48 + (Qb (-(Int.tmod x0_1 10))))) % 256] : List Int)) (inner := [.int .u8 ((Qb (48 + (Qb (-(Int.tmod x0_1 10))))) % 256)]) (ok := fun _ => True) (okp := fun _ => True) ?hr ?hp (fun _ hk => hk) trivial (Below.refl _ _) (Nat.le_refl _) (by simp) ?_; (case hd => rfl); (case hg => rfl); (case hr => first | (go_simp; done) | (go_simp; rfl)); (case hp => exact (Reps.one (show Kd.M (Kd.int .u8) _ _ _ ((Qb (48 + (Qb (-(Int.tmod x0_1 10))))) % 256) [.int .u8 ((Qb (48 + (Qb (-(Int.tmod x0_1 10))))) % 256)] from rfl) (Reps.none _ _))); intro v75 w8 ho9 hb hg_ hnew_; clear hg_ hnew_; (first | rw [← Ny69.out] at ho9 | (simp only [Int.reduceToNat] at ho9; rw [← Ny69.out] at ho9)); have HO73 := Lw ho9 (Bb0 HB.out); replace HB := Sb (Bb0 HB.out) hb; clear hb ho9; have hcv10 := own_string (P := Tryz.prog) Tryz.underlying38 Tryz.underlying5 Tryz.underlying9 (Kd.own_of_R HO73.out))); go_roundg k1
       case measure => have := HK1.out; omega
       case rel => exact ⟨(Qb (Int.tdiv x0_1 10)), ((strOfNums y69) ++ x4_1), Zf, Zf, H', ⟨by have := HK1.out; omega⟩, ⟨Bb0 HB.out⟩⟩
      ·rw [if_neg c7] at H; exact absurd H (by simp)
     ·rw [if_neg c6] at H; replace c6 := decide_eq_false c6; obtain ⟨y70, hy70⟩ : ∃ y_ : List Int, y_ = (([(Qb (48 + (Int.tmod x0_1 10))) % 256] : List Int)) := ⟨_, rfl⟩; replace H : (if (strOfNums y70).size + x4_1.size ≤ 9223372036854775807 then (spec_FormatInt.l0 k1 (Qb (Int.tdiv x0_1 10)) (decide (a0 < 0)) ((strOfNums y70) ++ x4_1)) else (none)) = some r := Zh hy70 H; have Ny70 := Qa hy70; clear hy70; by_cases c11 : (strOfNums y70).size + x4_1.size ≤ 9223372036854775807
      ·rw [if_pos c11] at H; have c11b0 := eq_true c11; have c11b1 := decide_eq_true c11; try have c11b2 : (9223372036854775807 < (strOfNums y70).size + x4_1.size) = False := eq_false (Nat.not_lt.2 c11)
       have H' := Qa H; clear H; go_wp2_with (first | ((with_reducible refine gate_dst (N := 21) rfl ?_); refine Kd.R_lit (Kd.int .u8) _ 5 ?hg (N := 21) ?hd (xs := ([(Qb (48 + (Int.tmod x0_1 10))) % 256] : List Int)) (inner := [.int .u8 ((Qb (48 + (Int.tmod x0_1 10))) % 256)]) (ok := fun _ => True) (okp := fun _ => True) ?hr ?hp (fun _ hk => hk) trivial (Below.refl _ _) (Nat.le_refl _) (by simp) ?_; (case hd => rfl); (case hg => rfl); (case hr => first | (go_simp; done) | (go_simp; rfl)); (case hp => exact (Reps.one (show Kd.M (Kd.int .u8) _ _ _ ((Qb (48 + (Int.tmod x0_1 10))) % 256) [.int .u8 ((Qb (48 + (Int.tmod x0_1 10))) % 256)] from rfl) (Reps.none _ _))); intro v76 w12 ho13 hb hg_ hnew_; clear hg_ hnew_; (first | rw [← Ny70.out] at ho13 | (simp only [Int.reduceToNat] at ho13; rw [← Ny70.out] at ho13)); have HO74 := Lw ho13 (Bb0 HB.out); replace HB := Sb (Bb0 HB.out) hb; clear hb ho13; have hcv14 := own_string (P := Tryz.prog) Tryz.underlying38 Tryz.underlying5 Tryz.underlying9 (Kd.own_of_R HO74.out))); go_roundg k1
       case measure => have := HK1.out; omega
       case rel => exact ⟨(Qb (Int.tdiv x0_1 10)), ((strOfNums y70) ++ x4_1), Zf, Zf, H', ⟨by have := HK1.out; omega⟩, ⟨Bb0 HB.out⟩⟩
      ·rw [if_neg c11] at H; exact absurd H (by simp)
def spec_StmtText.j0 : Nat → Bool → Int → ByteArray → ByteArray → Option (ByteArray)
 | 0, _, _, _, _ => none
 | k + 1, x42, x71, x66, x72 => if x42 = true then (some (⟨#[]⟩ : ByteArray)) else (if x71 = 1 then (some (⟨#[115, 107, 105, 112]⟩ : ByteArray)) else (if x71 = 2 then (if x66.size + 5 ≤ 9223372036854775807 then (some (x66 ++ (⟨#[61, 110, 117, 108, 108]⟩ : ByteArray))) else (none)) else (if x71 = 3 then (if x66.size + 4 ≤ 9223372036854775807 then (some (x66 ++ (⟨#[61, 110, 101, 119]⟩ : ByteArray))) else (none)) else (if x71 = 4 then (if x66.size + 1 ≤ 9223372036854775807 then (if (x66 ++ (⟨#[61]⟩ : ByteArray)).size + x72.size ≤ 9223372036854775807 then (some ((x66 ++ (⟨#[61]⟩ : ByteArray)) ++ x72)) else (none)) else (none)) else (if x71 = 5 then (if x66.size + 1 ≤ 9223372036854775807 then (if (x66 ++ (⟨#[61]⟩ : ByteArray)).size + x72.size ≤ 9223372036854775807 then (if ((x66 ++ (⟨#[61]⟩ : ByteArray)) ++ x72).size + 2 ≤ 9223372036854775807 then (some (((x66 ++ (⟨#[61]⟩ : ByteArray)) ++ x72) ++ (⟨#[46, 110]⟩ : ByteArray))) else (none)) else (none)) else (none)) else (if x71 = 6 then (if x66.size + 7 ≤ 9223372036854775807 then (some (x66 ++ (⟨#[46, 110, 61, 110, 117, 108, 108]⟩ : ByteArray))) else (none)) else (if x71 = 7 then (if x66.size + 3 ≤ 9223372036854775807 then (if (x66 ++ (⟨#[46, 110, 61]⟩ : ByteArray)).size + x72.size ≤ 9223372036854775807 then (some ((x66 ++ (⟨#[46, 110, 61]⟩ : ByteArray)) ++ x72)) else (none)) else (none)) else (if x71 = 8 then (if 5 + x66.size ≤ 9223372036854775807 then (some ((⟨#[102, 114, 101, 101, 32]⟩ : ByteArray) ++ x66)) else (none)) else (if x71 = 9 then (if x66.size + 6 ≤ 9223372036854775807 then (some (x66 ++ (⟨#[61, 61, 110, 117, 108, 108]⟩ : ByteArray))) else (none)) else (if x71 = 10 then (if x66.size + 6 ≤ 9223372036854775807 then (some (x66 ++ (⟨#[33, 61, 110, 117, 108, 108]⟩ : ByteArray))) else (none)) else (if x71 = 11 then (if x66.size + 2 ≤ 9223372036854775807 then (if (x66 ++ (⟨#[61, 61]⟩ : ByteArray)).size + x72.size ≤ 9223372036854775807 then (some ((x66 ++ (⟨#[61, 61]⟩ : ByteArray)) ++ x72)) else (none)) else (none)) else (if x66.size + 2 ≤ 9223372036854775807 then (if (x66 ++ (⟨#[33, 61]⟩ : ByteArray)).size + x72.size ≤ 9223372036854775807 then (some ((x66 ++ (⟨#[33, 61]⟩ : ByteArray)) ++ x72)) else (none)) else (none)))))))))))))
def spec_StmtText.f (k : Nat) (a0_0 : Int) (a0_1 : ByteArray) (a0_2 : ByteArray) : Option (ByteArray) := (spec_NamesOf.f k a0_0).bind fun t65 => (if t65 < 0 then (spec_StmtText.j0 k true a0_0 a0_1 a0_2) else ((spec_IsName.f k a0_1).bind fun t67 => (if ((decide (t65 > 0)) != t67) = true then (spec_StmtText.j0 k true a0_0 a0_1 a0_2) else ((spec_IsName.f k a0_2).bind fun t68 => (if ((decide (t65 > 1)) != t68) = true then (spec_StmtText.j0 k true a0_0 a0_1 a0_2) else (if t65 < 1 then (if a0_1.toList = ([] : List UInt8) then (if t65 < 2 then (spec_StmtText.j0 k (a0_2.toList != ([] : List UInt8)) a0_0 a0_1 a0_2) else (spec_StmtText.j0 k false a0_0 a0_1 a0_2)) else (spec_StmtText.j0 k true a0_0 a0_1 a0_2)) else (if t65 < 2 then (spec_StmtText.j0 k (a0_2.toList != ([] : List UInt8)) a0_0 a0_1 a0_2) else (spec_StmtText.j0 k false a0_0 a0_1 a0_2))))))))
theorem spec_StmtText.mono_l : ∀ k, (∀ y0 y1 y2 y3, LeO (spec_StmtText.j0 k y0 y1 y2 y3) (spec_StmtText.j0 (k + 1) y0 y1 y2 y3))
 | 0 => fun _ _ _ _ r h => by simp [spec_StmtText.j0] at h
 | k + 1 => by
  have ih0 := spec_StmtText.mono_l k
  ·intro y0 y1 y2 y3; unfold spec_StmtText.j0; exact Lm3 ih0 spec_IsName.mono spec_NamesOf.mono
theorem spec_StmtText.mono : ∀ a0 a1 a2 k, LeO (spec_StmtText.f k a0 a1 a2) (spec_StmtText.f (k + 1) a0 a1 a2) := by
 intro a0 a1 a2 k
 have ih0 := spec_StmtText.mono_l k
 unfold spec_StmtText.f
 exact Lm3 ih0 spec_IsName.mono spec_NamesOf.mono
theorem spec_StmtText.calls (k : Nat) (a0_0 : Int) (a0_1 : ByteArray) (a0_2 : ByteArray) (r : ByteArray) (w : World) (h : spec_StmtText.f k a0_0 a0_1 a0_2 = some r) :
  Calls Tryz.prog 31 #[.agg #[.int .i64 a0_0, .string a0_1, .string a0_2]] w fun e w' => e = .returned (.string r) ∧ Below w.heap.size w w' := by
 have hu50 := Tryz.underlying50
 have HB := Qa (Below.refl w.heap.size w)
 have H : ((spec_NamesOf.f k a0_0).bind fun t65 => (if t65 < 0 then (spec_StmtText.j0 k true a0_0 a0_1 a0_2) else ((spec_IsName.f k a0_1).bind fun t67 => (if ((decide (t65 > 0)) != t67) = true then (spec_StmtText.j0 k true a0_0 a0_1 a0_2) else ((spec_IsName.f k a0_2).bind fun t68 => (if ((decide (t65 > 1)) != t68) = true then (spec_StmtText.j0 k true a0_0 a0_1 a0_2) else (if t65 < 1 then (if a0_1.toList = ([] : List UInt8) then (if t65 < 2 then (spec_StmtText.j0 k (a0_2.toList != ([] : List UInt8)) a0_0 a0_1 a0_2) else (spec_StmtText.j0 k false a0_0 a0_1 a0_2)) else (spec_StmtText.j0 k true a0_0 a0_1 a0_2)) else (if t65 < 2 then (spec_StmtText.j0 k (a0_2.toList != ([] : List UInt8)) a0_0 a0_1 a0_2) else (spec_StmtText.j0 k false a0_0 a0_1 a0_2))))))))) = some r := h
 clear h
 obtain ⟨t65, A2, H⟩ := Ob H
 (try dsimp only at H)
 have HC3 := Qa H
 clear H
 go_enter Tryz.func31, Tryz.ntmps31
 go_upto_region 2 with (first | ((with_reducible refine gate_dst (N := 1) rfl ?_); refine Bx (N := 1) (cs := #[.int .i64 a0_0, .string a0_1, .string a0_2]) (t := 50) ?_; intro gb63 hg w4 hbox hb; have BK63 := Qa (hbox); have GW63 := Gs (w := w) hg (Bb0 HB.out); have GE63 := GW63; replace HB := Sb (Bb0 HB.out) hb; clear hb hbox hg; obtain ⟨q5_0, q5_1, q5_2, u5_0, u5_1, u5_2⟩ := Cf3 BK63) | ((with_reducible refine gate_callee (f := 68) rfl ?_); refine Gl 6 Tryz.func68 #[.int .i64 a0_0] ?_; (with_reducible refine (spec_NamesOf.calls k a0_0 t65 _ A2.out).mono ?_); rintro e w' ⟨rfl, ⟨nd, rfl⟩⟩; refine ⟨_, rfl, ?_⟩))
 (try simp only [Act.put, List.setIfInBounds_toArray, List.set_cons_zero, List.set_cons_succ])
 go_cut [42] (fun v42 wc => ∃ (kq : Nat) (x42_2 : Bool), v42 = .bool x42_2 ∧ Aside0 (spec_StmtText.j0 kq x42_2 a0_0 a0_1 a0_2 = some r) ∧ Aside0 (kq ≤ k) ∧ Aside0 (wc.heap[gb63]? = some (.cells #[.int .i64 a0_0, .string a0_1, .string a0_2] 50 (0, 0))) ∧ Aside0 (Below w.heap.size w wc))
 case first =>
  have H := HC3.out; clear HC3; by_cases c6 : t65 < 0
  ·rw [if_pos c6] at H; replace c6 := decide_eq_true c6; (first | rw [c6] | (simp only [i64_w, i32_w]; rw [c6]) | skip)
   have H' := Qa H; clear H; go_wp2; go_meet
   case rel => exact ⟨_, (true), Zf, H', ⟨by first | omega | exact Nat.le_refl _⟩, ⟨Ba BK63.out⟩, ⟨Bb1 HB.out GE63.out⟩⟩
  ·rw [if_neg c6] at H; replace c6 := decide_eq_false c6; (first | rw [c6] | (simp only [i64_w, i32_w]; rw [c6]) | skip)
   obtain ⟨t67, A7, H⟩ := Ob H; (try dsimp only at H)
   by_cases c8 : ((decide (t65 > 0)) != t67) = true
   ·rw [if_pos c8] at H; have c8b0 : ((decide (t65 > 0)) != t67) = true := c8; (try (have c8b1 : decide ((decide (t65 > 0)) = t67) = false := by simpa using c8))
    (try (have c8b2 : ((decide (t65 > 0)) == t67) = false := by simpa using c8))
    (try (have c8b3 : ¬ ((decide (t65 > 0)) = t67) := by simpa using c8))
    clear c8; have H' := Qa H; clear H; obtain ⟨q9_0, q9_1, q9_2, u9_0, u9_1, u9_2⟩ := Cf3 BK63; go_wp2_with (first | (go_at_call 69; (with_reducible refine (spec_IsName.calls k a0_1 t67 _ A7.out).mono ?_); rintro e w' ⟨rfl, ⟨nd, rfl⟩⟩)); go_meet
    case rel => exact ⟨_, (true), Zf, H', ⟨by first | omega | exact Nat.le_refl _⟩, ⟨Ba BK63.out⟩, ⟨Bb1 HB.out GE63.out⟩⟩
   ·rw [if_neg c8] at H; have c8b0 : ((decide (t65 > 0)) != t67) = false := by simpa using c8
    (try (have c8b1 : decide ((decide (t65 > 0)) = t67) = true := by simpa using c8))
    (try (have c8b2 : ((decide (t65 > 0)) == t67) = true := by simpa using c8))
    clear c8; obtain ⟨t68, A10, H⟩ := Ob H; (try dsimp only at H)
    by_cases c11 : ((decide (t65 > 1)) != t68) = true
    ·rw [if_pos c11] at H; have c11b0 : ((decide (t65 > 1)) != t68) = true := c11; (try (have c11b1 : decide ((decide (t65 > 1)) = t68) = false := by simpa using c11))
     (try (have c11b2 : ((decide (t65 > 1)) == t68) = false := by simpa using c11))
     (try (have c11b3 : ¬ ((decide (t65 > 1)) = t68) := by simpa using c11))
     clear c11; have H' := Qa H; clear H; obtain ⟨q12_0, q12_1, q12_2, u12_0, u12_1, u12_2⟩ := Cf3 BK63; go_wp2_with (first | (go_at_call 69; (with_reducible refine (spec_IsName.calls k a0_1 t67 _ A7.out).mono ?_); rintro e w' ⟨rfl, ⟨nd, rfl⟩⟩) | (go_at_call 69; (with_reducible refine (spec_IsName.calls k a0_2 t68 _ A10.out).mono ?_); rintro e w' ⟨rfl, ⟨nd, rfl⟩⟩)); go_meet
     case rel => exact ⟨_, (true), Zf, H', ⟨by first | omega | exact Nat.le_refl _⟩, ⟨Ba BK63.out⟩, ⟨Bb1 HB.out GE63.out⟩⟩
    ·rw [if_neg c11] at H; have c11b0 : ((decide (t65 > 1)) != t68) = false := by simpa using c11
     (try (have c11b1 : decide ((decide (t65 > 1)) = t68) = true := by simpa using c11))
     (try (have c11b2 : ((decide (t65 > 1)) == t68) = true := by simpa using c11))
     clear c11; by_cases c13 : t65 < 1
     ·rw [if_pos c13] at H; replace c13 := decide_eq_true c13; by_cases c14 : a0_1.toList = ([] : List UInt8)
      ·rw [if_pos c14] at H; have c14b0 := beq_iff_eq.mpr c14; have c14b1 := bne_eq_false_iff_eq.mpr c14; clear c14; by_cases c15 : t65 < 2
       ·rw [if_pos c15] at H; replace c15 := decide_eq_true c15; have H' := Qa H; clear H; obtain ⟨q16_0, q16_1, q16_2, u16_0, u16_1, u16_2⟩ := Cf3 BK63; go_wp2_with (first | (go_at_call 69; (with_reducible refine (spec_IsName.calls k a0_1 t67 _ A7.out).mono ?_); rintro e w' ⟨rfl, ⟨nd, rfl⟩⟩) | (go_at_call 69; (with_reducible refine (spec_IsName.calls k a0_2 t68 _ A10.out).mono ?_); rintro e w' ⟨rfl, ⟨nd, rfl⟩⟩)); go_meet
        case rel => exact ⟨_, ((a0_2.toList != ([] : List UInt8))), Zf, H', ⟨by first | omega | exact Nat.le_refl _⟩, ⟨Ba BK63.out⟩, ⟨Bb1 HB.out GE63.out⟩⟩
       ·rw [if_neg c15] at H; replace c15 := decide_eq_false c15; have H' := Qa H; clear H; obtain ⟨q17_0, q17_1, q17_2, u17_0, u17_1, u17_2⟩ := Cf3 BK63; go_wp2_with (first | (go_at_call 69; (with_reducible refine (spec_IsName.calls k a0_1 t67 _ A7.out).mono ?_); rintro e w' ⟨rfl, ⟨nd, rfl⟩⟩) | (go_at_call 69; (with_reducible refine (spec_IsName.calls k a0_2 t68 _ A10.out).mono ?_); rintro e w' ⟨rfl, ⟨nd, rfl⟩⟩)); go_meet
        case rel => exact ⟨_, (false), Zf, H', ⟨by first | omega | exact Nat.le_refl _⟩, ⟨Ba BK63.out⟩, ⟨Bb1 HB.out GE63.out⟩⟩
      ·rw [if_neg c14] at H; have c14b0 := beq_eq_false_iff_ne.mpr c14; have c14b1 := bne_iff_ne.mpr c14; have H' := Qa H; clear H; obtain ⟨q18_0, q18_1, q18_2, u18_0, u18_1, u18_2⟩ := Cf3 BK63; go_wp2_with (first | (go_at_call 69; (with_reducible refine (spec_IsName.calls k a0_1 t67 _ A7.out).mono ?_); rintro e w' ⟨rfl, ⟨nd, rfl⟩⟩) | (go_at_call 69; (with_reducible refine (spec_IsName.calls k a0_2 t68 _ A10.out).mono ?_); rintro e w' ⟨rfl, ⟨nd, rfl⟩⟩)); go_meet
       case rel => exact ⟨_, (true), Zf, H', ⟨by first | omega | exact Nat.le_refl _⟩, ⟨Ba BK63.out⟩, ⟨Bb1 HB.out GE63.out⟩⟩
     ·rw [if_neg c13] at H; replace c13 := decide_eq_false c13; by_cases c19 : t65 < 2
      ·rw [if_pos c19] at H; replace c19 := decide_eq_true c19; have H' := Qa H; clear H; obtain ⟨q20_0, q20_1, q20_2, u20_0, u20_1, u20_2⟩ := Cf3 BK63; go_wp2_with (first | (go_at_call 69; (with_reducible refine (spec_IsName.calls k a0_1 t67 _ A7.out).mono ?_); rintro e w' ⟨rfl, ⟨nd, rfl⟩⟩) | (go_at_call 69; (with_reducible refine (spec_IsName.calls k a0_2 t68 _ A10.out).mono ?_); rintro e w' ⟨rfl, ⟨nd, rfl⟩⟩)); go_meet
       case rel => exact ⟨_, ((a0_2.toList != ([] : List UInt8))), Zf, H', ⟨by first | omega | exact Nat.le_refl _⟩, ⟨Ba BK63.out⟩, ⟨Bb1 HB.out GE63.out⟩⟩
      ·rw [if_neg c19] at H; replace c19 := decide_eq_false c19; have H' := Qa H; clear H; obtain ⟨q21_0, q21_1, q21_2, u21_0, u21_1, u21_2⟩ := Cf3 BK63; go_wp2_with (first | (go_at_call 69; (with_reducible refine (spec_IsName.calls k a0_1 t67 _ A7.out).mono ?_); rintro e w' ⟨rfl, ⟨nd, rfl⟩⟩) | (go_at_call 69; (with_reducible refine (spec_IsName.calls k a0_2 t68 _ A10.out).mono ?_); rintro e w' ⟨rfl, ⟨nd, rfl⟩⟩)); go_meet
       case rel => exact ⟨_, (false), Zf, H', ⟨by first | omega | exact Nat.le_refl _⟩, ⟨Ba BK63.out⟩, ⟨Bb1 HB.out GE63.out⟩⟩
 case rest =>
  clear HC3; (try clear c1)
  (try clear p2)
  (try clear c3)
  (try clear c6)
  (try clear c6)
  (try clear c8)
  (try clear c8b0)
  (try clear c8b1)
  (try clear c8b2)
  (try clear c11)
  (try clear c11b0)
  (try clear c11b1)
  (try clear c11b2)
  (try clear c13)
  (try clear c13)
  (try clear c14)
  (try clear c14b0)
  (try clear c14b1)
  (try clear c15)
  (try clear c15)
  (try clear c19)
  (try clear c19)
  (try clear q12_0)
  (try clear q12_1)
  (try clear q12_2)
  (try clear q16_0)
  (try clear q16_1)
  (try clear q16_2)
  (try clear q17_0)
  (try clear q17_1)
  (try clear q17_2)
  (try clear q18_0)
  (try clear q18_1)
  (try clear q18_2)
  (try clear q20_0)
  (try clear q20_1)
  (try clear q20_2)
  (try clear q21_0)
  (try clear q21_1)
  (try clear q21_2)
  (try clear q5_0)
  (try clear q5_1)
  (try clear q5_2)
  (try clear q9_0)
  (try clear q9_1)
  (try clear q9_2)
  (try clear u12_0)
  (try clear u12_1)
  (try clear u12_2)
  (try clear u16_0)
  (try clear u16_1)
  (try clear u16_2)
  (try clear u17_0)
  (try clear u17_1)
  (try clear u17_2)
  (try clear u18_0)
  (try clear u18_1)
  (try clear u18_2)
  (try clear u20_0)
  (try clear u20_1)
  (try clear u20_2)
  (try clear u21_0)
  (try clear u21_1)
  (try clear u21_2)
  (try clear u5_0)
  (try clear u5_1)
  (try clear u5_2)
  (try clear u9_0)
  (try clear u9_1)
  (try clear u9_2)
  obtain ⟨kq, x42_2, rfl, HA, HJ2, BK63, HB⟩ := hcut; cases kq with
  | zero => exact absurd HA.out (by simp [spec_StmtText.j0])
  | succ kj2 =>
   have H := HA.out; clear HA; simp only [spec_StmtText.j0] at H; by_cases c22 : x42_2 = true
   ·subst c22; rw [if_pos rfl] at H; obtain rfl := Option.some.inj H; go_wp2; go_ret; exact ⟨Ze, Bb1 HB.out GE63.out⟩
   ·replace c22 := Bool.eq_false_iff.mpr c22; subst c22; rw [if_neg (show ¬ (false = true) by decide)] at H; by_cases c23 : a0_0 = 1
    ·rw [if_pos c23] at H; have c23b0 := beq_iff_eq.mpr c23; have c23b1 := bne_eq_false_iff_eq.mpr c23; clear c23; obtain rfl := Option.some.inj H; obtain ⟨q24_0, q24_1, q24_2, u24_0, u24_1, u24_2⟩ := Cf3 BK63; go_wp2; go_ret; exact ⟨Ze, Bb1 HB.out GE63.out⟩
    ·rw [if_neg c23] at H; have c23b0 := beq_eq_false_iff_ne.mpr c23; have c23b1 := bne_iff_ne.mpr c23; by_cases c25 : a0_0 = 2
     ·rw [if_pos c25] at H; have c25b0 := beq_iff_eq.mpr c25; have c25b1 := bne_eq_false_iff_eq.mpr c25; clear c25; by_cases c26 : a0_1.size + 5 ≤ 9223372036854775807
      ·rw [if_pos c26] at H; have c26b0 := eq_true c26; have c26b1 := decide_eq_true c26; try have c26b2 : (9223372036854775807 < a0_1.size + 5) = False := eq_false (Nat.not_lt.2 c26)
       obtain rfl := Option.some.inj H; obtain ⟨q27_0, q27_1, q27_2, u27_0, u27_1, u27_2⟩ := Cf3 BK63; go_wp2; go_ret; exact ⟨Ze, Bb1 HB.out GE63.out⟩
      ·rw [if_neg c26] at H; exact absurd H (by simp)
     ·rw [if_neg c25] at H; have c25b0 := beq_eq_false_iff_ne.mpr c25; have c25b1 := bne_iff_ne.mpr c25; by_cases c28 : a0_0 = 3
      ·rw [if_pos c28] at H; have c28b0 := beq_iff_eq.mpr c28; have c28b1 := bne_eq_false_iff_eq.mpr c28; clear c28; by_cases c29 : a0_1.size + 4 ≤ 9223372036854775807
       ·rw [if_pos c29] at H; have c29b0 := eq_true c29; have c29b1 := decide_eq_true c29; try have c29b2 : (9223372036854775807 < a0_1.size + 4) = False := eq_false (Nat.not_lt.2 c29)
        obtain rfl := Option.some.inj H; obtain ⟨q30_0, q30_1, q30_2, u30_0, u30_1, u30_2⟩ := Cf3 BK63; go_wp2; go_ret; exact ⟨Ze, Bb1 HB.out GE63.out⟩
       ·rw [if_neg c29] at H; exact absurd H (by simp)
      ·rw [if_neg c28] at H; have c28b0 := beq_eq_false_iff_ne.mpr c28; have c28b1 := bne_iff_ne.mpr c28; by_cases c31 : a0_0 = 4
       ·rw [if_pos c31] at H; have c31b0 := beq_iff_eq.mpr c31; have c31b1 := bne_eq_false_iff_eq.mpr c31; clear c31; by_cases c32 : a0_1.size + 1 ≤ 9223372036854775807
        ·rw [if_pos c32] at H; have c32b0 := eq_true c32; have c32b1 := decide_eq_true c32; try have c32b2 : (9223372036854775807 < a0_1.size + 1) = False := eq_false (Nat.not_lt.2 c32)
         by_cases c33 : (a0_1 ++ (⟨#[61]⟩ : ByteArray)).size + a0_2.size ≤ 9223372036854775807
         ·rw [if_pos c33] at H; have c33b0 := eq_true c33; have c33b1 := decide_eq_true c33; try have c33b2 : (9223372036854775807 < (a0_1 ++ (⟨#[61]⟩ : ByteArray)).size + a0_2.size) = False := eq_false (Nat.not_lt.2 c33)
          try have c33b3 : (9223372036854775807 < a0_1.size + 1 + a0_2.size) = False := eq_false (Nat.not_lt.2 (by have h_ := c33; simp only [ByteArray.size_append] at h_; exact h_))
          obtain rfl := Option.some.inj H; obtain ⟨q34_0, q34_1, q34_2, u34_0, u34_1, u34_2⟩ := Cf3 BK63; go_wp2; go_ret; exact ⟨Ze, Bb1 HB.out GE63.out⟩
         ·rw [if_neg c33] at H; exact absurd H (by simp)
        ·rw [if_neg c32] at H; exact absurd H (by simp)
       ·rw [if_neg c31] at H; have c31b0 := beq_eq_false_iff_ne.mpr c31; have c31b1 := bne_iff_ne.mpr c31; by_cases c35 : a0_0 = 5
        ·rw [if_pos c35] at H; have c35b0 := beq_iff_eq.mpr c35; have c35b1 := bne_eq_false_iff_eq.mpr c35; clear c35; by_cases c36 : a0_1.size + 1 ≤ 9223372036854775807
         ·rw [if_pos c36] at H; have c36b0 := eq_true c36; have c36b1 := decide_eq_true c36; try have c36b2 : (9223372036854775807 < a0_1.size + 1) = False := eq_false (Nat.not_lt.2 c36)
          by_cases c37 : (a0_1 ++ (⟨#[61]⟩ : ByteArray)).size + a0_2.size ≤ 9223372036854775807
          ·rw [if_pos c37] at H; have c37b0 := eq_true c37; have c37b1 := decide_eq_true c37; try have c37b2 : (9223372036854775807 < (a0_1 ++ (⟨#[61]⟩ : ByteArray)).size + a0_2.size) = False := eq_false (Nat.not_lt.2 c37)
           try have c37b3 : (9223372036854775807 < a0_1.size + 1 + a0_2.size) = False := eq_false (Nat.not_lt.2 (by have h_ := c37; simp only [ByteArray.size_append] at h_; exact h_))
           by_cases c38 : ((a0_1 ++ (⟨#[61]⟩ : ByteArray)) ++ a0_2).size + 2 ≤ 9223372036854775807
           ·rw [if_pos c38] at H; have c38b0 := eq_true c38; have c38b1 := decide_eq_true c38; try have c38b2 : (9223372036854775807 < ((a0_1 ++ (⟨#[61]⟩ : ByteArray)) ++ a0_2).size + 2) = False := eq_false (Nat.not_lt.2 c38)
            try have c38b3 : (9223372036854775807 < a0_1.size + 1 + a0_2.size + 2) = False := eq_false (Nat.not_lt.2 (by have h_ := c38; simp only [ByteArray.size_append] at h_; exact h_))
            obtain rfl := Option.some.inj H; obtain ⟨q39_0, q39_1, q39_2, u39_0, u39_1, u39_2⟩ := Cf3 BK63; go_wp2; go_ret; exact ⟨Ze, Bb1 HB.out GE63.out⟩
           ·rw [if_neg c38] at H; exact absurd H (by simp)
          ·rw [if_neg c37] at H; exact absurd H (by simp)
         ·rw [if_neg c36] at H; exact absurd H (by simp)
        ·rw [if_neg c35] at H; have c35b0 := beq_eq_false_iff_ne.mpr c35; have c35b1 := bne_iff_ne.mpr c35; by_cases c40 : a0_0 = 6
         ·rw [if_pos c40] at H; have c40b0 := beq_iff_eq.mpr c40; have c40b1 := bne_eq_false_iff_eq.mpr c40; clear c40; by_cases c41 : a0_1.size + 7 ≤ 9223372036854775807
          ·rw [if_pos c41] at H; have c41b0 := eq_true c41; have c41b1 := decide_eq_true c41; try have c41b2 : (9223372036854775807 < a0_1.size + 7) = False := eq_false (Nat.not_lt.2 c41)
           obtain rfl := Option.some.inj H; obtain ⟨q42_0, q42_1, q42_2, u42_0, u42_1, u42_2⟩ := Cf3 BK63; go_wp2; go_ret; exact ⟨Ze, Bb1 HB.out GE63.out⟩
          ·rw [if_neg c41] at H; exact absurd H (by simp)
         ·rw [if_neg c40] at H; have c40b0 := beq_eq_false_iff_ne.mpr c40; have c40b1 := bne_iff_ne.mpr c40; by_cases c43 : a0_0 = 7
          ·rw [if_pos c43] at H; have c43b0 := beq_iff_eq.mpr c43; have c43b1 := bne_eq_false_iff_eq.mpr c43; clear c43; by_cases c44 : a0_1.size + 3 ≤ 9223372036854775807
           ·rw [if_pos c44] at H; have c44b0 := eq_true c44; have c44b1 := decide_eq_true c44; try have c44b2 : (9223372036854775807 < a0_1.size + 3) = False := eq_false (Nat.not_lt.2 c44)
            by_cases c45 : (a0_1 ++ (⟨#[46, 110, 61]⟩ : ByteArray)).size + a0_2.size ≤ 9223372036854775807
            ·rw [if_pos c45] at H; have c45b0 := eq_true c45; have c45b1 := decide_eq_true c45; try have c45b2 : (9223372036854775807 < (a0_1 ++ (⟨#[46, 110, 61]⟩ : ByteArray)).size + a0_2.size) = False := eq_false (Nat.not_lt.2 c45)
             try have c45b3 : (9223372036854775807 < a0_1.size + 3 + a0_2.size) = False := eq_false (Nat.not_lt.2 (by have h_ := c45; simp only [ByteArray.size_append] at h_; exact h_))
             obtain rfl := Option.some.inj H; obtain ⟨q46_0, q46_1, q46_2, u46_0, u46_1, u46_2⟩ := Cf3 BK63; go_wp2; go_ret; exact ⟨Ze, Bb1 HB.out GE63.out⟩
            ·rw [if_neg c45] at H; exact absurd H (by simp)
           ·rw [if_neg c44] at H; exact absurd H (by simp)
          ·rw [if_neg c43] at H; have c43b0 := beq_eq_false_iff_ne.mpr c43; have c43b1 := bne_iff_ne.mpr c43; by_cases c47 : a0_0 = 8
           ·rw [if_pos c47] at H; have c47b0 := beq_iff_eq.mpr c47; have c47b1 := bne_eq_false_iff_eq.mpr c47; clear c47; by_cases c48 : 5 + a0_1.size ≤ 9223372036854775807
            ·rw [if_pos c48] at H; have c48b0 := eq_true c48; have c48b1 := decide_eq_true c48; try have c48b2 : (9223372036854775807 < 5 + a0_1.size) = False := eq_false (Nat.not_lt.2 c48)
             obtain rfl := Option.some.inj H; obtain ⟨q49_0, q49_1, q49_2, u49_0, u49_1, u49_2⟩ := Cf3 BK63; go_wp2; go_ret; exact ⟨Ze, Bb1 HB.out GE63.out⟩
            ·rw [if_neg c48] at H; exact absurd H (by simp)
           ·rw [if_neg c47] at H; have c47b0 := beq_eq_false_iff_ne.mpr c47; have c47b1 := bne_iff_ne.mpr c47; by_cases c50 : a0_0 = 9
            ·rw [if_pos c50] at H; have c50b0 := beq_iff_eq.mpr c50; have c50b1 := bne_eq_false_iff_eq.mpr c50; clear c50; by_cases c51 : a0_1.size + 6 ≤ 9223372036854775807
             ·rw [if_pos c51] at H; have c51b0 := eq_true c51; have c51b1 := decide_eq_true c51; try have c51b2 : (9223372036854775807 < a0_1.size + 6) = False := eq_false (Nat.not_lt.2 c51)
              obtain rfl := Option.some.inj H; obtain ⟨q52_0, q52_1, q52_2, u52_0, u52_1, u52_2⟩ := Cf3 BK63; go_wp2; go_ret; exact ⟨Ze, Bb1 HB.out GE63.out⟩
             ·rw [if_neg c51] at H; exact absurd H (by simp)
            ·rw [if_neg c50] at H; have c50b0 := beq_eq_false_iff_ne.mpr c50; have c50b1 := bne_iff_ne.mpr c50; by_cases c53 : a0_0 = 10
             ·rw [if_pos c53] at H; have c53b0 := beq_iff_eq.mpr c53; have c53b1 := bne_eq_false_iff_eq.mpr c53; clear c53; by_cases c54 : a0_1.size + 6 ≤ 9223372036854775807
              ·rw [if_pos c54] at H; have c54b0 := eq_true c54; have c54b1 := decide_eq_true c54; try have c54b2 : (9223372036854775807 < a0_1.size + 6) = False := eq_false (Nat.not_lt.2 c54)
               obtain rfl := Option.some.inj H; obtain ⟨q55_0, q55_1, q55_2, u55_0, u55_1, u55_2⟩ := Cf3 BK63; go_wp2; go_ret; exact ⟨Ze, Bb1 HB.out GE63.out⟩
              ·rw [if_neg c54] at H; exact absurd H (by simp)
             ·rw [if_neg c53] at H; have c53b0 := beq_eq_false_iff_ne.mpr c53; have c53b1 := bne_iff_ne.mpr c53; by_cases c56 : a0_0 = 11
              ·rw [if_pos c56] at H; have c56b0 := beq_iff_eq.mpr c56; have c56b1 := bne_eq_false_iff_eq.mpr c56; clear c56; by_cases c57 : a0_1.size + 2 ≤ 9223372036854775807
               ·rw [if_pos c57] at H; have c57b0 := eq_true c57; have c57b1 := decide_eq_true c57; try have c57b2 : (9223372036854775807 < a0_1.size + 2) = False := eq_false (Nat.not_lt.2 c57)
                by_cases c58 : (a0_1 ++ (⟨#[61, 61]⟩ : ByteArray)).size + a0_2.size ≤ 9223372036854775807
                ·rw [if_pos c58] at H; have c58b0 := eq_true c58; have c58b1 := decide_eq_true c58; try have c58b2 : (9223372036854775807 < (a0_1 ++ (⟨#[61, 61]⟩ : ByteArray)).size + a0_2.size) = False := eq_false (Nat.not_lt.2 c58)
                 try have c58b3 : (9223372036854775807 < a0_1.size + 2 + a0_2.size) = False := eq_false (Nat.not_lt.2 (by have h_ := c58; simp only [ByteArray.size_append] at h_; exact h_))
                 obtain rfl := Option.some.inj H; obtain ⟨q59_0, q59_1, q59_2, u59_0, u59_1, u59_2⟩ := Cf3 BK63; go_wp2; go_ret; exact ⟨Ze, Bb1 HB.out GE63.out⟩
                ·rw [if_neg c58] at H; exact absurd H (by simp)
               ·rw [if_neg c57] at H; exact absurd H (by simp)
              ·rw [if_neg c56] at H; have c56b0 := beq_eq_false_iff_ne.mpr c56; have c56b1 := bne_iff_ne.mpr c56; by_cases c60 : a0_1.size + 2 ≤ 9223372036854775807
               ·rw [if_pos c60] at H; have c60b0 := eq_true c60; have c60b1 := decide_eq_true c60; try have c60b2 : (9223372036854775807 < a0_1.size + 2) = False := eq_false (Nat.not_lt.2 c60)
                by_cases c61 : (a0_1 ++ (⟨#[33, 61]⟩ : ByteArray)).size + a0_2.size ≤ 9223372036854775807
                ·rw [if_pos c61] at H; have c61b0 := eq_true c61; have c61b1 := decide_eq_true c61; try have c61b2 : (9223372036854775807 < (a0_1 ++ (⟨#[33, 61]⟩ : ByteArray)).size + a0_2.size) = False := eq_false (Nat.not_lt.2 c61)
                 try have c61b3 : (9223372036854775807 < a0_1.size + 2 + a0_2.size) = False := eq_false (Nat.not_lt.2 (by have h_ := c61; simp only [ByteArray.size_append] at h_; exact h_))
                 obtain rfl := Option.some.inj H; obtain ⟨q62_0, q62_1, q62_2, u62_0, u62_1, u62_2⟩ := Cf3 BK63; go_wp2; go_ret; exact ⟨Ze, Bb1 HB.out GE63.out⟩
                ·rw [if_neg c61] at H; exact absurd H (by simp)
               ·rw [if_neg c60] at H; exact absurd H (by simp)
end Go.Proofs.YtndkkpjofddfjaaGreatDoor.PFnExactParseProgram
