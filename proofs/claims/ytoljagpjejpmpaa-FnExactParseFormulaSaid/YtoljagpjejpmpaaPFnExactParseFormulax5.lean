/- A part of the walk through the printed functions; no condition. -/
import Derived.Test.YtoljagpjejpmpaaXAuto
import Derived.Test.YtoljagpjejpmpaaPFnExactParseFormulax0
import Derived.Test.YtoljagpjejpmpaaPFnExactParseFormulax1
import Derived.Test.YtoljagpjejpmpaaPFnExactParseFormulax4
namespace Go.Proofs.Ytoljagpjejpmpaa.PFnExactParseFormula
open Go.RowKit Go.Proofs.YtoljagpjejpmpaaW.PrintWords Go.Proofs.YtoljagpjejpmpaaW.PrintLast Go.Proofs.YtoljagpjejpmpaaW.PrintMore
attribute [local go_sem] max2_int min2_int max_two min_two max_three min_three max_four min_four
set_option maxHeartbeats 32000000
set_option maxRecDepth 100000
attribute [local irreducible] Go.World.setCell
set_option linter.unusedVariables false
set_option linter.unusedSimpArgs false
open Go.Proofs.YtoljagpjejpmpaaW.PrintWords.Aside0 renaming mk → Qa
open Go.Proofs.YtoljagpjejpmpaaW.PrintWords renaming blk_cell → Qd, Aside0 → Qf
open Go.Proofs.YtoljagpjejpmpaaW.PrintWords.Kd renaming C_below → Ql
open Go.Addr renaming add_zero' → Qr
mutual
def impl_Formula_text.j0 : Nat → List ByteArray → ByteArray → Int → Bool → Int → Int → Int → Int → List (S32) → Option (ByteArray)
 | 0, _, _, _, _, _, _, _, _, _ => none
 | k + 1, x1, x5, x11, x12, x94, x84, x87, x89, x78 => if x12 = true then (if 0 ≤ x84 then (if x84 < (x1.length : Int) then (if x5.size + (rdOf ByteArray.empty x1 x84).size ≤ 9223372036854775807 then (if (x5 ++ (rdOf ByteArray.empty x1 x84)).size + 1 ≤ 9223372036854775807 then ((impl_logicName.f x87).bind fun t90 => (if ((x5 ++ (rdOf ByteArray.empty x1 x84)) ++ (⟨#[58]⟩ : ByteArray)).size + t90.size ≤ 9223372036854775807 then (some (((x5 ++ (rdOf ByteArray.empty x1 x84)) ++ (⟨#[58]⟩ : ByteArray)) ++ t90)) else (none))) else (none)) else (none)) else (none)) else (none)) else (if x11 = 4 then ((impl_logicName.f x87).bind fun t95 => (if x5.size + t95.size ≤ 9223372036854775807 then (some (x5 ++ t95)) else (none))) else (if x11 = 5 then (impl_Formula_text.j1 k x1 x5 x11 (x11 == 5) x94 x84 x87 x89 x78) else (if x11 = 6 then (impl_Formula_text.j1 k x1 x5 x11 (x11 == 6) x94 x84 x87 x89 x78) else (impl_Formula_text.j1 k x1 x5 x11 (x11 == 7) x94 x84 x87 x89 x78))))
def impl_Formula_text.j1 : Nat → List ByteArray → ByteArray → Int → Bool → Int → Int → Int → Int → List (S32) → Option (ByteArray)
 | 0, _, _, _, _, _, _, _, _, _ => none
 | k + 1, x1, x5, x11, x34, x94, x84, x87, x89, x78 => if x34 = true then ((impl_logicName.f x87).bind fun t88 => (if x5.size + t88.size ≤ 9223372036854775807 then ((impl_logicName.f x89).bind fun t91 => (if (x5 ++ t88).size + t91.size ≤ 9223372036854775807 then (some ((x5 ++ t88) ++ t91)) else (none))) else (none))) else (if x11 = 8 then (if 0 < (x78.length : Int) then ((impl_Formula_text.f k ((rd_T32 x78 0).f0) ((rd_T32 x78 0).f1) ((rd_T32 x78 0).f2) ((rd_T32 x78 0).f3) ((rd_T32 x78 0).f4) x1).bind fun t96 => (if 1 + t96.size ≤ 9223372036854775807 then (some ((⟨#[33]⟩ : ByteArray) ++ t96)) else (none))) else (none)) else (if x11 = 9 then (if 0 < (x78.length : Int) then ((impl_Formula_text.f k ((rd_T32 x78 0).f0) ((rd_T32 x78 0).f1) ((rd_T32 x78 0).f2) ((rd_T32 x78 0).f3) ((rd_T32 x78 0).f4) x1).bind fun t80 => (if 1 + t80.size ≤ 9223372036854775807 then (if ((⟨#[40]⟩ : ByteArray) ++ t80).size + 1 ≤ 9223372036854775807 then (if 1 < (x78.length : Int) then ((impl_Formula_text.f k ((rd_T32 x78 1).f0) ((rd_T32 x78 1).f1) ((rd_T32 x78 1).f2) ((rd_T32 x78 1).f3) ((rd_T32 x78 1).f4) x1).bind fun t85 => (if (((⟨#[40]⟩ : ByteArray) ++ t80) ++ (⟨#[38]⟩ : ByteArray)).size + t85.size ≤ 9223372036854775807 then (if ((((⟨#[40]⟩ : ByteArray) ++ t80) ++ (⟨#[38]⟩ : ByteArray)) ++ t85).size + 1 ≤ 9223372036854775807 then (some (((((⟨#[40]⟩ : ByteArray) ++ t80) ++ (⟨#[38]⟩ : ByteArray)) ++ t85) ++ (⟨#[41]⟩ : ByteArray))) else (none)) else (none))) else (none)) else (none)) else (none))) else (none)) else (if x11 = 10 then (if 0 < (x78.length : Int) then ((impl_Formula_text.f k ((rd_T32 x78 0).f0) ((rd_T32 x78 0).f1) ((rd_T32 x78 0).f2) ((rd_T32 x78 0).f3) ((rd_T32 x78 0).f4) x1).bind fun t81 => (if 1 + t81.size ≤ 9223372036854775807 then (if ((⟨#[40]⟩ : ByteArray) ++ t81).size + 1 ≤ 9223372036854775807 then (if 1 < (x78.length : Int) then ((impl_Formula_text.f k ((rd_T32 x78 1).f0) ((rd_T32 x78 1).f1) ((rd_T32 x78 1).f2) ((rd_T32 x78 1).f3) ((rd_T32 x78 1).f4) x1).bind fun t86 => (if (((⟨#[40]⟩ : ByteArray) ++ t81) ++ (⟨#[124]⟩ : ByteArray)).size + t86.size ≤ 9223372036854775807 then (if ((((⟨#[40]⟩ : ByteArray) ++ t81) ++ (⟨#[124]⟩ : ByteArray)) ++ t86).size + 1 ≤ 9223372036854775807 then (some (((((⟨#[40]⟩ : ByteArray) ++ t81) ++ (⟨#[124]⟩ : ByteArray)) ++ t86) ++ (⟨#[41]⟩ : ByteArray))) else (none)) else (none))) else (none)) else (none)) else (none))) else (none)) else (if x11 = 11 then (impl_Formula_text.j2 k x1 x5 (x11 == 11) x94 x84 x87 x89 x78) else (impl_Formula_text.j2 k x1 x5 (x11 == 12) x94 x84 x87 x89 x78)))))
def impl_Formula_text.j2 : Nat → List ByteArray → ByteArray → Bool → Int → Int → Int → Int → List (S32) → Option (ByteArray)
 | 0, _, _, _, _, _, _, _, _ => none
 | k + 1, x1, x5, x92, x94, x84, x87, x89, x78 => if x92 = true then ((impl_logicName.f x87).bind fun t83 => (if x5.size + t83.size ≤ 9223372036854775807 then (if (x5 ++ t83).size + 1 ≤ 9223372036854775807 then (if 0 < (x78.length : Int) then ((impl_Formula_text.f k ((rd_T32 x78 0).f0) ((rd_T32 x78 0).f1) ((rd_T32 x78 0).f2) ((rd_T32 x78 0).f3) ((rd_T32 x78 0).f4) x1).bind fun t93 => (if ((x5 ++ t83) ++ (⟨#[46]⟩ : ByteArray)).size + t93.size ≤ 9223372036854775807 then (some (((x5 ++ t83) ++ (⟨#[46]⟩ : ByteArray)) ++ t93)) else (none))) else (none)) else (none)) else (none))) else (some x5)
def impl_Formula_text.f : Nat → Int → Int → Int → Int → List (S32) → List ByteArray → Option (ByteArray)
 | 0, _, _, _, _, _, _ => none
 | k + 1, a0_0, a0_1, a0_2, a0_3, l0_4, l1 => (headOf.f a0_0).bind fun t79 => (if a0_0 = 2 then (impl_Formula_text.j0 k l1 t79 a0_0 (a0_0 == 2) a0_0 a0_1 a0_2 a0_3 l0_4) else (impl_Formula_text.j0 k l1 t79 a0_0 (a0_0 == 3) a0_0 a0_1 a0_2 a0_3 l0_4))
end
theorem impl_Formula_text.mono_l : ∀ k, (∀ y0 y1 y2 y3 y4 y5, LeO (impl_Formula_text.f k y0 y1 y2 y3 y4 y5) (impl_Formula_text.f (k + 1) y0 y1 y2 y3 y4 y5)) ∧ (∀ y0 y1 y2 y3 y4 y5 y6 y7 y8, LeO (impl_Formula_text.j0 k y0 y1 y2 y3 y4 y5 y6 y7 y8) (impl_Formula_text.j0 (k + 1) y0 y1 y2 y3 y4 y5 y6 y7 y8)) ∧ (∀ y0 y1 y2 y3 y4 y5 y6 y7 y8, LeO (impl_Formula_text.j1 k y0 y1 y2 y3 y4 y5 y6 y7 y8) (impl_Formula_text.j1 (k + 1) y0 y1 y2 y3 y4 y5 y6 y7 y8)) ∧ (∀ y0 y1 y2 y3 y4 y5 y6 y7, LeO (impl_Formula_text.j2 k y0 y1 y2 y3 y4 y5 y6 y7) (impl_Formula_text.j2 (k + 1) y0 y1 y2 y3 y4 y5 y6 y7))
 | 0 => ⟨fun _ _ _ _ _ _ r h => by simp [impl_Formula_text.f] at h, fun _ _ _ _ _ _ _ _ _ r h => by simp [impl_Formula_text.j0] at h, fun _ _ _ _ _ _ _ _ _ r h => by simp [impl_Formula_text.j1] at h, fun _ _ _ _ _ _ _ _ r h => by simp [impl_Formula_text.j2] at h⟩
 | k + 1 => by
  obtain ⟨ih0, ih1, ih2, ih3⟩ := impl_Formula_text.mono_l k; refine ⟨?_, ?_, ?_, ?_⟩
  ·intro y0 y1 y2 y3 y4 y5; unfold impl_Formula_text.f; exact Lm4 ih0 ih1 ih2 ih3
  ·intro y0 y1 y2 y3 y4 y5 y6 y7 y8; unfold impl_Formula_text.j0; exact Lm4 ih0 ih1 ih2 ih3
  ·intro y0 y1 y2 y3 y4 y5 y6 y7 y8; unfold impl_Formula_text.j1; exact Lm4 ih0 ih1 ih2 ih3
  ·intro y0 y1 y2 y3 y4 y5 y6 y7; unfold impl_Formula_text.j2; exact Lm4 ih0 ih1 ih2 ih3
theorem impl_Formula_text.mono : ∀ a0 a1 a2 a3 a4 a5 k, LeO (impl_Formula_text.f k a0 a1 a2 a3 a4 a5) (impl_Formula_text.f (k + 1) a0 a1 a2 a3 a4 a5) := by
 intro a0 a1 a2 a3 a4 a5 k
 obtain ⟨ih0, ih1, ih2, ih3⟩ := impl_Formula_text.mono_l k
 exact ih0 a0 a1 a2 a3 a4 a5
def impl_Formula_text.T5 : Bool × List (List Nat × List Nat) := (true, [([], []), ([], []), ([], []), ([2], [2]), ([1, 3], [1, 3]), ([4], [4]), ([0, 5], [0, 5]), ([6], [6]), ([], []), ([8], [8]), ([9], [9]), ([7, 10], [7, 10]), ([11, 10, 0, 1, 2, 3, 4, 5, 6, 7, 8, 9, 10, 11], [11])])
def impl_Formula_text.B5 : List Nat := [0, 0, 0, 4, 14, 30, 63, 127, 0, 256, 768, 2047, 4095]
theorem impl_Formula_text.tab5 : rtab .any (opsOf Try.f47 5) = impl_Formula_text.T5 := by kernel_rfl
theorem impl_Formula_text.bits5 : waitsOk impl_Formula_text.T5.2 impl_Formula_text.B5 = true := by kernel_rfl
def impl_Formula_text.T11 : Bool × List (List Nat × List Nat) := (true, [([], []), ([], []), ([1], [1]), ([2], [2]), ([0, 3], [0, 3]), ([], []), ([5], [5]), ([6, 3], [6]), ([4, 7], [4, 7]), ([8, 7, 0, 1, 2, 3, 4, 5, 6, 7, 8], [8])])
def impl_Formula_text.B11 : List Nat := [0, 0, 2, 6, 15, 0, 32, 110, 255, 511]
theorem impl_Formula_text.tab11 : rtab .any (opsOf Try.f47 11) = impl_Formula_text.T11 := by kernel_rfl
theorem impl_Formula_text.bits11 : waitsOk impl_Formula_text.T11.2 impl_Formula_text.B11 = true := by kernel_rfl
def impl_Formula_text.T15 : Bool × List (List Nat × List Nat) := (true, [([], []), ([0], [0]), ([1], [1]), ([2], [2]), ([], []), ([3, 4], [3, 4]), ([5], [5]), ([6], [6]), ([], []), ([8], [8]), ([9], [9]), ([10], [10]), ([], []), ([11, 12, 5], [11, 12]), ([7, 13], [7, 13]), ([14], [14]), ([15, 13, 0, 1, 2, 3, 4, 5, 6, 7, 8, 9, 10, 11, 12, 13, 14, 15], [15])])
def impl_Formula_text.B15 : List Nat := [0, 1, 3, 7, 0, 31, 63, 127, 0, 256, 768, 1792, 0, 7999, 16383, 32767, 65535]
theorem impl_Formula_text.tab15 : rtab .any (opsOf Try.f47 15) = impl_Formula_text.T15 := by kernel_rfl
theorem impl_Formula_text.bits15 : waitsOk impl_Formula_text.T15.2 impl_Formula_text.B15 = true := by kernel_rfl
def impl_Formula_text.T17 : Bool × List (List Nat × List Nat) := (true, [([], []), ([0], [0]), ([1], [1]), ([2], [2]), ([], []), ([3, 4], [3, 4]), ([5], [5]), ([6], [6]), ([], []), ([8], [8]), ([9], [9]), ([10], [10]), ([], []), ([11, 12, 5], [11, 12]), ([7, 13], [7, 13]), ([14], [14]), ([15, 13, 0, 1, 2, 3, 4, 5, 6, 7, 8, 9, 10, 11, 12, 13, 14, 15], [15])])
def impl_Formula_text.B17 : List Nat := [0, 1, 3, 7, 0, 31, 63, 127, 0, 256, 768, 1792, 0, 7999, 16383, 32767, 65535]
theorem impl_Formula_text.tab17 : rtab .any (opsOf Try.f47 17) = impl_Formula_text.T17 := by kernel_rfl
theorem impl_Formula_text.bits17 : waitsOk impl_Formula_text.T17.2 impl_Formula_text.B17 = true := by kernel_rfl
def impl_Formula_text.T20 : Bool × List (List Nat × List Nat) := (true, [([], []), ([], []), ([1], [1]), ([2], [2]), ([0, 3], [0, 3]), ([4], [4]), ([], []), ([6], [6]), ([7], [7]), ([8], [8]), ([], []), ([9, 10, 3], [9, 10]), ([5, 11], [5, 11]), ([12, 11, 0, 1, 2, 3, 4, 5, 6, 7, 8, 9, 10, 11, 12], [12])])
def impl_Formula_text.B20 : List Nat := [0, 0, 2, 6, 15, 31, 0, 64, 192, 448, 0, 1998, 4095, 8191]
theorem impl_Formula_text.tab20 : rtab .any (opsOf Try.f47 20) = impl_Formula_text.T20 := by kernel_rfl
theorem impl_Formula_text.bits20 : waitsOk impl_Formula_text.T20.2 impl_Formula_text.B20 = true := by kernel_rfl
theorem impl_Formula_text.calls (k : Nat) : ∀ (a0_0 : Int) (a0_1 : Int) (a0_2 : Int) (a0_3 : Int) (A0_4 : Option Addr) (c0_4 : Nat) (l0_4 : List (S32)) (A1 : Option Addr) (c1 : Nat) (l1 : List ByteArray) (r : ByteArray) (w : World) (hr0_4 : Kd.C k32 w A0_4 l0_4.length l0_4) (hc0_4 : l0_4.length ≤ c0_4) (hr1 : Kd.C Kd.string w A1 l1.length l1) (hc1 : l1.length ≤ c1) (h : impl_Formula_text.f k a0_0 a0_1 a0_2 a0_3 l0_4 l1 = some r),
  Calls Try.prog 47 #[.agg #[.int .i64 a0_0, .int .i64 a0_1, .int .i64 a0_2, .int .i64 a0_3, .slice A0_4 l0_4.length c0_4], .slice A1 l1.length c1] w fun e w' => e = .returned (.string r) ∧ Below w.heap.size w w' := by
 induction k using Nat.strongRecOn with
 | _ k ih =>
 intro a0_0 a0_1 a0_2 a0_3 A0_4 c0_4 l0_4 A1 c1 l1 r w hr0_4 hc0_4 hr1 hc1 h
 cases k with
 | zero => exact absurd h (by simp [impl_Formula_text.f])
 | succ k =>
 simp only [impl_Formula_text.f] at h
 have hu32 := Try.underlying32
 have HR0_4 := Qa hr0_4
 have HC0_4 := Qa hc0_4
 clear hr0_4 hc0_4
 have HR1 := Qa hr1
 have HC1 := Qa hc1
 clear hr1 hc1
 have HB := Qa (Below.refl w.heap.size w)
 have H : ((headOf.f a0_0).bind fun t79 => (if a0_0 = 2 then (impl_Formula_text.j0 k l1 t79 a0_0 (a0_0 == 2) a0_0 a0_1 a0_2 a0_3 l0_4) else (impl_Formula_text.j0 k l1 t79 a0_0 (a0_0 == 3) a0_0 a0_1 a0_2 a0_3 l0_4))) = some r := h
 clear h
 obtain ⟨t79, A3, H⟩ := Ob H
 (try dsimp only at H)
 have HC4 := Qa H
 clear H
 go_enter Try.func47, Try.ntmps47
 try go_wp2_with (first | ((with_reducible refine gate_dst (N := 2) rfl ?_); refine Bx (N := 2) (cs := #[.int .i64 a0_0, .int .i64 a0_1, .int .i64 a0_2, .int .i64 a0_3, .slice A0_4 l0_4.length c0_4]) (t := 32) ?_; intro gb71 hg w5 hbox hb; have BK71 := Qa (hbox); have GW71 := Gs (w := w) hg (Bb0 HB.out); have GE71 := GW71; replace HB := Sb (Bb0 HB.out) hb; clear hb hbox hg))
 replace BK71 := Db BK71
 replace HB := Qa (below_drew1 HB.out)
 refine start_ (n := 5) (S := fun w' => w'.cell? ⟨gb71, 0, none⟩ = some (.int .i64 a0_0) ∧ w'.cell? ⟨gb71, 1, none⟩ = some (.int .i64 a0_1) ∧ w'.cell? ⟨gb71, 2, none⟩ = some (.int .i64 a0_2) ∧ w'.cell? ⟨gb71, 3, none⟩ = some (.int .i64 a0_3) ∧ w'.cell? ⟨gb71, 4, none⟩ = some (.slice A0_4 l0_4.length c0_4)) (ds := []) #[false, false, false, false, false] (by kernel_rfl) rfl rfl (Ce5 BK71) (fun hHeld => ?_)
 generalize w5.drew = w6 at BK71 HB hHeld ⊢
 refine Pk 1 7 ?_
 refine take_ (i := 2) (N := some 8) (v := ?_) (a' := ?_) #[false, true, true, false, false] rfl rfl (by kernel_rfl) (fun _ _ _ h => h) (Or.inl ⟨by rfl, ?_⟩) hHeld ?_ ?_
 rotate_left
 ·rintro w' ⟨s0, s1, s2, s3, s4⟩
  go_simp; with_reducible rfl
 rotate_left
 ·simp only [Act.put, List.setIfInBounds_toArray, List.set_cons_zero, List.set_cons_succ, i64_w, i32_w]
  rfl
 refine one_ (i := 0) (N := some 6) #[true, true, true, false, false] rfl rfl (by kernel_rfl) (by decide) (fun K hK => ?_)
 refine goes_ Try.func83 (by kernel_rfl) rfl #[] (by rfl) rfl rfl Zm ?_
 with_reducible refine (heads_calls _).mono ?_
 rintro e w7 ⟨m, rfl, hm, hb⟩
 refine ⟨_, rfl, ?_⟩
 have n0_ := Qa (blk_below BK71.out hb)
 have n1_ := Qa (below_step HB.out hb)
 have HM := Qa hm
 clear BK71 HB hm hb
 have BK71 := n0_
 have HB := n1_
 clear n0_ n1_
 refine hK.out _ _ (Ce5 BK71) (fun hHeld => ?_)
 clear hK K
 refine Nn 6 ?_
 have hk_ : 1 ≤ a0_0 ∧ a0_0 ≤ 12 ∧ t79 = ⟨(headS a0_0).toArray⟩ := by
  have h_ := A3.out; unfold headOf.f at h_; split at h_
  ·rename_i c_; exact ⟨c_.1, c_.2, (Option.some.inj h_).symm⟩
  ·cases h_
 have hl_ := HM.out a0_0 hk_.1 hk_.2.1
 rw [← hk_.2.2] at hl_
 refine one_ (i := 3) (N := some 9) #[true, true, true, true, false] rfl rfl (by kernel_rfl) (by decide) (fun K hK => ?_)
 refine event_step (v := .string t79) (w1 := w7) (by rfl) ?hr ?_
 case hr => first | (go_simp; done) | (go_simp; rfl) | (simp [execOp, hl_]; done) | (go_simp; simp [hl_]; done)
 clear hl_ hk_
 refine hK.out _ _ (Ce5 BK71) (fun hHeld => ?_)
 clear hK K
 refine Nn 9 ?_
 refine Pk 4 5 ?_
 refine done_ (by kernel_rfl) ?_
 obtain ⟨q7_0, q7_1, q7_2, q7_3, q7_4, u7_0, u7_1, u7_2, u7_3, u7_4⟩ := Cf5 BK71
 go_upto_if 12 with (fail)
 go_cut [12] (fun v12 wc => ∃ (kq : Nat) (x12_3 : Bool), v12 = .bool x12_3 ∧ Qf (impl_Formula_text.j0 kq l1 t79 a0_0 x12_3 a0_0 a0_1 a0_2 a0_3 l0_4 = some r) ∧ Qf (kq ≤ k) ∧ Qf (wc.heap[gb71]? = some (.cells #[.int .i64 a0_0, .int .i64 a0_1, .int .i64 a0_2, .int .i64 a0_3, (.slice A0_4 l0_4.length c0_4)] 32 (0, 0))) ∧ Qf (Below w.heap.size w wc))
 case first =>
  have H := HC4.out; clear HC4; by_cases c8 : a0_0 = 2
  ·rw [if_pos c8] at H; have c8b0 := beq_iff_eq.mpr c8; have c8b1 := bne_eq_false_iff_eq.mpr c8; clear c8; (first | rw [c8b0] | (simp only [i64_w, i32_w]; rw [c8b0]) | skip)
   have H' := Qa H; clear H; go_wp2; go_meet
   case rel => exact ⟨_, ((a0_0 == 2)), Zf, H', ⟨by first | omega | exact Nat.le_refl _⟩, ⟨Ba BK71.out⟩, ⟨Bb1 HB.out GE71.out⟩⟩
  ·rw [if_neg c8] at H; have c8b0 := beq_eq_false_iff_ne.mpr c8; have c8b1 := bne_iff_ne.mpr c8; (first | rw [c8b0] | (simp only [i64_w, i32_w]; rw [c8b0]) | skip)
   have H' := Qa H; clear H; go_wp2; go_meet
   case rel => exact ⟨_, ((a0_0 == 3)), Zf, H', ⟨by first | omega | exact Nat.le_refl _⟩, ⟨Ba BK71.out⟩, ⟨Bb1 HB.out GE71.out⟩⟩
 case rest =>
  clear HC4; (try clear c1)
  (try clear p2)
  (try clear c4)
  (try clear c8)
  (try clear c8b0)
  (try clear c8b1)
  (try clear q7_0)
  (try clear q7_1)
  (try clear q7_2)
  (try clear q7_3)
  (try clear q7_4)
  (try clear u7_0)
  (try clear u7_1)
  (try clear u7_2)
  (try clear u7_3)
  (try clear u7_4)
  obtain ⟨kq, x12_3, rfl, HA, HJ3, BK71, HB⟩ := hcut; cases kq with
  | zero => exact absurd HA.out (by simp [impl_Formula_text.j0])
  | succ kj3 =>
   have H := HA.out; clear HA; simp only [impl_Formula_text.j0] at H; by_cases c9 : x12_3 = true
   ·subst c9; rw [if_pos rfl] at H; by_cases c10 : 0 ≤ a0_1
    ·rw [if_pos c10] at H; replace c10 := decide_eq_true c10; by_cases c11 : a0_1 < (l1.length : Int)
     ·rw [if_pos c11] at H; replace c11 := decide_eq_true c11; by_cases c12 : t79.size + (rdOf ByteArray.empty l1 a0_1).size ≤ 9223372036854775807
      ·rw [if_pos c12] at H; have c12b0 := eq_true c12; have c12b1 := decide_eq_true c12; try have c12b2 : (9223372036854775807 < t79.size + (rdOf ByteArray.empty l1 a0_1).size) = False := eq_false (Nat.not_lt.2 c12)
       by_cases c13 : (t79 ++ (rdOf ByteArray.empty l1 a0_1)).size + 1 ≤ 9223372036854775807
       ·rw [if_pos c13] at H; have c13b0 := eq_true c13; have c13b1 := decide_eq_true c13; try have c13b2 : (9223372036854775807 < (t79 ++ (rdOf ByteArray.empty l1 a0_1)).size + 1) = False := eq_false (Nat.not_lt.2 c13)
        try have c13b3 : (9223372036854775807 < t79.size + (rdOf ByteArray.empty l1 a0_1).size + 1) = False := eq_false (Nat.not_lt.2 (by have h_ := c13; simp only [ByteArray.size_append] at h_; exact h_))
        try have c13s : (9223372036854775807 < t79.size + (rdOf ByteArray.empty l1 a0_1).size + 1) = False := by have h := c13b2; simp only [ByteArray.size_append] at h; exact h
        obtain ⟨t90, A14, H⟩ := Ob H; (try dsimp only at H)
        by_cases c15 : ((t79 ++ (rdOf ByteArray.empty l1 a0_1)) ++ (⟨#[58]⟩ : ByteArray)).size + t90.size ≤ 9223372036854775807
        ·rw [if_pos c15] at H; have c15b0 := eq_true c15; have c15b1 := decide_eq_true c15; try have c15b2 : (9223372036854775807 < ((t79 ++ (rdOf ByteArray.empty l1 a0_1)) ++ (⟨#[58]⟩ : ByteArray)).size + t90.size) = False := eq_false (Nat.not_lt.2 c15)
         try have c15b3 : (9223372036854775807 < t79.size + (rdOf ByteArray.empty l1 a0_1).size + 1 + t90.size) = False := eq_false (Nat.not_lt.2 (by have h_ := c15; simp only [ByteArray.size_append] at h_; exact h_))
         try have c15s : (9223372036854775807 < t79.size + (rdOf ByteArray.empty l1 a0_1).size + 1 + t90.size) = False := by have h := c15b2; simp only [ByteArray.size_append] at h; exact h
         obtain rfl := Option.some.inj H; try go_wp2
         replace BK71 := Db BK71; replace HB := Qa (below_drew1 HB.out); have p82 : 0 ≤ (a0_1 : Int) := Da; have q82 : a0_1 < (l1.length : Int) := Da; obtain ⟨ad82, e82, hx82_0⟩ := Kd.at_string HR1.out a0_1 p82 q82; have hw141_0 := hx82_0; cases e82
         replace hx82_0 := Cx HB hx82_0; replace p82 := eq_true p82; replace q82 := eq_true q82; refine start_ (n := 13) (S := fun w' => w'.cell? ⟨gb71, 0, none⟩ = some (.int .i64 a0_0) ∧ w'.cell? ⟨gb71, 1, none⟩ = some (.int .i64 a0_1) ∧ w'.cell? ⟨gb71, 2, none⟩ = some (.int .i64 a0_2) ∧ w'.cell? ⟨gb71, 3, none⟩ = some (.int .i64 a0_3) ∧ w'.cell? ⟨gb71, 4, none⟩ = some (.slice A0_4 l0_4.length c0_4) ∧ w'.cell? (ad82.add (a0_1).toNat) = some (.string (rdOf ByteArray.empty l1 a0_1))) (ds := []) #[false, false, false, false, false, false, false, false, false, false, false, false, false] (by kernel_rfl) rfl rfl ⟨(Qd BK71.out 0).trans rfl, (Qd BK71.out 1).trans rfl, (Qd BK71.out 2).trans rfl, (Qd BK71.out 3).trans rfl, (Qd BK71.out 4).trans rfl, (Cx HB hw141_0)⟩ (fun hHeld => ?_); refine with_tabW impl_Formula_text.tab5 impl_Formula_text.bits5 (fun HT_ HW_ => ?_); generalize wc.drew = w16 at BK71 HB hx82_0 hHeld ⊢; refine Pt 0 15 HT_ ?_; refine Pt 1 16 HT_ ?_; refine Pt 2 17 HT_ ?_; refine Pt 8 23 HT_ ?_; refine Tu6 3 18 HT_ HW_ hHeld ?_; refine Pt 4 19 HT_ ?_; refine Tu6 5 20 HT_ HW_ hHeld ?_; refine Pt 6 21 HT_ ?_; refine Pt 7 22 HT_ ?_; refine Tu6 9 24 HT_ HW_ hHeld ?_; refine Ot 10 25 HT_ (fun K hK => ?_); refine goes_ Try.func84 (by kernel_rfl) rfl #[.int .i64 a0_2] (by rfl) rfl rfl Zm ?_; with_reducible refine (impl_logicName.calls a0_2 t90 _ A14.out).mono ?_
         rintro e w' ⟨rfl, ⟨nd, rfl⟩⟩; refine ⟨_, rfl, ?_⟩; refine hK.out _ _ ⟨(Qd BK71.out 0).trans rfl, (Qd BK71.out 1).trans rfl, (Qd BK71.out 2).trans rfl, (Qd BK71.out 3).trans rfl, (Qd BK71.out 4).trans rfl, (Cx HB hw141_0 :)⟩ (fun hHeld => ?_); clear hK K; refine Nn 25 ?_; refine Pt 11 26 HT_ ?_; refine Pt 12 4 HT_ ?_; refine done_ (done_of HT_.out (by kernel_rfl)) ?_; try go_wp2
         go_ret; exact ⟨Ze, Bb1 HB.out GE71.out⟩
        ·rw [if_neg c15] at H; exact absurd H (by simp)
       ·rw [if_neg c13] at H; exact absurd H (by simp)
      ·rw [if_neg c12] at H; exact absurd H (by simp)
     ·rw [if_neg c11] at H; exact absurd H (by simp)
    ·rw [if_neg c10] at H; exact absurd H (by simp)
   ·replace c9 := Bool.eq_false_iff.mpr c9; subst c9; rw [if_neg (show ¬ (false = true) by decide)] at H; by_cases c17 : a0_0 = 4
    ·rw [if_pos c17] at H; have c17b0 := beq_iff_eq.mpr c17; have c17b1 := bne_eq_false_iff_eq.mpr c17; clear c17; obtain ⟨t95, A18, H⟩ := Ob H; (try dsimp only at H)
     by_cases c19 : t79.size + t95.size ≤ 9223372036854775807
     ·rw [if_pos c19] at H; have c19b0 := eq_true c19; have c19b1 := decide_eq_true c19; try have c19b2 : (9223372036854775807 < t79.size + t95.size) = False := eq_false (Nat.not_lt.2 c19)
      obtain rfl := Option.some.inj H; obtain ⟨q20_0, q20_1, q20_2, q20_3, q20_4, u20_0, u20_1, u20_2, u20_3, u20_4⟩ := Cf5 BK71; go_wp2_with (first | ((with_reducible refine gate_callee (f := 84) rfl ?_); refine Gl 32 Try.func84 #[.int .i64 a0_2] ?_; (with_reducible refine (impl_logicName.calls a0_2 t95 _ A18.out).mono ?_); rintro e w' ⟨rfl, ⟨nd, rfl⟩⟩; refine ⟨_, rfl, ?_⟩)); go_ret; exact ⟨Ze, Bb1 HB.out GE71.out⟩
     ·rw [if_neg c19] at H; exact absurd H (by simp)
    ·rw [if_neg c17] at H; have c17b0 := beq_eq_false_iff_ne.mpr c17; have c17b1 := bne_iff_ne.mpr c17; have HC21 := Qa H; clear H; go_upto_if 34 with (fail)
     go_cut [34] (fun v34 wc => ∃ (kq : Nat) (x34_20 : Bool), v34 = .bool x34_20 ∧ Qf (impl_Formula_text.j1 kq l1 t79 a0_0 x34_20 a0_0 a0_1 a0_2 a0_3 l0_4 = some r) ∧ Qf (kq ≤ kj3) ∧ Qf (wc.heap[gb71]? = some (.cells #[.int .i64 a0_0, .int .i64 a0_1, .int .i64 a0_2, .int .i64 a0_3, (.slice A0_4 l0_4.length c0_4)] 32 (0, 0))) ∧ Qf (Below w.heap.size w wc))
     case first =>
      have H := HC21.out; clear HC21; by_cases c22 : a0_0 = 5
      ·rw [if_pos c22] at H; have c22b0 := beq_iff_eq.mpr c22; have c22b1 := bne_eq_false_iff_eq.mpr c22; clear c22; (first | rw [c22b0] | (simp only [i64_w, i32_w]; rw [c22b0]) | skip)
       have H' := Qa H; clear H; go_wp2; go_meet
       case rel => exact ⟨_, ((a0_0 == 5)), Zf, H', ⟨by have := HJ3.out; first | omega | exact Nat.le_refl _⟩, ⟨Ba BK71.out⟩, ⟨Bb1 HB.out GE71.out⟩⟩
      ·rw [if_neg c22] at H; have c22b0 := beq_eq_false_iff_ne.mpr c22; have c22b1 := bne_iff_ne.mpr c22; (first | rw [c22b0] | (simp only [i64_w, i32_w]; rw [c22b0]) | skip)
       by_cases c23 : a0_0 = 6
       ·rw [if_pos c23] at H; have c23b0 := beq_iff_eq.mpr c23; have c23b1 := bne_eq_false_iff_eq.mpr c23; clear c23; have H' := Qa H; clear H; go_wp2; go_meet
        case rel => exact ⟨_, ((a0_0 == 6)), Zf, H', ⟨by have := HJ3.out; first | omega | exact Nat.le_refl _⟩, ⟨Ba BK71.out⟩, ⟨Bb1 HB.out GE71.out⟩⟩
       ·rw [if_neg c23] at H; have c23b0 := beq_eq_false_iff_ne.mpr c23; have c23b1 := bne_iff_ne.mpr c23; have H' := Qa H; clear H; go_wp2; go_meet
        case rel => exact ⟨_, ((a0_0 == 7)), Zf, H', ⟨by have := HJ3.out; first | omega | exact Nat.le_refl _⟩, ⟨Ba BK71.out⟩, ⟨Bb1 HB.out GE71.out⟩⟩
     case rest =>
      clear HC21; (try clear c1)
      (try clear p1)
      (try clear q1)
      (try clear hx1)
      (try clear c2)
      (try clear p2)
      (try clear c4)
      (try clear c8)
      (try clear c8b0)
      (try clear c8b1)
      (try clear c9)
      (try clear c10)
      (try clear c10)
      (try clear c11)
      (try clear c11)
      (try clear c12)
      (try clear c12b0)
      (try clear c12b1)
      (try clear c12b2)
      (try clear c13)
      (try clear c13b0)
      (try clear c13b1)
      (try clear c13b2)
      (try clear p14)
      (try clear q14)
      (try clear hx14)
      (try clear c15)
      (try clear c15b0)
      (try clear c15b1)
      (try clear c15b2)
      (try clear c17)
      (try clear c17b0)
      (try clear c17b1)
      (try clear c19)
      (try clear c19b0)
      (try clear c19b1)
      (try clear c19b2)
      (try clear c22)
      (try clear c22b0)
      (try clear c22b1)
      (try clear c23)
      (try clear c23b0)
      (try clear c23b1)
      (try clear q20_0)
      (try clear q20_1)
      (try clear q20_2)
      (try clear q20_3)
      (try clear q20_4)
      (try clear q7_0)
      (try clear q7_1)
      (try clear q7_2)
      (try clear q7_3)
      (try clear q7_4)
      (try clear u20_0)
      (try clear u20_1)
      (try clear u20_2)
      (try clear u20_3)
      (try clear u20_4)
      (try clear u7_0)
      (try clear u7_1)
      (try clear u7_2)
      (try clear u7_3)
      (try clear u7_4)
      (try clear hx82_0)
      (try clear p82)
      (try clear p2)
      (try clear q82)
      obtain ⟨kq, x34_20, rfl, HA, HJ20, BK71, HB⟩ := hcut; cases kq with
      | zero => exact absurd HA.out (by simp [impl_Formula_text.j1])
      | succ kj20 =>
       have H := HA.out; clear HA; simp only [impl_Formula_text.j1] at H; by_cases c24 : x34_20 = true
       ·subst c24; rw [if_pos rfl] at H; obtain ⟨t88, A25, H⟩ := Ob H; (try dsimp only at H)
        by_cases c26 : t79.size + t88.size ≤ 9223372036854775807
        ·rw [if_pos c26] at H; have c26b0 := eq_true c26; have c26b1 := decide_eq_true c26; try have c26b2 : (9223372036854775807 < t79.size + t88.size) = False := eq_false (Nat.not_lt.2 c26)
         obtain ⟨t91, A27, H⟩ := Ob H; (try dsimp only at H)
         by_cases c28 : (t79 ++ t88).size + t91.size ≤ 9223372036854775807
         ·rw [if_pos c28] at H; have c28b0 := eq_true c28; have c28b1 := decide_eq_true c28; try have c28b2 : (9223372036854775807 < (t79 ++ t88).size + t91.size) = False := eq_false (Nat.not_lt.2 c28)
          try have c28b3 : (9223372036854775807 < t79.size + t88.size + t91.size) = False := eq_false (Nat.not_lt.2 (by have h_ := c28; simp only [ByteArray.size_append] at h_; exact h_))
          try have c28s : (9223372036854775807 < t79.size + t88.size + t91.size) = False := by have h := c28b2; simp only [ByteArray.size_append] at h; exact h
          obtain rfl := Option.some.inj H; try go_wp2
          replace BK71 := Db BK71; replace HB := Qa (below_drew1 HB.out); refine start_ (n := 10) (S := fun w' => w'.cell? ⟨gb71, 0, none⟩ = some (.int .i64 a0_0) ∧ w'.cell? ⟨gb71, 1, none⟩ = some (.int .i64 a0_1) ∧ w'.cell? ⟨gb71, 2, none⟩ = some (.int .i64 a0_2) ∧ w'.cell? ⟨gb71, 3, none⟩ = some (.int .i64 a0_3) ∧ w'.cell? ⟨gb71, 4, none⟩ = some (.slice A0_4 l0_4.length c0_4)) (ds := []) #[false, false, false, false, false, false, false, false, false, false] (by kernel_rfl) rfl rfl (Ce5 BK71) (fun hHeld => ?_); refine with_tabW impl_Formula_text.tab11 impl_Formula_text.bits11 (fun HT_ HW_ => ?_); generalize wc.drew = w29 at BK71 HB hHeld ⊢; refine Pt 0 38 HT_ ?_; refine Pt 1 39 HT_ ?_; refine Pt 5 43 HT_ ?_; refine Tu5 2 40 HT_ HW_ hHeld ?_; refine Tu5 6 44 HT_ HW_ hHeld ?_; refine Ot 3 41 HT_ (fun K hK => ?_); refine goes_ Try.func84 (by kernel_rfl) rfl #[.int .i64 a0_2] (by rfl) rfl rfl Zm ?_; with_reducible refine (impl_logicName.calls a0_2 t88 _ A25.out).mono ?_
          rintro e w' ⟨rfl, ⟨nd, rfl⟩⟩; refine ⟨_, rfl, ?_⟩; refine hK.out _ _ (Ce5 BK71) (fun hHeld => ?_); clear hK K; refine Nn 41 ?_; refine Pt 4 42 HT_ ?_; refine Ot 7 45 HT_ (fun K hK => ?_); refine goes_ Try.func84 (by kernel_rfl) rfl #[.int .i64 a0_3] (by rfl) rfl rfl Zm ?_; with_reducible refine (impl_logicName.calls a0_3 t91 _ A27.out).mono ?_
          rintro e w' ⟨rfl, ⟨nd, rfl⟩⟩; refine ⟨_, rfl, ?_⟩; refine hK.out _ _ (Ce5 BK71) (fun hHeld => ?_); clear hK K; refine Nn 45 ?_; refine Pt 8 46 HT_ ?_; refine Pt 9 4 HT_ ?_; refine done_ (done_of HT_.out (by kernel_rfl)) ?_; try go_wp2
          go_ret; exact ⟨Ze, Bb1 HB.out GE71.out⟩
         ·rw [if_neg c28] at H; exact absurd H (by simp)
        ·rw [if_neg c26] at H; exact absurd H (by simp)
       ·replace c24 := Bool.eq_false_iff.mpr c24; subst c24; rw [if_neg (show ¬ (false = true) by decide)] at H; by_cases c30 : a0_0 = 8
        ·rw [if_pos c30] at H; have c30b0 := beq_iff_eq.mpr c30; have c30b1 := bne_eq_false_iff_eq.mpr c30; clear c30; by_cases c31 : 0 < (l0_4.length : Int)
         ·rw [if_pos c31] at H; have c31b0 := decide_eq_true c31; have c31b1 : decide (0 < l0_4.length) = true := decide_eq_true (by omega); clear c31; obtain ⟨t96, A32, H⟩ := Ob H; (try dsimp only at H)
          by_cases c33 : 1 + t96.size ≤ 9223372036854775807
          ·rw [if_pos c33] at H; have c33b0 := eq_true c33; have c33b1 := decide_eq_true c33; try have c33b2 : (9223372036854775807 < 1 + t96.size) = False := eq_false (Nat.not_lt.2 c33)
           obtain rfl := Option.some.inj H; obtain ⟨q34_0, q34_1, q34_2, q34_3, q34_4, u34_0, u34_1, u34_2, u34_3, u34_4⟩ := Cf5 BK71; have p77 : 0 ≤ (0 : Int) := (by omega); have q77 : 0 < (l0_4.length : Int) := Da; obtain ⟨ad77, A77_4, c146_4, e77, hx77_0, hx77_1, hx77_2, hx77_3, hx77_4, hl146_4, hi146_4⟩ := at_T32 HR0_4.out 0 p77 q77; cases e77
           have qi77 : (0 < l0_4.length) = True := eq_true (by omega); (try rw [show ((0 : Int)).toNat = 0 from rfl] at hx77_0)
           (try rw [show 0 * 5 = 0 from rfl] at hx77_0)
           (try rw [Qr] at hx77_0)
           (try rw [show ((0 : Int)).toNat = 0 from rfl] at hx77_1)
           (try rw [show 0 * 5 = 0 from rfl] at hx77_1)
           (try rw [Qr] at hx77_1)
           (try rw [show ((0 : Int)).toNat = 0 from rfl] at hx77_2)
           (try rw [show 0 * 5 = 0 from rfl] at hx77_2)
           (try rw [Qr] at hx77_2)
           (try rw [show ((0 : Int)).toNat = 0 from rfl] at hx77_3)
           (try rw [show 0 * 5 = 0 from rfl] at hx77_3)
           (try rw [Qr] at hx77_3)
           (try rw [show ((0 : Int)).toNat = 0 from rfl] at hx77_4)
           (try rw [show 0 * 5 = 0 from rfl] at hx77_4)
           (try rw [Qr] at hx77_4)
           replace hx77_0 := Cx HB hx77_0; replace hx77_1 := Cx HB hx77_1; replace hx77_2 := Cx HB hx77_2; replace hx77_3 := Cx HB hx77_3; replace hx77_4 := Cx HB hx77_4; have HR77_4 := Qa hi146_4; have HC146_4 := Qa hl146_4; clear hi146_4 hl146_4; replace p77 := eq_true p77; replace q77 := eq_true q77; go_wp2_with (first | ((with_reducible refine gate_callee (f := 47) rfl ?_); refine Gl 54 Try.func47 #[.agg #[.int .i64 ((rd_T32 l0_4 0).f0), .int .i64 ((rd_T32 l0_4 0).f1), .int .i64 ((rd_T32 l0_4 0).f2), .int .i64 ((rd_T32 l0_4 0).f3), .slice A77_4 ((rd_T32 l0_4 0).f4).length c146_4], .slice A1 l1.length c1] ?_; (with_reducible refine (ih kj20 (by have := HJ3.out; have := HJ20.out; omega) ((rd_T32 l0_4 0).f0) ((rd_T32 l0_4 0).f1) ((rd_T32 l0_4 0).f2) ((rd_T32 l0_4 0).f3) _ _ ((rd_T32 l0_4 0).f4) _ _ l1 t96 _ ?side1 ?side2 ?side3 ?side4 A32.out).mono ?_); (case side1 => exact Bc (Ql HR77_4.out HB.out)); (case side2 => exact HC146_4.out); (case side3 => exact Bc (Ql HR1.out HB.out)); (case side4 => exact HC1.out); rintro e w35 ⟨rfl, hb⟩; refine ⟨_, rfl, ?_⟩; replace BK71 := Kb BK71 hb; replace HB := Sb (Bb1 HB.out GE71.out) hb; clear hb)); go_ret; exact ⟨Ze, Bb1 HB.out GE71.out⟩
          ·rw [if_neg c33] at H; exact absurd H (by simp)
         ·rw [if_neg c31] at H; exact absurd H (by simp)
        ·rw [if_neg c30] at H; have c30b0 := beq_eq_false_iff_ne.mpr c30; have c30b1 := bne_iff_ne.mpr c30; by_cases c36 : a0_0 = 9
         ·rw [if_pos c36] at H; have c36b0 := beq_iff_eq.mpr c36; have c36b1 := bne_eq_false_iff_eq.mpr c36; clear c36; by_cases c37 : 0 < (l0_4.length : Int)
          ·rw [if_pos c37] at H; have c37b0 := decide_eq_true c37; have c37b1 : decide (0 < l0_4.length) = true := decide_eq_true (by omega); clear c37; obtain ⟨t80, A38, H⟩ := Ob H; (try dsimp only at H)
           by_cases c39 : 1 + t80.size ≤ 9223372036854775807
           ·rw [if_pos c39] at H; have c39b0 := eq_true c39; have c39b1 := decide_eq_true c39; try have c39b2 : (9223372036854775807 < 1 + t80.size) = False := eq_false (Nat.not_lt.2 c39)
            by_cases c40 : ((⟨#[40]⟩ : ByteArray) ++ t80).size + 1 ≤ 9223372036854775807
            ·rw [if_pos c40] at H; have c40b0 := eq_true c40; have c40b1 := decide_eq_true c40; try have c40b2 : (9223372036854775807 < ((⟨#[40]⟩ : ByteArray) ++ t80).size + 1) = False := eq_false (Nat.not_lt.2 c40)
             try have c40b3 : (9223372036854775807 < 1 + t80.size + 1) = False := eq_false (Nat.not_lt.2 (by have h_ := c40; simp only [ByteArray.size_append] at h_; exact h_))
             try have c40s : (9223372036854775807 < 1 + t80.size + 1) = False := by have h := c40b2; simp only [ByteArray.size_append] at h; exact h
             by_cases c41 : 1 < (l0_4.length : Int)
             ·rw [if_pos c41] at H; have c41b0 := decide_eq_true c41; have c41b1 : decide (1 < l0_4.length) = true := decide_eq_true (by omega); clear c41; obtain ⟨t85, A42, H⟩ := Ob H; (try dsimp only at H)
              by_cases c43 : (((⟨#[40]⟩ : ByteArray) ++ t80) ++ (⟨#[38]⟩ : ByteArray)).size + t85.size ≤ 9223372036854775807
              ·rw [if_pos c43] at H; have c43b0 := eq_true c43; have c43b1 := decide_eq_true c43; try have c43b2 : (9223372036854775807 < (((⟨#[40]⟩ : ByteArray) ++ t80) ++ (⟨#[38]⟩ : ByteArray)).size + t85.size) = False := eq_false (Nat.not_lt.2 c43)
               try have c43b3 : (9223372036854775807 < 1 + t80.size + 1 + t85.size) = False := eq_false (Nat.not_lt.2 (by have h_ := c43; simp only [ByteArray.size_append] at h_; exact h_))
               try have c43s : (9223372036854775807 < 1 + t80.size + 1 + t85.size) = False := by have h := c43b2; simp only [ByteArray.size_append] at h; exact h
               by_cases c44 : ((((⟨#[40]⟩ : ByteArray) ++ t80) ++ (⟨#[38]⟩ : ByteArray)) ++ t85).size + 1 ≤ 9223372036854775807
               ·rw [if_pos c44] at H; have c44b0 := eq_true c44; have c44b1 := decide_eq_true c44; try have c44b2 : (9223372036854775807 < ((((⟨#[40]⟩ : ByteArray) ++ t80) ++ (⟨#[38]⟩ : ByteArray)) ++ t85).size + 1) = False := eq_false (Nat.not_lt.2 c44)
                try have c44b3 : (9223372036854775807 < 1 + t80.size + 1 + t85.size + 1) = False := eq_false (Nat.not_lt.2 (by have h_ := c44; simp only [ByteArray.size_append] at h_; exact h_))
                try have c44s : (9223372036854775807 < 1 + t80.size + 1 + t85.size + 1) = False := by have h := c44b2; simp only [ByteArray.size_append] at h; exact h
                obtain rfl := Option.some.inj H; try go_wp2
                replace BK71 := Db BK71; replace HB := Qa (below_drew1 HB.out); have p73 : 0 ≤ (0 : Int) := (by omega); have q73 : 0 < (l0_4.length : Int) := Da; obtain ⟨ad73, A73_4, c148_4, e73, hx73_0, hx73_1, hx73_2, hx73_3, hx73_4, hl148_4, hi148_4⟩ := at_T32 HR0_4.out 0 p73 q73; have hw148_4 := hx73_4; (try rw [show ((0 : Int)).toNat = 0 from rfl] at hw148_4)
                (try rw [show 0 * 5 = 0 from rfl] at hw148_4)
                (try rw [Qr] at hw148_4)
                have hw148_3 := hx73_3; (try rw [show ((0 : Int)).toNat = 0 from rfl] at hw148_3)
                (try rw [show 0 * 5 = 0 from rfl] at hw148_3)
                (try rw [Qr] at hw148_3)
                have hw148_2 := hx73_2; (try rw [show ((0 : Int)).toNat = 0 from rfl] at hw148_2)
                (try rw [show 0 * 5 = 0 from rfl] at hw148_2)
                (try rw [Qr] at hw148_2)
                have hw148_1 := hx73_1; (try rw [show ((0 : Int)).toNat = 0 from rfl] at hw148_1)
                (try rw [show 0 * 5 = 0 from rfl] at hw148_1)
                (try rw [Qr] at hw148_1)
                have hw148_0 := hx73_0; (try rw [show ((0 : Int)).toNat = 0 from rfl] at hw148_0)
                (try rw [show 0 * 5 = 0 from rfl] at hw148_0)
                (try rw [Qr] at hw148_0)
                cases e73
                have qi73 : (0 < l0_4.length) = True := eq_true (by omega); (try rw [show ((0 : Int)).toNat = 0 from rfl] at hx73_0)
                (try rw [show 0 * 5 = 0 from rfl] at hx73_0)
                (try rw [Qr] at hx73_0)
                (try rw [show ((0 : Int)).toNat = 0 from rfl] at hx73_1)
                (try rw [show 0 * 5 = 0 from rfl] at hx73_1)
                (try rw [Qr] at hx73_1)
                (try rw [show ((0 : Int)).toNat = 0 from rfl] at hx73_2)
                (try rw [show 0 * 5 = 0 from rfl] at hx73_2)
                (try rw [Qr] at hx73_2)
                (try rw [show ((0 : Int)).toNat = 0 from rfl] at hx73_3)
                (try rw [show 0 * 5 = 0 from rfl] at hx73_3)
                (try rw [Qr] at hx73_3)
                (try rw [show ((0 : Int)).toNat = 0 from rfl] at hx73_4)
                (try rw [show 0 * 5 = 0 from rfl] at hx73_4)
                (try rw [Qr] at hx73_4)
                replace hx73_0 := Cx HB hx73_0; replace hx73_1 := Cx HB hx73_1; replace hx73_2 := Cx HB hx73_2; replace hx73_3 := Cx HB hx73_3; replace hx73_4 := Cx HB hx73_4; have HR73_4 := Qa hi148_4; have HC148_4 := Qa hl148_4; clear hi148_4 hl148_4; replace p73 := eq_true p73; replace q73 := eq_true q73; have p75 : 0 ≤ (1 : Int) := (by omega); have q75 : 1 < (l0_4.length : Int) := Da; obtain ⟨ad75, A75_4, c150_4, e75, hx75_0, hx75_1, hx75_2, hx75_3, hx75_4, hl150_4, hi150_4⟩ := at_T32 HR0_4.out 1 p75 q75; have hw150_4 := hx75_4; (try rw [show ((1 : Int)).toNat = 1 from rfl] at hw150_4)
                (try rw [show 1 * 5 = 5 from rfl] at hw150_4)
                (try simp only [Nat.reduceMul, Nat.reduceEqDiff, Go.Addr.add, ↓reduceIte] at hw150_4)
                have hw150_3 := hx75_3; (try rw [show ((1 : Int)).toNat = 1 from rfl] at hw150_3)
                (try rw [show 1 * 5 = 5 from rfl] at hw150_3)
                (try simp only [Nat.reduceMul, Nat.reduceEqDiff, Go.Addr.add, ↓reduceIte] at hw150_3)
                have hw150_2 := hx75_2; (try rw [show ((1 : Int)).toNat = 1 from rfl] at hw150_2)
                (try rw [show 1 * 5 = 5 from rfl] at hw150_2)
                (try simp only [Nat.reduceMul, Nat.reduceEqDiff, Go.Addr.add, ↓reduceIte] at hw150_2)
                have hw150_1 := hx75_1; (try rw [show ((1 : Int)).toNat = 1 from rfl] at hw150_1)
                (try rw [show 1 * 5 = 5 from rfl] at hw150_1)
                (try simp only [Nat.reduceMul, Nat.reduceEqDiff, Go.Addr.add, ↓reduceIte] at hw150_1)
                have hw150_0 := hx75_0; (try rw [show ((1 : Int)).toNat = 1 from rfl] at hw150_0)
                (try rw [show 1 * 5 = 5 from rfl] at hw150_0)
                (try simp only [Nat.reduceMul, Nat.reduceEqDiff, Go.Addr.add, ↓reduceIte] at hw150_0)
                obtain rfl : ad73 = ad75 := (by injection e75); (try simp only [show (1 : Int).toNat = 1 from rfl, Nat.reduceMul, Nat.reduceEqDiff, Go.Addr.add, ↓reduceIte] at hx75_0)
                (try simp only [show (1 : Int).toNat = 1 from rfl, Nat.reduceMul, Nat.reduceEqDiff, Go.Addr.add, ↓reduceIte] at hx75_1)
                (try simp only [show (1 : Int).toNat = 1 from rfl, Nat.reduceMul, Nat.reduceEqDiff, Go.Addr.add, ↓reduceIte] at hx75_2)
                (try simp only [show (1 : Int).toNat = 1 from rfl, Nat.reduceMul, Nat.reduceEqDiff, Go.Addr.add, ↓reduceIte] at hx75_3)
                (try simp only [show (1 : Int).toNat = 1 from rfl, Nat.reduceMul, Nat.reduceEqDiff, Go.Addr.add, ↓reduceIte] at hx75_4)
                have qi75 : (1 < l0_4.length) = True := eq_true (by omega); (try rw [show ((1 : Int)).toNat = 1 from rfl] at hx75_0)
                (try rw [show 1 * 5 = 5 from rfl] at hx75_0)
                (try rw [show ((1 : Int)).toNat = 1 from rfl] at hx75_1)
                (try rw [show 1 * 5 = 5 from rfl] at hx75_1)
                (try rw [show ((1 : Int)).toNat = 1 from rfl] at hx75_2)
                (try rw [show 1 * 5 = 5 from rfl] at hx75_2)
                (try rw [show ((1 : Int)).toNat = 1 from rfl] at hx75_3)
                (try rw [show 1 * 5 = 5 from rfl] at hx75_3)
                (try rw [show ((1 : Int)).toNat = 1 from rfl] at hx75_4)
                (try rw [show 1 * 5 = 5 from rfl] at hx75_4)
                replace hx75_0 := Cx HB hx75_0; replace hx75_1 := Cx HB hx75_1; replace hx75_2 := Cx HB hx75_2; replace hx75_3 := Cx HB hx75_3; replace hx75_4 := Cx HB hx75_4; have HR75_4 := Qa hi150_4; have HC150_4 := Qa hl150_4; clear hi150_4 hl150_4; replace p75 := eq_true p75; replace q75 := eq_true q75; refine start_ (n := 17) (S := fun w' => w'.cell? ⟨gb71, 0, none⟩ = some (.int .i64 a0_0) ∧ w'.cell? ⟨gb71, 1, none⟩ = some (.int .i64 a0_1) ∧ w'.cell? ⟨gb71, 2, none⟩ = some (.int .i64 a0_2) ∧ w'.cell? ⟨gb71, 3, none⟩ = some (.int .i64 a0_3) ∧ w'.cell? ⟨gb71, 4, none⟩ = some (.slice (some ad73) l0_4.length c0_4) ∧ w'.cell? ad73 = some (.int .i64 ((rd_T32 l0_4 0).f0)) ∧ w'.cell? ⟨ad73.block, ad73.off + 1, none⟩ = some (.int .i64 ((rd_T32 l0_4 0).f1)) ∧ w'.cell? ⟨ad73.block, ad73.off + 2, none⟩ = some (.int .i64 ((rd_T32 l0_4 0).f2)) ∧ w'.cell? ⟨ad73.block, ad73.off + 3, none⟩ = some (.int .i64 ((rd_T32 l0_4 0).f3)) ∧ w'.cell? ⟨ad73.block, ad73.off + 4, none⟩ = some (.slice A73_4 ((rd_T32 l0_4 0).f4).length c148_4) ∧ w'.cell? ⟨ad73.block, ad73.off + 5, none⟩ = some (.int .i64 ((rd_T32 l0_4 1).f0)) ∧ w'.cell? ⟨ad73.block, ad73.off + 5 + 1, none⟩ = some (.int .i64 ((rd_T32 l0_4 1).f1)) ∧ w'.cell? ⟨ad73.block, ad73.off + 5 + 2, none⟩ = some (.int .i64 ((rd_T32 l0_4 1).f2)) ∧ w'.cell? ⟨ad73.block, ad73.off + 5 + 3, none⟩ = some (.int .i64 ((rd_T32 l0_4 1).f3)) ∧ w'.cell? ⟨ad73.block, ad73.off + 5 + 4, none⟩ = some (.slice A75_4 ((rd_T32 l0_4 1).f4).length c150_4)) (ds := []) #[false, false, false, false, false, false, false, false, false, false, false, false, false, false, false, false, false] (by kernel_rfl) rfl rfl ⟨(Qd BK71.out 0).trans rfl, (Qd BK71.out 1).trans rfl, (Qd BK71.out 2).trans rfl, (Qd BK71.out 3).trans rfl, (Qd BK71.out 4).trans rfl, (Cx HB hw148_0), (Cx HB hw148_1), (Cx HB hw148_2), (Cx HB hw148_3), (Cx HB hw148_4), (Cx HB hw150_0), (Cx HB hw150_1), (Cx HB hw150_2), (Cx HB hw150_3), (Cx HB hw150_4)⟩ (fun hHeld => ?_); refine with_tabW impl_Formula_text.tab15 impl_Formula_text.bits15 (fun HT_ HW_ => ?_); generalize wc.drew = w45 at BK71 HB HR73_4 HR75_4 hx73_0 hx73_1 hx73_2 hx73_3 hx73_4 hx75_0 hx75_1 hx75_2 hx75_3 hx75_4 hHeld ⊢; refine Pt 0 58 HT_ ?_; refine Pt 4 62 HT_ ?_; refine Pt 8 66 HT_ ?_; refine Pt 12 70 HT_ ?_; refine take_ (i := 1) (N := some 59) (v := ?_) (a' := ?_) #[true, true, false, false, true, false, false, false, true, false, false, false, true, false, false, false, false] rfl rfl (take_ofW HT_.out HW_.out (by kernel_rfl)) (fun _ _ _ h => h) (Or.inl ⟨by rfl, ?_⟩) hHeld ?_ ?_; rotate_left
                ·rintro w' ⟨s0, s1, s2, s3, s4, s5, s6, s7, s8, s9, s10, s11, s12, s13, s14⟩; go_simp; with_reducible rfl
                rotate_left
                ·simp only [Act.put, List.setIfInBounds_toArray, List.set_cons_zero, List.set_cons_succ, i64_w, i32_w]; rfl
                refine Pt 2 60 HT_ ?_; refine take_ (i := 3) (N := some 61) (v := ?_) (a' := ?_) #[true, true, true, true, true, false, false, false, true, false, false, false, true, false, false, false, false] rfl rfl (take_ofW HT_.out HW_.out (by kernel_rfl)) (fun _ _ _ h => h) (Or.inl ⟨by rfl, ?_⟩) hHeld ?_ ?_; rotate_left
                ·rintro w' ⟨s0, s1, s2, s3, s4, s5, s6, s7, s8, s9, s10, s11, s12, s13, s14⟩; go_simp; with_reducible rfl
                rotate_left
                ·simp only [Act.put, List.setIfInBounds_toArray, List.set_cons_zero, List.set_cons_succ, i64_w, i32_w]; rfl
                refine take_ (i := 9) (N := some 67) (v := ?_) (a' := ?_) #[true, true, true, true, true, false, false, false, true, true, false, false, true, false, false, false, false] rfl rfl (take_ofW HT_.out HW_.out (by kernel_rfl)) (fun _ _ _ h => h) (Or.inl ⟨by rfl, ?_⟩) hHeld ?_ ?_; rotate_left
                ·rintro w' ⟨s0, s1, s2, s3, s4, s5, s6, s7, s8, s9, s10, s11, s12, s13, s14⟩; go_simp; with_reducible rfl
                rotate_left
                ·simp only [Act.put, List.setIfInBounds_toArray, List.set_cons_zero, List.set_cons_succ, i64_w, i32_w]; rfl
                refine Pt 10 68 HT_ ?_; refine take_ (i := 11) (N := some 69) (v := ?_) (a' := ?_) #[true, true, true, true, true, false, false, false, true, true, true, true, true, false, false, false, false] rfl rfl (take_ofW HT_.out HW_.out (by kernel_rfl)) (fun _ _ _ h => h) (Or.inl ⟨by rfl, ?_⟩) hHeld ?_ ?_; rotate_left
                ·rintro w' ⟨s0, s1, s2, s3, s4, s5, s6, s7, s8, s9, s10, s11, s12, s13, s14⟩; go_simp; with_reducible rfl
                rotate_left
                ·simp only [Act.put, List.setIfInBounds_toArray, List.set_cons_zero, List.set_cons_succ, i64_w, i32_w]; rfl
                refine Ot 5 63 HT_ (fun K hK => ?_); refine goes_ Try.func47 (by kernel_rfl) rfl #[.agg #[.int .i64 ((rd_T32 l0_4 0).f0), .int .i64 ((rd_T32 l0_4 0).f1), .int .i64 ((rd_T32 l0_4 0).f2), .int .i64 ((rd_T32 l0_4 0).f3), .slice A73_4 ((rd_T32 l0_4 0).f4).length c148_4], .slice A1 l1.length c1] (by rfl) rfl rfl Zm ?_; with_reducible refine (ih kj20 (by have := HJ3.out; have := HJ20.out; omega) ((rd_T32 l0_4 0).f0) ((rd_T32 l0_4 0).f1) ((rd_T32 l0_4 0).f2) ((rd_T32 l0_4 0).f3) _ _ ((rd_T32 l0_4 0).f4) _ _ l1 t80 _ ?side1 ?side2 ?side3 ?side4 A38.out).mono ?_
                (case side1 => exact Bc (Ql HR73_4.out HB.out))
                (case side2 => exact HC148_4.out)
                (case side3 => exact Bc (Ql HR1.out HB.out))
                (case side4 => exact HC1.out)
                rintro e w46 ⟨rfl, hb⟩; refine ⟨_, rfl, ?_⟩; replace BK71 := Kb BK71 hb; replace HB := Sb (Bb1 HB.out GE71.out) hb; clear hb; refine hK.out _ _ ⟨(Qd BK71.out 0).trans rfl, (Qd BK71.out 1).trans rfl, (Qd BK71.out 2).trans rfl, (Qd BK71.out 3).trans rfl, (Qd BK71.out 4).trans rfl, (Cx HB hw148_0), (Cx HB hw148_1), (Cx HB hw148_2), (Cx HB hw148_3), (Cx HB hw148_4), (Cx HB hw150_0), (Cx HB hw150_1), (Cx HB hw150_2), (Cx HB hw150_3), (Cx HB hw150_4)⟩ (fun hHeld => ?_); clear hK K; refine Nn 63 ?_; refine Pt 6 64 HT_ ?_; refine Pt 7 65 HT_ ?_; refine Ot 13 71 HT_ (fun K hK => ?_); refine goes_ Try.func47 (by kernel_rfl) rfl #[.agg #[.int .i64 ((rd_T32 l0_4 1).f0), .int .i64 ((rd_T32 l0_4 1).f1), .int .i64 ((rd_T32 l0_4 1).f2), .int .i64 ((rd_T32 l0_4 1).f3), .slice A75_4 ((rd_T32 l0_4 1).f4).length c150_4], .slice A1 l1.length c1] (by rfl) rfl rfl Zm ?_; with_reducible refine (ih kj20 (by have := HJ3.out; have := HJ20.out; omega) ((rd_T32 l0_4 1).f0) ((rd_T32 l0_4 1).f1) ((rd_T32 l0_4 1).f2) ((rd_T32 l0_4 1).f3) _ _ ((rd_T32 l0_4 1).f4) _ _ l1 t85 _ ?side1 ?side2 ?side3 ?side4 A42.out).mono ?_
                (case side1 => exact Bc (Ql HR75_4.out HB.out))
                (case side2 => exact HC150_4.out)
                (case side3 => exact Bc (Ql HR1.out HB.out))
                (case side4 => exact HC1.out)
                rintro e w47 ⟨rfl, hb⟩; refine ⟨_, rfl, ?_⟩; replace BK71 := Kb BK71 hb; replace HB := Sb (Bb1 HB.out GE71.out) hb; clear hb; refine hK.out _ _ ⟨(Qd BK71.out 0).trans rfl, (Qd BK71.out 1).trans rfl, (Qd BK71.out 2).trans rfl, (Qd BK71.out 3).trans rfl, (Qd BK71.out 4).trans rfl, (Cx HB hw148_0), (Cx HB hw148_1), (Cx HB hw148_2), (Cx HB hw148_3), (Cx HB hw148_4), (Cx HB hw150_0), (Cx HB hw150_1), (Cx HB hw150_2), (Cx HB hw150_3), (Cx HB hw150_4)⟩ (fun hHeld => ?_); clear hK K; refine Nn 71 ?_; refine Pt 14 72 HT_ ?_; refine Pt 15 73 HT_ ?_; refine Pt 16 4 HT_ ?_; refine done_ (done_of HT_.out (by kernel_rfl)) ?_; try go_wp2
                go_ret; exact ⟨Ze, Bb1 HB.out GE71.out⟩
               ·rw [if_neg c44] at H; exact absurd H (by simp)
              ·rw [if_neg c43] at H; exact absurd H (by simp)
             ·rw [if_neg c41] at H; exact absurd H (by simp)
            ·rw [if_neg c40] at H; exact absurd H (by simp)
           ·rw [if_neg c39] at H; exact absurd H (by simp)
          ·rw [if_neg c37] at H; exact absurd H (by simp)
         ·rw [if_neg c36] at H; have c36b0 := beq_eq_false_iff_ne.mpr c36; have c36b1 := bne_iff_ne.mpr c36; by_cases c48 : a0_0 = 10
          ·rw [if_pos c48] at H; have c48b0 := beq_iff_eq.mpr c48; have c48b1 := bne_eq_false_iff_eq.mpr c48; clear c48; by_cases c49 : 0 < (l0_4.length : Int)
           ·rw [if_pos c49] at H; have c49b0 := decide_eq_true c49; have c49b1 : decide (0 < l0_4.length) = true := decide_eq_true (by omega); clear c49; obtain ⟨t81, A50, H⟩ := Ob H; (try dsimp only at H)
            by_cases c51 : 1 + t81.size ≤ 9223372036854775807
            ·rw [if_pos c51] at H; have c51b0 := eq_true c51; have c51b1 := decide_eq_true c51; try have c51b2 : (9223372036854775807 < 1 + t81.size) = False := eq_false (Nat.not_lt.2 c51)
             by_cases c52 : ((⟨#[40]⟩ : ByteArray) ++ t81).size + 1 ≤ 9223372036854775807
             ·rw [if_pos c52] at H; have c52b0 := eq_true c52; have c52b1 := decide_eq_true c52; try have c52b2 : (9223372036854775807 < ((⟨#[40]⟩ : ByteArray) ++ t81).size + 1) = False := eq_false (Nat.not_lt.2 c52)
              try have c52b3 : (9223372036854775807 < 1 + t81.size + 1) = False := eq_false (Nat.not_lt.2 (by have h_ := c52; simp only [ByteArray.size_append] at h_; exact h_))
              try have c52s : (9223372036854775807 < 1 + t81.size + 1) = False := by have h := c52b2; simp only [ByteArray.size_append] at h; exact h
              by_cases c53 : 1 < (l0_4.length : Int)
              ·rw [if_pos c53] at H; have c53b0 := decide_eq_true c53; have c53b1 : decide (1 < l0_4.length) = true := decide_eq_true (by omega); clear c53; obtain ⟨t86, A54, H⟩ := Ob H; (try dsimp only at H)
               by_cases c55 : (((⟨#[40]⟩ : ByteArray) ++ t81) ++ (⟨#[124]⟩ : ByteArray)).size + t86.size ≤ 9223372036854775807
               ·rw [if_pos c55] at H; have c55b0 := eq_true c55; have c55b1 := decide_eq_true c55; try have c55b2 : (9223372036854775807 < (((⟨#[40]⟩ : ByteArray) ++ t81) ++ (⟨#[124]⟩ : ByteArray)).size + t86.size) = False := eq_false (Nat.not_lt.2 c55)
                try have c55b3 : (9223372036854775807 < 1 + t81.size + 1 + t86.size) = False := eq_false (Nat.not_lt.2 (by have h_ := c55; simp only [ByteArray.size_append] at h_; exact h_))
                try have c55s : (9223372036854775807 < 1 + t81.size + 1 + t86.size) = False := by have h := c55b2; simp only [ByteArray.size_append] at h; exact h
                by_cases c56 : ((((⟨#[40]⟩ : ByteArray) ++ t81) ++ (⟨#[124]⟩ : ByteArray)) ++ t86).size + 1 ≤ 9223372036854775807
                ·rw [if_pos c56] at H; have c56b0 := eq_true c56; have c56b1 := decide_eq_true c56; try have c56b2 : (9223372036854775807 < ((((⟨#[40]⟩ : ByteArray) ++ t81) ++ (⟨#[124]⟩ : ByteArray)) ++ t86).size + 1) = False := eq_false (Nat.not_lt.2 c56)
                 try have c56b3 : (9223372036854775807 < 1 + t81.size + 1 + t86.size + 1) = False := eq_false (Nat.not_lt.2 (by have h_ := c56; simp only [ByteArray.size_append] at h_; exact h_))
                 try have c56s : (9223372036854775807 < 1 + t81.size + 1 + t86.size + 1) = False := by have h := c56b2; simp only [ByteArray.size_append] at h; exact h
                 obtain rfl := Option.some.inj H; try go_wp2
                 replace BK71 := Db BK71; replace HB := Qa (below_drew1 HB.out); have p72 : 0 ≤ (0 : Int) := (by omega); have q72 : 0 < (l0_4.length : Int) := Da; obtain ⟨ad72, A72_4, c152_4, e72, hx72_0, hx72_1, hx72_2, hx72_3, hx72_4, hl152_4, hi152_4⟩ := at_T32 HR0_4.out 0 p72 q72; have hw152_4 := hx72_4; (try rw [show ((0 : Int)).toNat = 0 from rfl] at hw152_4)
                 (try rw [show 0 * 5 = 0 from rfl] at hw152_4)
                 (try rw [Qr] at hw152_4)
                 have hw152_3 := hx72_3; (try rw [show ((0 : Int)).toNat = 0 from rfl] at hw152_3)
                 (try rw [show 0 * 5 = 0 from rfl] at hw152_3)
                 (try rw [Qr] at hw152_3)
                 have hw152_2 := hx72_2; (try rw [show ((0 : Int)).toNat = 0 from rfl] at hw152_2)
                 (try rw [show 0 * 5 = 0 from rfl] at hw152_2)
                 (try rw [Qr] at hw152_2)
                 have hw152_1 := hx72_1; (try rw [show ((0 : Int)).toNat = 0 from rfl] at hw152_1)
                 (try rw [show 0 * 5 = 0 from rfl] at hw152_1)
                 (try rw [Qr] at hw152_1)
                 have hw152_0 := hx72_0; (try rw [show ((0 : Int)).toNat = 0 from rfl] at hw152_0)
                 (try rw [show 0 * 5 = 0 from rfl] at hw152_0)
                 (try rw [Qr] at hw152_0)
                 cases e72
                 have qi72 : (0 < l0_4.length) = True := eq_true (by omega); (try rw [show ((0 : Int)).toNat = 0 from rfl] at hx72_0)
                 (try rw [show 0 * 5 = 0 from rfl] at hx72_0)
                 (try rw [Qr] at hx72_0)
                 (try rw [show ((0 : Int)).toNat = 0 from rfl] at hx72_1)
                 (try rw [show 0 * 5 = 0 from rfl] at hx72_1)
                 (try rw [Qr] at hx72_1)
                 (try rw [show ((0 : Int)).toNat = 0 from rfl] at hx72_2)
                 (try rw [show 0 * 5 = 0 from rfl] at hx72_2)
                 (try rw [Qr] at hx72_2)
                 (try rw [show ((0 : Int)).toNat = 0 from rfl] at hx72_3)
                 (try rw [show 0 * 5 = 0 from rfl] at hx72_3)
                 (try rw [Qr] at hx72_3)
                 (try rw [show ((0 : Int)).toNat = 0 from rfl] at hx72_4)
                 (try rw [show 0 * 5 = 0 from rfl] at hx72_4)
                 (try rw [Qr] at hx72_4)
                 replace hx72_0 := Cx HB hx72_0; replace hx72_1 := Cx HB hx72_1; replace hx72_2 := Cx HB hx72_2; replace hx72_3 := Cx HB hx72_3; replace hx72_4 := Cx HB hx72_4; have HR72_4 := Qa hi152_4; have HC152_4 := Qa hl152_4; clear hi152_4 hl152_4; replace p72 := eq_true p72; replace q72 := eq_true q72; have p76 : 0 ≤ (1 : Int) := (by omega); have q76 : 1 < (l0_4.length : Int) := Da; obtain ⟨ad76, A76_4, c154_4, e76, hx76_0, hx76_1, hx76_2, hx76_3, hx76_4, hl154_4, hi154_4⟩ := at_T32 HR0_4.out 1 p76 q76; have hw154_4 := hx76_4; (try rw [show ((1 : Int)).toNat = 1 from rfl] at hw154_4)
                 (try rw [show 1 * 5 = 5 from rfl] at hw154_4)
                 (try simp only [Nat.reduceMul, Nat.reduceEqDiff, Go.Addr.add, ↓reduceIte] at hw154_4)
                 have hw154_3 := hx76_3; (try rw [show ((1 : Int)).toNat = 1 from rfl] at hw154_3)
                 (try rw [show 1 * 5 = 5 from rfl] at hw154_3)
                 (try simp only [Nat.reduceMul, Nat.reduceEqDiff, Go.Addr.add, ↓reduceIte] at hw154_3)
                 have hw154_2 := hx76_2; (try rw [show ((1 : Int)).toNat = 1 from rfl] at hw154_2)
                 (try rw [show 1 * 5 = 5 from rfl] at hw154_2)
                 (try simp only [Nat.reduceMul, Nat.reduceEqDiff, Go.Addr.add, ↓reduceIte] at hw154_2)
                 have hw154_1 := hx76_1; (try rw [show ((1 : Int)).toNat = 1 from rfl] at hw154_1)
                 (try rw [show 1 * 5 = 5 from rfl] at hw154_1)
                 (try simp only [Nat.reduceMul, Nat.reduceEqDiff, Go.Addr.add, ↓reduceIte] at hw154_1)
                 have hw154_0 := hx76_0; (try rw [show ((1 : Int)).toNat = 1 from rfl] at hw154_0)
                 (try rw [show 1 * 5 = 5 from rfl] at hw154_0)
                 (try simp only [Nat.reduceMul, Nat.reduceEqDiff, Go.Addr.add, ↓reduceIte] at hw154_0)
                 obtain rfl : ad72 = ad76 := (by injection e76); (try simp only [show (1 : Int).toNat = 1 from rfl, Nat.reduceMul, Nat.reduceEqDiff, Go.Addr.add, ↓reduceIte] at hx76_0)
                 (try simp only [show (1 : Int).toNat = 1 from rfl, Nat.reduceMul, Nat.reduceEqDiff, Go.Addr.add, ↓reduceIte] at hx76_1)
                 (try simp only [show (1 : Int).toNat = 1 from rfl, Nat.reduceMul, Nat.reduceEqDiff, Go.Addr.add, ↓reduceIte] at hx76_2)
                 (try simp only [show (1 : Int).toNat = 1 from rfl, Nat.reduceMul, Nat.reduceEqDiff, Go.Addr.add, ↓reduceIte] at hx76_3)
                 (try simp only [show (1 : Int).toNat = 1 from rfl, Nat.reduceMul, Nat.reduceEqDiff, Go.Addr.add, ↓reduceIte] at hx76_4)
                 have qi76 : (1 < l0_4.length) = True := eq_true (by omega); (try rw [show ((1 : Int)).toNat = 1 from rfl] at hx76_0)
                 (try rw [show 1 * 5 = 5 from rfl] at hx76_0)
                 (try rw [show ((1 : Int)).toNat = 1 from rfl] at hx76_1)
                 (try rw [show 1 * 5 = 5 from rfl] at hx76_1)
                 (try rw [show ((1 : Int)).toNat = 1 from rfl] at hx76_2)
                 (try rw [show 1 * 5 = 5 from rfl] at hx76_2)
                 (try rw [show ((1 : Int)).toNat = 1 from rfl] at hx76_3)
                 (try rw [show 1 * 5 = 5 from rfl] at hx76_3)
                 (try rw [show ((1 : Int)).toNat = 1 from rfl] at hx76_4)
                 (try rw [show 1 * 5 = 5 from rfl] at hx76_4)
                 replace hx76_0 := Cx HB hx76_0; replace hx76_1 := Cx HB hx76_1; replace hx76_2 := Cx HB hx76_2; replace hx76_3 := Cx HB hx76_3; replace hx76_4 := Cx HB hx76_4; have HR76_4 := Qa hi154_4; have HC154_4 := Qa hl154_4; clear hi154_4 hl154_4; replace p76 := eq_true p76; replace q76 := eq_true q76; refine start_ (n := 17) (S := fun w' => w'.cell? ⟨gb71, 0, none⟩ = some (.int .i64 a0_0) ∧ w'.cell? ⟨gb71, 1, none⟩ = some (.int .i64 a0_1) ∧ w'.cell? ⟨gb71, 2, none⟩ = some (.int .i64 a0_2) ∧ w'.cell? ⟨gb71, 3, none⟩ = some (.int .i64 a0_3) ∧ w'.cell? ⟨gb71, 4, none⟩ = some (.slice (some ad72) l0_4.length c0_4) ∧ w'.cell? ad72 = some (.int .i64 ((rd_T32 l0_4 0).f0)) ∧ w'.cell? ⟨ad72.block, ad72.off + 1, none⟩ = some (.int .i64 ((rd_T32 l0_4 0).f1)) ∧ w'.cell? ⟨ad72.block, ad72.off + 2, none⟩ = some (.int .i64 ((rd_T32 l0_4 0).f2)) ∧ w'.cell? ⟨ad72.block, ad72.off + 3, none⟩ = some (.int .i64 ((rd_T32 l0_4 0).f3)) ∧ w'.cell? ⟨ad72.block, ad72.off + 4, none⟩ = some (.slice A72_4 ((rd_T32 l0_4 0).f4).length c152_4) ∧ w'.cell? ⟨ad72.block, ad72.off + 5, none⟩ = some (.int .i64 ((rd_T32 l0_4 1).f0)) ∧ w'.cell? ⟨ad72.block, ad72.off + 5 + 1, none⟩ = some (.int .i64 ((rd_T32 l0_4 1).f1)) ∧ w'.cell? ⟨ad72.block, ad72.off + 5 + 2, none⟩ = some (.int .i64 ((rd_T32 l0_4 1).f2)) ∧ w'.cell? ⟨ad72.block, ad72.off + 5 + 3, none⟩ = some (.int .i64 ((rd_T32 l0_4 1).f3)) ∧ w'.cell? ⟨ad72.block, ad72.off + 5 + 4, none⟩ = some (.slice A76_4 ((rd_T32 l0_4 1).f4).length c154_4)) (ds := []) #[false, false, false, false, false, false, false, false, false, false, false, false, false, false, false, false, false] (by kernel_rfl) rfl rfl ⟨(Qd BK71.out 0).trans rfl, (Qd BK71.out 1).trans rfl, (Qd BK71.out 2).trans rfl, (Qd BK71.out 3).trans rfl, (Qd BK71.out 4).trans rfl, (Cx HB hw152_0), (Cx HB hw152_1), (Cx HB hw152_2), (Cx HB hw152_3), (Cx HB hw152_4), (Cx HB hw154_0), (Cx HB hw154_1), (Cx HB hw154_2), (Cx HB hw154_3), (Cx HB hw154_4)⟩ (fun hHeld => ?_); refine with_tabW impl_Formula_text.tab17 impl_Formula_text.bits17 (fun HT_ HW_ => ?_); generalize wc.drew = w57 at BK71 HB HR72_4 HR76_4 hx72_0 hx72_1 hx72_2 hx72_3 hx72_4 hx76_0 hx76_1 hx76_2 hx76_3 hx76_4 hHeld ⊢; refine Pt 0 76 HT_ ?_; refine Pt 4 80 HT_ ?_; refine Pt 8 84 HT_ ?_; refine Pt 12 88 HT_ ?_; refine take_ (i := 1) (N := some 77) (v := ?_) (a' := ?_) #[true, true, false, false, true, false, false, false, true, false, false, false, true, false, false, false, false] rfl rfl (take_ofW HT_.out HW_.out (by kernel_rfl)) (fun _ _ _ h => h) (Or.inl ⟨by rfl, ?_⟩) hHeld ?_ ?_; rotate_left
                 ·rintro w' ⟨s0, s1, s2, s3, s4, s5, s6, s7, s8, s9, s10, s11, s12, s13, s14⟩; go_simp; with_reducible rfl
                 rotate_left
                 ·simp only [Act.put, List.setIfInBounds_toArray, List.set_cons_zero, List.set_cons_succ, i64_w, i32_w]; rfl
                 refine Pt 2 78 HT_ ?_; refine take_ (i := 3) (N := some 79) (v := ?_) (a' := ?_) #[true, true, true, true, true, false, false, false, true, false, false, false, true, false, false, false, false] rfl rfl (take_ofW HT_.out HW_.out (by kernel_rfl)) (fun _ _ _ h => h) (Or.inl ⟨by rfl, ?_⟩) hHeld ?_ ?_; rotate_left
                 ·rintro w' ⟨s0, s1, s2, s3, s4, s5, s6, s7, s8, s9, s10, s11, s12, s13, s14⟩; go_simp; with_reducible rfl
                 rotate_left
                 ·simp only [Act.put, List.setIfInBounds_toArray, List.set_cons_zero, List.set_cons_succ, i64_w, i32_w]; rfl
                 refine take_ (i := 9) (N := some 85) (v := ?_) (a' := ?_) #[true, true, true, true, true, false, false, false, true, true, false, false, true, false, false, false, false] rfl rfl (take_ofW HT_.out HW_.out (by kernel_rfl)) (fun _ _ _ h => h) (Or.inl ⟨by rfl, ?_⟩) hHeld ?_ ?_; rotate_left
                 ·rintro w' ⟨s0, s1, s2, s3, s4, s5, s6, s7, s8, s9, s10, s11, s12, s13, s14⟩; go_simp; with_reducible rfl
                 rotate_left
                 ·simp only [Act.put, List.setIfInBounds_toArray, List.set_cons_zero, List.set_cons_succ, i64_w, i32_w]; rfl
                 refine Pt 10 86 HT_ ?_; refine take_ (i := 11) (N := some 87) (v := ?_) (a' := ?_) #[true, true, true, true, true, false, false, false, true, true, true, true, true, false, false, false, false] rfl rfl (take_ofW HT_.out HW_.out (by kernel_rfl)) (fun _ _ _ h => h) (Or.inl ⟨by rfl, ?_⟩) hHeld ?_ ?_; rotate_left
                 ·rintro w' ⟨s0, s1, s2, s3, s4, s5, s6, s7, s8, s9, s10, s11, s12, s13, s14⟩; go_simp; with_reducible rfl
                 rotate_left
                 ·simp only [Act.put, List.setIfInBounds_toArray, List.set_cons_zero, List.set_cons_succ, i64_w, i32_w]; rfl
                 refine Ot 5 81 HT_ (fun K hK => ?_); refine goes_ Try.func47 (by kernel_rfl) rfl #[.agg #[.int .i64 ((rd_T32 l0_4 0).f0), .int .i64 ((rd_T32 l0_4 0).f1), .int .i64 ((rd_T32 l0_4 0).f2), .int .i64 ((rd_T32 l0_4 0).f3), .slice A72_4 ((rd_T32 l0_4 0).f4).length c152_4], .slice A1 l1.length c1] (by rfl) rfl rfl Zm ?_; with_reducible refine (ih kj20 (by have := HJ3.out; have := HJ20.out; omega) ((rd_T32 l0_4 0).f0) ((rd_T32 l0_4 0).f1) ((rd_T32 l0_4 0).f2) ((rd_T32 l0_4 0).f3) _ _ ((rd_T32 l0_4 0).f4) _ _ l1 t81 _ ?side1 ?side2 ?side3 ?side4 A50.out).mono ?_
                 (case side1 => exact Bc (Ql HR72_4.out HB.out))
                 (case side2 => exact HC152_4.out)
                 (case side3 => exact Bc (Ql HR1.out HB.out))
                 (case side4 => exact HC1.out)
                 rintro e w58 ⟨rfl, hb⟩; refine ⟨_, rfl, ?_⟩; replace BK71 := Kb BK71 hb; replace HB := Sb (Bb1 HB.out GE71.out) hb; clear hb; refine hK.out _ _ ⟨(Qd BK71.out 0).trans rfl, (Qd BK71.out 1).trans rfl, (Qd BK71.out 2).trans rfl, (Qd BK71.out 3).trans rfl, (Qd BK71.out 4).trans rfl, (Cx HB hw152_0), (Cx HB hw152_1), (Cx HB hw152_2), (Cx HB hw152_3), (Cx HB hw152_4), (Cx HB hw154_0), (Cx HB hw154_1), (Cx HB hw154_2), (Cx HB hw154_3), (Cx HB hw154_4)⟩ (fun hHeld => ?_); clear hK K; refine Nn 81 ?_; refine Pt 6 82 HT_ ?_; refine Pt 7 83 HT_ ?_; refine Ot 13 89 HT_ (fun K hK => ?_); refine goes_ Try.func47 (by kernel_rfl) rfl #[.agg #[.int .i64 ((rd_T32 l0_4 1).f0), .int .i64 ((rd_T32 l0_4 1).f1), .int .i64 ((rd_T32 l0_4 1).f2), .int .i64 ((rd_T32 l0_4 1).f3), .slice A76_4 ((rd_T32 l0_4 1).f4).length c154_4], .slice A1 l1.length c1] (by rfl) rfl rfl Zm ?_; with_reducible refine (ih kj20 (by have := HJ3.out; have := HJ20.out; omega) ((rd_T32 l0_4 1).f0) ((rd_T32 l0_4 1).f1) ((rd_T32 l0_4 1).f2) ((rd_T32 l0_4 1).f3) _ _ ((rd_T32 l0_4 1).f4) _ _ l1 t86 _ ?side1 ?side2 ?side3 ?side4 A54.out).mono ?_
                 (case side1 => exact Bc (Ql HR76_4.out HB.out))
                 (case side2 => exact HC154_4.out)
                 (case side3 => exact Bc (Ql HR1.out HB.out))
                 (case side4 => exact HC1.out)
                 rintro e w59 ⟨rfl, hb⟩; refine ⟨_, rfl, ?_⟩; replace BK71 := Kb BK71 hb; replace HB := Sb (Bb1 HB.out GE71.out) hb; clear hb; refine hK.out _ _ ⟨(Qd BK71.out 0).trans rfl, (Qd BK71.out 1).trans rfl, (Qd BK71.out 2).trans rfl, (Qd BK71.out 3).trans rfl, (Qd BK71.out 4).trans rfl, (Cx HB hw152_0), (Cx HB hw152_1), (Cx HB hw152_2), (Cx HB hw152_3), (Cx HB hw152_4), (Cx HB hw154_0), (Cx HB hw154_1), (Cx HB hw154_2), (Cx HB hw154_3), (Cx HB hw154_4)⟩ (fun hHeld => ?_); clear hK K; refine Nn 89 ?_; refine Pt 14 90 HT_ ?_; refine Pt 15 91 HT_ ?_; refine Pt 16 4 HT_ ?_; refine done_ (done_of HT_.out (by kernel_rfl)) ?_; try go_wp2
                 go_ret; exact ⟨Ze, Bb1 HB.out GE71.out⟩
                ·rw [if_neg c56] at H; exact absurd H (by simp)
               ·rw [if_neg c55] at H; exact absurd H (by simp)
              ·rw [if_neg c53] at H; exact absurd H (by simp)
             ·rw [if_neg c52] at H; exact absurd H (by simp)
            ·rw [if_neg c51] at H; exact absurd H (by simp)
           ·rw [if_neg c49] at H; exact absurd H (by simp)
          ·rw [if_neg c48] at H; have c48b0 := beq_eq_false_iff_ne.mpr c48; have c48b1 := bne_iff_ne.mpr c48; have HC60 := Qa H; clear H; go_upto_if 92 with (fail)
           go_cut [92] (fun v92 wc => ∃ (kq : Nat) (x92_59 : Bool), v92 = .bool x92_59 ∧ Qf (impl_Formula_text.j2 kq l1 t79 x92_59 a0_0 a0_1 a0_2 a0_3 l0_4 = some r) ∧ Qf (kq ≤ kj20) ∧ Qf (wc.heap[gb71]? = some (.cells #[.int .i64 a0_0, .int .i64 a0_1, .int .i64 a0_2, .int .i64 a0_3, (.slice A0_4 l0_4.length c0_4)] 32 (0, 0))) ∧ Qf (Below w.heap.size w wc))
           case first =>
            have H := HC60.out; clear HC60; by_cases c61 : a0_0 = 11
            ·rw [if_pos c61] at H; have c61b0 := beq_iff_eq.mpr c61; have c61b1 := bne_eq_false_iff_eq.mpr c61; clear c61; (first | rw [c61b0] | (simp only [i64_w, i32_w]; rw [c61b0]) | skip)
             have H' := Qa H; clear H; go_wp2; go_meet
             case rel => exact ⟨_, ((a0_0 == 11)), Zf, H', ⟨by have := HJ3.out; have := HJ20.out; first | omega | exact Nat.le_refl _⟩, ⟨Ba BK71.out⟩, ⟨Bb1 HB.out GE71.out⟩⟩
            ·rw [if_neg c61] at H; have c61b0 := beq_eq_false_iff_ne.mpr c61; have c61b1 := bne_iff_ne.mpr c61; (first | rw [c61b0] | (simp only [i64_w, i32_w]; rw [c61b0]) | skip)
             have H' := Qa H; clear H; go_wp2; go_meet
             case rel => exact ⟨_, ((a0_0 == 12)), Zf, H', ⟨by have := HJ3.out; have := HJ20.out; first | omega | exact Nat.le_refl _⟩, ⟨Ba BK71.out⟩, ⟨Bb1 HB.out GE71.out⟩⟩
           case rest =>
            clear HC60; (try clear c1)
            (try clear p1)
            (try clear q1)
            (try clear hx1)
            (try clear qi1)
            (try clear p2)
            (try clear c3)
            (try clear c4)
            (try clear c5)
            (try clear c6)
            (try clear c14)
            (try clear hx14)
            (try clear c15)
            (try clear p15)
            (try clear q15)
            (try clear hx15)
            (try clear qi15)
            (try clear c36)
            (try clear c36b0)
            (try clear c36b1)
            (try clear c37)
            (try clear c39)
            (try clear c40)
            (try clear c41)
            (try clear c43)
            (try clear c44)
            (try clear c47)
            (try clear c48)
            (try clear c48b0)
            (try clear c48b1)
            (try clear c49)
            (try clear c49b0)
            (try clear c49b1)
            (try clear c51)
            (try clear c51b0)
            (try clear c51b1)
            (try clear c51b2)
            (try clear c52)
            (try clear c52b0)
            (try clear c52b1)
            (try clear c52b2)
            (try clear c53)
            (try clear c53b0)
            (try clear c53b1)
            (try clear c55)
            (try clear c55b0)
            (try clear c55b1)
            (try clear c55b2)
            (try clear c56)
            (try clear c56b0)
            (try clear c56b1)
            (try clear c56b2)
            (try clear c61)
            (try clear c61b0)
            (try clear c61b1)
            (try clear hx73_0)
            (try clear hx73_1)
            (try clear hx73_2)
            (try clear hx73_3)
            (try clear hx73_4)
            (try clear hx75_0)
            (try clear hx75_1)
            (try clear hx75_2)
            (try clear hx75_3)
            (try clear hx75_4)
            (try clear hx72_0)
            (try clear hx72_1)
            (try clear hx72_2)
            (try clear hx72_3)
            (try clear hx72_4)
            (try clear hx76_0)
            (try clear hx76_1)
            (try clear hx76_2)
            (try clear hx76_3)
            (try clear hx76_4)
            (try clear p75)
            (try clear p72)
            (try clear p76)
            (try clear q75)
            (try clear q72)
            (try clear q76)
            obtain ⟨kq, x92_59, rfl, HA, HJ59, BK71, HB⟩ := hcut; cases kq with
            | zero => exact absurd HA.out (by simp [impl_Formula_text.j2])
            | succ kj59 =>
             have H := HA.out; clear HA; simp only [impl_Formula_text.j2] at H; by_cases c62 : x92_59 = true
             ·subst c62; rw [if_pos rfl] at H; obtain ⟨t83, A63, H⟩ := Ob H; (try dsimp only at H)
              by_cases c64 : t79.size + t83.size ≤ 9223372036854775807
              ·rw [if_pos c64] at H; have c64b0 := eq_true c64; have c64b1 := decide_eq_true c64; try have c64b2 : (9223372036854775807 < t79.size + t83.size) = False := eq_false (Nat.not_lt.2 c64)
               by_cases c65 : (t79 ++ t83).size + 1 ≤ 9223372036854775807
               ·rw [if_pos c65] at H; have c65b0 := eq_true c65; have c65b1 := decide_eq_true c65; try have c65b2 : (9223372036854775807 < (t79 ++ t83).size + 1) = False := eq_false (Nat.not_lt.2 c65)
                try have c65b3 : (9223372036854775807 < t79.size + t83.size + 1) = False := eq_false (Nat.not_lt.2 (by have h_ := c65; simp only [ByteArray.size_append] at h_; exact h_))
                try have c65s : (9223372036854775807 < t79.size + t83.size + 1) = False := by have h := c65b2; simp only [ByteArray.size_append] at h; exact h
                by_cases c66 : 0 < (l0_4.length : Int)
                ·rw [if_pos c66] at H; have c66b0 := decide_eq_true c66; have c66b1 : decide (0 < l0_4.length) = true := decide_eq_true (by omega); clear c66; obtain ⟨t93, A67, H⟩ := Ob H; (try dsimp only at H)
                 by_cases c68 : ((t79 ++ t83) ++ (⟨#[46]⟩ : ByteArray)).size + t93.size ≤ 9223372036854775807
                 ·rw [if_pos c68] at H; have c68b0 := eq_true c68; have c68b1 := decide_eq_true c68; try have c68b2 : (9223372036854775807 < ((t79 ++ t83) ++ (⟨#[46]⟩ : ByteArray)).size + t93.size) = False := eq_false (Nat.not_lt.2 c68)
                  try have c68b3 : (9223372036854775807 < t79.size + t83.size + 1 + t93.size) = False := eq_false (Nat.not_lt.2 (by have h_ := c68; simp only [ByteArray.size_append] at h_; exact h_))
                  try have c68s : (9223372036854775807 < t79.size + t83.size + 1 + t93.size) = False := by have h := c68b2; simp only [ByteArray.size_append] at h; exact h
                  obtain rfl := Option.some.inj H; try go_wp2
                  replace BK71 := Db BK71; replace HB := Qa (below_drew1 HB.out); have p74 : 0 ≤ (0 : Int) := (by omega); have q74 : 0 < (l0_4.length : Int) := Da; obtain ⟨ad74, A74_4, c157_4, e74, hx74_0, hx74_1, hx74_2, hx74_3, hx74_4, hl157_4, hi157_4⟩ := at_T32 HR0_4.out 0 p74 q74; have hw157_4 := hx74_4; (try rw [show ((0 : Int)).toNat = 0 from rfl] at hw157_4)
                  (try rw [show 0 * 5 = 0 from rfl] at hw157_4)
                  (try rw [Qr] at hw157_4)
                  have hw157_3 := hx74_3; (try rw [show ((0 : Int)).toNat = 0 from rfl] at hw157_3)
                  (try rw [show 0 * 5 = 0 from rfl] at hw157_3)
                  (try rw [Qr] at hw157_3)
                  have hw157_2 := hx74_2; (try rw [show ((0 : Int)).toNat = 0 from rfl] at hw157_2)
                  (try rw [show 0 * 5 = 0 from rfl] at hw157_2)
                  (try rw [Qr] at hw157_2)
                  have hw157_1 := hx74_1; (try rw [show ((0 : Int)).toNat = 0 from rfl] at hw157_1)
                  (try rw [show 0 * 5 = 0 from rfl] at hw157_1)
                  (try rw [Qr] at hw157_1)
                  have hw157_0 := hx74_0; (try rw [show ((0 : Int)).toNat = 0 from rfl] at hw157_0)
                  (try rw [show 0 * 5 = 0 from rfl] at hw157_0)
                  (try rw [Qr] at hw157_0)
                  cases e74
                  have qi74 : (0 < l0_4.length) = True := eq_true (by omega); (try rw [show ((0 : Int)).toNat = 0 from rfl] at hx74_0)
                  (try rw [show 0 * 5 = 0 from rfl] at hx74_0)
                  (try rw [Qr] at hx74_0)
                  (try rw [show ((0 : Int)).toNat = 0 from rfl] at hx74_1)
                  (try rw [show 0 * 5 = 0 from rfl] at hx74_1)
                  (try rw [Qr] at hx74_1)
                  (try rw [show ((0 : Int)).toNat = 0 from rfl] at hx74_2)
                  (try rw [show 0 * 5 = 0 from rfl] at hx74_2)
                  (try rw [Qr] at hx74_2)
                  (try rw [show ((0 : Int)).toNat = 0 from rfl] at hx74_3)
                  (try rw [show 0 * 5 = 0 from rfl] at hx74_3)
                  (try rw [Qr] at hx74_3)
                  (try rw [show ((0 : Int)).toNat = 0 from rfl] at hx74_4)
                  (try rw [show 0 * 5 = 0 from rfl] at hx74_4)
                  (try rw [Qr] at hx74_4)
                  replace hx74_0 := Cx HB hx74_0; replace hx74_1 := Cx HB hx74_1; replace hx74_2 := Cx HB hx74_2; replace hx74_3 := Cx HB hx74_3; replace hx74_4 := Cx HB hx74_4; have HR74_4 := Qa hi157_4; have HC157_4 := Qa hl157_4; clear hi157_4 hl157_4; replace p74 := eq_true p74; replace q74 := eq_true q74; refine start_ (n := 14) (S := fun w' => w'.cell? ⟨gb71, 0, none⟩ = some (.int .i64 a0_0) ∧ w'.cell? ⟨gb71, 1, none⟩ = some (.int .i64 a0_1) ∧ w'.cell? ⟨gb71, 2, none⟩ = some (.int .i64 a0_2) ∧ w'.cell? ⟨gb71, 3, none⟩ = some (.int .i64 a0_3) ∧ w'.cell? ⟨gb71, 4, none⟩ = some (.slice (some ad74) l0_4.length c0_4) ∧ w'.cell? ad74 = some (.int .i64 ((rd_T32 l0_4 0).f0)) ∧ w'.cell? ⟨ad74.block, ad74.off + 1, none⟩ = some (.int .i64 ((rd_T32 l0_4 0).f1)) ∧ w'.cell? ⟨ad74.block, ad74.off + 2, none⟩ = some (.int .i64 ((rd_T32 l0_4 0).f2)) ∧ w'.cell? ⟨ad74.block, ad74.off + 3, none⟩ = some (.int .i64 ((rd_T32 l0_4 0).f3)) ∧ w'.cell? ⟨ad74.block, ad74.off + 4, none⟩ = some (.slice A74_4 ((rd_T32 l0_4 0).f4).length c157_4)) (ds := []) #[false, false, false, false, false, false, false, false, false, false, false, false, false, false] (by kernel_rfl) rfl rfl ⟨(Qd BK71.out 0).trans rfl, (Qd BK71.out 1).trans rfl, (Qd BK71.out 2).trans rfl, (Qd BK71.out 3).trans rfl, (Qd BK71.out 4).trans rfl, (Cx HB hw157_0), (Cx HB hw157_1), (Cx HB hw157_2), (Cx HB hw157_3), (Cx HB hw157_4)⟩ (fun hHeld => ?_); refine with_tabW impl_Formula_text.tab20 impl_Formula_text.bits20 (fun HT_ HW_ => ?_); generalize wc.drew = w69 at BK71 HB HR74_4 hx74_0 hx74_1 hx74_2 hx74_3 hx74_4 hHeld ⊢; refine Pt 0 95 HT_ ?_; refine Pt 1 96 HT_ ?_; refine Pt 6 101 HT_ ?_; refine Pt 10 105 HT_ ?_; refine Tu10 2 97 HT_ HW_ hHeld ?_; refine Tu10 7 102 HT_ HW_ hHeld ?_; refine Pt 8 103 HT_ ?_; refine Tu10 9 104 HT_ HW_ hHeld ?_; refine Ot 3 98 HT_ (fun K hK => ?_); refine goes_ Try.func84 (by kernel_rfl) rfl #[.int .i64 a0_2] (by rfl) rfl rfl Zm ?_; with_reducible refine (impl_logicName.calls a0_2 t83 _ A63.out).mono ?_
                  rintro e w' ⟨rfl, ⟨nd, rfl⟩⟩; refine ⟨_, rfl, ?_⟩; refine hK.out _ _ ⟨(Qd BK71.out 0).trans rfl, (Qd BK71.out 1).trans rfl, (Qd BK71.out 2).trans rfl, (Qd BK71.out 3).trans rfl, (Qd BK71.out 4).trans rfl, (Cx HB hw157_0 :), (Cx HB hw157_1 :), (Cx HB hw157_2 :), (Cx HB hw157_3 :), (Cx HB hw157_4 :)⟩ (fun hHeld => ?_); clear hK K; refine Nn 98 ?_; refine Pt 4 99 HT_ ?_; refine Pt 5 100 HT_ ?_; refine Ot 11 106 HT_ (fun K hK => ?_); refine goes_ Try.func47 (by kernel_rfl) rfl #[.agg #[.int .i64 ((rd_T32 l0_4 0).f0), .int .i64 ((rd_T32 l0_4 0).f1), .int .i64 ((rd_T32 l0_4 0).f2), .int .i64 ((rd_T32 l0_4 0).f3), .slice A74_4 ((rd_T32 l0_4 0).f4).length c157_4], .slice A1 l1.length c1] (by rfl) rfl rfl Zm ?_; with_reducible refine (ih kj59 (by have := HJ3.out; have := HJ20.out; have := HJ59.out; omega) ((rd_T32 l0_4 0).f0) ((rd_T32 l0_4 0).f1) ((rd_T32 l0_4 0).f2) ((rd_T32 l0_4 0).f3) _ _ ((rd_T32 l0_4 0).f4) _ _ l1 t93 _ ?side1 ?side2 ?side3 ?side4 A67.out).mono ?_
                  (case side1 => exact Bc (Ql HR74_4.out (Bb1 HB.out GE71.out)))
                  (case side2 => exact HC157_4.out)
                  (case side3 => exact Bc (Ql HR1.out (Bb1 HB.out GE71.out)))
                  (case side4 => exact HC1.out)
                  rintro e w70 ⟨rfl, hb⟩; refine ⟨_, rfl, ?_⟩; replace BK71 := Kb BK71 hb; replace HB := Sb (Bb1 HB.out GE71.out) hb; clear hb; refine hK.out _ _ ⟨(Qd BK71.out 0).trans rfl, (Qd BK71.out 1).trans rfl, (Qd BK71.out 2).trans rfl, (Qd BK71.out 3).trans rfl, (Qd BK71.out 4).trans rfl, (Cx HB hw157_0), (Cx HB hw157_1), (Cx HB hw157_2), (Cx HB hw157_3), (Cx HB hw157_4)⟩ (fun hHeld => ?_); clear hK K; refine Nn 106 ?_; refine Pt 12 107 HT_ ?_; refine Pt 13 4 HT_ ?_; refine done_ (done_of HT_.out (by kernel_rfl)) ?_; try go_wp2
                  go_ret; exact ⟨Ze, Bb1 HB.out GE71.out⟩
                 ·rw [if_neg c68] at H; exact absurd H (by simp)
                ·rw [if_neg c66] at H; exact absurd H (by simp)
               ·rw [if_neg c65] at H; exact absurd H (by simp)
              ·rw [if_neg c64] at H; exact absurd H (by simp)
             ·replace c62 := Bool.eq_false_iff.mpr c62; subst c62; rw [if_neg (show ¬ (false = true) by decide)] at H; obtain rfl := Option.some.inj H; go_wp2; go_ret; exact ⟨Ze, Bb1 HB.out GE71.out⟩
end Go.Proofs.Ytoljagpjejpmpaa.PFnExactParseFormula
