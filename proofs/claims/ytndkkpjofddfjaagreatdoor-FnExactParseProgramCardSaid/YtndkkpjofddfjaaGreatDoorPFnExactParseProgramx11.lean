/- A part of the walk through the printed functions; no condition. -/
import Derived.Test.YtndkkpjofddfjaaGreatDoorXAuto
import Derived.Test.YtndkkpjofddfjaaGreatDoorPFnExactParseProgramx0
import Derived.Test.YtndkkpjofddfjaaGreatDoorPFnExactParseProgramx10
namespace Go.Proofs.YtndkkpjofddfjaaGreatDoor.PFnExactParseProgram
open Go.RowKit Go.Proofs.YtndkkpjofddfjaaGreatDoorW.PrintWords Go.Proofs.YtndkkpjofddfjaaGreatDoorW.PrintLast Go.Proofs.YtndkkpjofddfjaaGreatDoorW.PrintMore
attribute [local go_sem] max2_int min2_int max_two min_two max_three min_three max_four min_four
set_option maxHeartbeats 32000000
set_option maxRecDepth 100000
attribute [local irreducible] Go.World.setCell
set_option linter.unusedVariables false
set_option linter.unusedSimpArgs false
open Go.Proofs.YtndkkpjofddfjaaGreatDoorW.PrintWords.Aside0 renaming mk → Qa
open Go.Proofs.YtndkkpjofddfjaaGreatDoorW.PrintWords renaming gate_callee → Qd, Aside0 → Qe, gate_dst → Ql, below_drew1 → Qy
open Go.Proofs.Tryz renaming prog → Qm
open Go.RowKit.Below renaming refl → Qq
open Go.RowKit renaming Below → Qv
def impl_ProgramText.l0 : Nat → List ByteArray → List (S52) → Int → Int → Option (ByteArray)
 | 0, _, _, _, _ => none
 | k + 1, x3, x17, x18, x19 => if x19 < x18 then (if 0 ≤ x19 then (if x19 < (x17.length : Int) then ((impl_FormatInt.f ((rd_T52 x17 x19).f0)).bind fun t44 => (if t44.size + 1 ≤ 9223372036854775807 then ((impl_FormatInt.f ((rd_T52 x17 x19).f1)).bind fun t45 => (if (t44 ++ (⟨#[32]⟩ : ByteArray)).size + t45.size ≤ 9223372036854775807 then (if ((t44 ++ (⟨#[32]⟩ : ByteArray)) ++ t45).size + 1 ≤ 9223372036854775807 then ((impl_StmtText.f k ((rd_T52 x17 x19).f2.f0) ((rd_T52 x17 x19).f2.f1) ((rd_T52 x17 x19).f2.f2)).bind fun t46 => (if (((t44 ++ (⟨#[32]⟩ : ByteArray)) ++ t45) ++ (⟨#[32]⟩ : ByteArray)).size + t46.size ≤ 9223372036854775807 then (if x3.length < 8796093022208 then (impl_ProgramText.l0 k (x3 ++ [(((t44 ++ (⟨#[32]⟩ : ByteArray)) ++ t45) ++ (⟨#[32]⟩ : ByteArray)) ++ t46]) x17 x18 (wrap64 (x19 + 1))) else (none)) else (none))) else (none)) else (none))) else (none))) else (none)) else (none)) else ((impl_Join.f x3 (⟨#[59]⟩ : ByteArray)).bind fun t55 => (some t55))
def impl_ProgramText.f (k : Nat) (l0_0 : List ByteArray) (a0_1 : Int) (l0_2 : List (S52)) : Option (ByteArray) := (impl_IsProgram.f k l0_0 a0_1 l0_2).bind fun t54 => (if t54 = true then ((impl_Join.f l0_0 (⟨#[32]⟩ : ByteArray)).bind fun t47 => ((impl_FormatInt.f a0_1).bind fun t48 => (impl_ProgramText.l0 k (([t47, t48] : List ByteArray)) l0_2 (l0_2.length : Int) 0))) else (some (⟨#[]⟩ : ByteArray)))
theorem impl_ProgramText.mono_l : ∀ k, (∀ y0 y1 y2 y3, LeO (impl_ProgramText.l0 k y0 y1 y2 y3) (impl_ProgramText.l0 (k + 1) y0 y1 y2 y3))
 | 0 => fun _ _ _ _ r h => by simp [impl_ProgramText.l0] at h
 | k + 1 => by
  have ih0 := impl_ProgramText.mono_l k
  ·intro y0 y1 y2 y3; unfold impl_ProgramText.l0; exact Lm3 ih0 impl_IsProgram.mono impl_StmtText.mono
theorem impl_ProgramText.mono : ∀ a0 a1 a2 k, LeO (impl_ProgramText.f k a0 a1 a2) (impl_ProgramText.f (k + 1) a0 a1 a2) := by
 intro a0 a1 a2 k
 have ih0 := impl_ProgramText.mono_l k
 unfold impl_ProgramText.f
 exact Lm3 ih0 impl_IsProgram.mono impl_StmtText.mono
def impl_ProgramText.T3 : Bool × List (List Nat × List Nat) := (true, [([], []), ([0], [0]), ([1], [1]), ([], []), ([3], [3]), ([4, 2], [4]), ([2, 5], [2, 5]), ([6, 5, 0, 1, 2, 3, 4, 5, 6], [6])])
def impl_ProgramText.B3 : List Nat := [0, 1, 3, 0, 8, 31, 63, 127]
theorem impl_ProgramText.tab3 : rtab .any (opsOf Tryz.f9 3) = impl_ProgramText.T3 := by kernel_rfl
theorem impl_ProgramText.bits3 : waitsOk impl_ProgramText.T3.2 impl_ProgramText.B3 = true := by kernel_rfl
def impl_ProgramText.T7 : Bool × List (List Nat × List Nat) := (true, [([], []), ([], []), ([1], [1]), ([2], [2]), ([3], [3]), ([], []), ([5], [5]), ([6, 3], [6]), ([4, 7], [4, 7]), ([8], [8]), ([], []), ([10], [10]), ([11, 7], [11]), ([9, 12], [9, 12]), ([13], [13]), ([0, 14, 12], [0, 14]), ([15, 15, 0, 1, 2, 3, 4, 5, 6, 7, 8, 9, 10, 11, 12, 13, 14, 15], [0, 15])])
def impl_ProgramText.B7 : List Nat := [0, 0, 2, 6, 14, 0, 32, 110, 254, 510, 0, 1024, 3310, 8190, 16382, 32767, 65535]
theorem impl_ProgramText.tab7 : rtab .any (opsOf Tryz.f9 7) = impl_ProgramText.T7 := by kernel_rfl
theorem impl_ProgramText.bits7 : waitsOk impl_ProgramText.T7.2 impl_ProgramText.B7 = true := by kernel_rfl
theorem impl_ProgramText.calls (k : Nat) (A0_0 : Option Addr) (c0_0 : Nat) (l0_0 : List ByteArray) (a0_1 : Int) (A0_2 : Option Addr) (c0_2 : Nat) (l0_2 : List (S52)) (r : ByteArray) (w : World) (hr0_0 : Kd.C Kd.string w A0_0 l0_0.length l0_0) (hc0_0 : l0_0.length ≤ c0_0) (hr0_2 : Kd.C k52 w A0_2 l0_2.length l0_2) (hc0_2 : l0_2.length ≤ c0_2) (hw_LaidI : LaidI w) (h : impl_ProgramText.f k l0_0 a0_1 l0_2 = some r) :
  Calls Qm 9 #[.agg #[.slice A0_0 l0_0.length c0_0, .int .i64 a0_1, .slice A0_2 l0_2.length c0_2]] w fun e w' => e = .returned (.string r) ∧ Qv w.heap.size w w' := by
 have hu30 := Tryz.underlying30
 have hu52 := Tryz.underlying52
 have hu50 := Tryz.underlying50
 have HR0_0 := Qa hr0_0
 have HC0_0 := Qa hc0_0
 clear hr0_0 hc0_0
 have HR0_2 := Qa hr0_2
 have HC0_2 := Qa hc0_2
 clear hr0_2 hc0_2
 have W_LaidI := Qa hw_LaidI
 clear hw_LaidI
 have HB := Qa (Qq w.heap.size w)
 have H : ((impl_IsProgram.f k l0_0 a0_1 l0_2).bind fun t54 => (if t54 = true then ((impl_Join.f l0_0 (⟨#[32]⟩ : ByteArray)).bind fun t47 => ((impl_FormatInt.f a0_1).bind fun t48 => (impl_ProgramText.l0 k (([t47, t48] : List ByteArray)) l0_2 (l0_2.length : Int) 0))) else (some (⟨#[]⟩ : ByteArray)))) = some r := h
 clear h
 obtain ⟨t54, A2, H⟩ := Ob H
 (try dsimp only at H)
 by_cases c3 : t54 = true
 ·subst c3
  rw [if_pos rfl] at H; obtain ⟨t47, A4, H⟩ := Ob H; (try dsimp only at H)
  obtain ⟨t48, A5, H⟩ := Ob H; (try dsimp only at H)
  obtain ⟨y49, hy49⟩ : ∃ y_ : List ByteArray, y_ = (([t47, t48] : List ByteArray)) := ⟨_, rfl⟩; replace H : (impl_ProgramText.l0 k y49 l0_2 (l0_2.length : Int) 0) = some r := Zh hy49 H; have Ny49 := Qa hy49; clear hy49; have H' := Qa H; clear H; go_enter Tryz.func9, Tryz.ntmps9; try go_wp2_with (first | ((with_reducible refine Ql (N := 1) rfl ?_); refine Bx (N := 1) (cs := #[.slice A0_0 l0_0.length c0_0, .int .i64 a0_1, .slice A0_2 l0_2.length c0_2]) (t := 30) ?_; intro gb41 hg w6 hbox hb; have BK41 := Qa (hbox); have GW41 := Gs (w := w) hg (Bb0 HB.out); have GE41 := GW41; replace HB := Sb (Bb0 HB.out) hb; clear hb hbox hg; obtain ⟨q7_0, q7_1, q7_2, u7_0, u7_1, u7_2⟩ := Cf3 BK41) | ((with_reducible refine Qd (f := 17) rfl ?_); refine Gl 7 Tryz.func17 #[.agg #[.slice A0_0 l0_0.length c0_0, .int .i64 a0_1, .slice A0_2 l0_2.length c0_2]] ?_; (with_reducible refine (impl_IsProgram.calls k _ _ l0_0 a0_1 _ _ l0_2 true _ ?side1 ?side2 ?side3 ?side4 A2.out).mono ?_); (case side1 => exact Bc (Kd.C_below HR0_0.out HB.out)); (case side2 => exact HC0_0.out); (case side3 => exact Bc (Kd.C_below HR0_2.out HB.out)); (case side4 => exact HC0_2.out); rintro e w8 ⟨rfl, hb⟩; refine ⟨_, rfl, ?_⟩; replace BK41 := Kb BK41 hb; replace HB := Sb (Bb1 HB.out GE41.out) hb; clear hb))
  replace BK41 := Db BK41; replace HB := Qa (Qy HB.out); refine start_ (n := 8) (S := fun w' => w'.cell? ⟨gb41, 0, none⟩ = some (.slice A0_0 l0_0.length c0_0) ∧ w'.cell? ⟨gb41, 1, none⟩ = some (.int .i64 a0_1) ∧ w'.cell? ⟨gb41, 2, none⟩ = some (.slice A0_2 l0_2.length c0_2)) (ds := []) #[false, false, false, false, false, false, false, false] (by kernel_rfl) rfl rfl (Ce3 BK41) (fun hHeld => ?_); refine with_tabW impl_ProgramText.tab3 impl_ProgramText.bits3 (fun HT_ HW_ => ?_); generalize w8.drew = w9 at BK41 HB hHeld ⊢; refine Pt 0 9 HT_ ?_; refine Pt 3 12 HT_ ?_; refine Tu3 1 10 HT_ HW_ hHeld ?_; refine Tu3 4 13 HT_ HW_ hHeld ?_; refine Ot 2 11 HT_ (fun K hK => ?_); refine goes_ Tryz.func34 (by kernel_rfl) rfl #[.slice A0_0 l0_0.length c0_0, .string (⟨#[32]⟩ : ByteArray)] (by rfl) rfl rfl Zm ?_; with_reducible refine (impl_Join.calls _ _ l0_0 (⟨#[32]⟩ : ByteArray) t47 _ ?side1 ?side2 A4.out).mono ?_
  (case side1 => exact Bc (Kd.C_below HR0_0.out HB.out))
  (case side2 => exact HC0_0.out)
  rintro e w10 ⟨rfl, hb⟩; refine ⟨_, rfl, ?_⟩; replace BK41 := Kb BK41 hb; replace HB := Sb (Bb1 HB.out GE41.out) hb; clear hb; refine hK.out _ _ (Ce3 BK41) (fun hHeld => ?_); clear hK K; refine Nn 11 ?_; refine Ot 5 14 HT_ (fun K hK => ?_); refine goes_ Tryz.func35 (by kernel_rfl) rfl #[.int .i64 a0_1] (by rfl) rfl rfl Zm ?_; with_reducible refine (impl_FormatInt.calls a0_1 t48 _ ?side1 A5.out).mono ?_
  (case side1 => exact Wl1 W_LaidI.out HB.out GE41.out)
  rintro e w11 ⟨rfl, hb⟩; refine ⟨_, rfl, ?_⟩; replace BK41 := Kb BK41 hb; replace HB := Sb (Bb1 HB.out GE41.out) hb; clear hb; refine hK.out _ _ (Ce3 BK41) (fun hHeld => ?_); clear hK K; refine Nn 14 ?_; refine Ot 6 15 HT_ (fun K hK => ?_); refine Kd.R_lit_step Kd.string _ 9 ?hg (N := 15) ?hd (xs := ([t47, t48] : List ByteArray)) (inner := [.string t47, .string t48]) (ok := fun _ => True) (okp := fun _ => True) ?hr ?hp (fun _ hk => hk) trivial (Qq _ _) (Nat.le_refl _) (by simp) ?_; (case hd => rfl); (case hg => rfl); (case hr => first | (go_simp; done) | (go_simp; rfl)); (case hp => exact (Reps.one (show Kd.M Kd.string _ _ _ t47 [.string t47] from rfl) (Reps.one (show Kd.M Kd.string _ _ _ t48 [.string t48] from rfl) (Reps.none _ _)))); intro v59 w12 ho13 hb hg_ hnew_; clear hg_ hnew_; (first | rw [← Ny49.out] at ho13 | (simp only [Int.reduceToNat] at ho13; rw [← Ny49.out] at ho13))
  have HO56 := Lw ho13 (Bb1 HB.out GE41.out); replace BK41 := Kb BK41 hb; replace HB := Sb (Bb1 HB.out GE41.out) hb; clear hb ho13; refine hK.out _ _ (Ce3 BK41) (fun hHeld => ?_); clear hK K; refine Nn 15 ?_; refine Pt 7 3 HT_ ?_; refine done_ (done_of HT_.out (by kernel_rfl)) ?_; obtain ⟨q14_0, q14_1, q14_2, u14_0, u14_1, u14_2⟩ := Cf3 BK41; try go_wp2
  go_loopg [3, 19] k (fun kq v3 v19 w' => ∃ (x3_1 : List ByteArray) (x19_1 : Int), v19 = .int .i64 x19_1 ∧ Qe (impl_ProgramText.l0 kq x3_1 l0_2 (l0_2.length : Int) x19_1 = some r) ∧ Qe (kq ≤ k) ∧ Qe (Kd.R Kd.string 9 w' w.heap.size (fun _ => True) v3 x3_1) ∧ Qe (w'.heap[gb41]? = some (.cells #[(.slice A0_0 l0_0.length c0_0), .int .i64 a0_1, (.slice A0_2 l0_2.length c0_2)] 30 (0, 0))) ∧ Qe (Qv w.heap.size w w'))
  case atStart => exact ⟨(y49), (0), Zf, H', ⟨Nat.le_refl _⟩, ⟨Br HO56.out⟩, ⟨Ba BK41.out⟩, ⟨Bb1 HB.out GE41.out⟩⟩
  case round =>
   clear H'; (try clear c1)
   (try clear p2)
   (try clear c3)
   (try clear c9)
   (try clear q14_0)
   (try clear q14_1)
   (try clear q14_2)
   (try clear q7_0)
   (try clear q7_1)
   (try clear q7_2)
   (try clear u14_0)
   (try clear u14_1)
   (try clear u14_2)
   (try clear u7_0)
   (try clear u7_1)
   (try clear u7_2)
   obtain ⟨x3_1, x19_1, rfl, HA, HK1, HO_3, BK41, HB⟩ := hrel; cases gk with
   | zero => exact absurd HA.out (by simp [impl_ProgramText.l0])
   | succ k1 =>
    have H := HA.out; clear HA; simp only [impl_ProgramText.l0] at H; by_cases c15 : x19_1 < (l0_2.length : Int)
    ·rw [if_pos c15] at H; replace c15 := decide_eq_true c15; by_cases c16 : 0 ≤ x19_1
     ·rw [if_pos c16] at H; replace c16 := decide_eq_true c16; by_cases c17 : x19_1 < (l0_2.length : Int)
      ·rw [if_pos c17] at H; replace c17 := decide_eq_true c17; obtain ⟨t44, A18, H⟩ := Ob H; (try dsimp only at H)
       by_cases c19 : t44.size + 1 ≤ 9223372036854775807
       ·rw [if_pos c19] at H; have c19b0 := eq_true c19; have c19b1 := decide_eq_true c19; try have c19b2 : (9223372036854775807 < t44.size + 1) = False := eq_false (Nat.not_lt.2 c19)
        obtain ⟨t45, A20, H⟩ := Ob H; (try dsimp only at H)
        by_cases c21 : (t44 ++ (⟨#[32]⟩ : ByteArray)).size + t45.size ≤ 9223372036854775807
        ·rw [if_pos c21] at H; have c21b0 := eq_true c21; have c21b1 := decide_eq_true c21; try have c21b2 : (9223372036854775807 < (t44 ++ (⟨#[32]⟩ : ByteArray)).size + t45.size) = False := eq_false (Nat.not_lt.2 c21)
         try have c21b3 : (9223372036854775807 < t44.size + 1 + t45.size) = False := eq_false (Nat.not_lt.2 (by have h_ := c21; simp only [ByteArray.size_append] at h_; exact h_))
         by_cases c22 : ((t44 ++ (⟨#[32]⟩ : ByteArray)) ++ t45).size + 1 ≤ 9223372036854775807
         ·rw [if_pos c22] at H; have c22b0 := eq_true c22; have c22b1 := decide_eq_true c22; try have c22b2 : (9223372036854775807 < ((t44 ++ (⟨#[32]⟩ : ByteArray)) ++ t45).size + 1) = False := eq_false (Nat.not_lt.2 c22)
          try have c22b3 : (9223372036854775807 < t44.size + 1 + t45.size + 1) = False := eq_false (Nat.not_lt.2 (by have h_ := c22; simp only [ByteArray.size_append] at h_; exact h_))
          obtain ⟨t46, A23, H⟩ := Ob H; (try dsimp only at H)
          by_cases c24 : (((t44 ++ (⟨#[32]⟩ : ByteArray)) ++ t45) ++ (⟨#[32]⟩ : ByteArray)).size + t46.size ≤ 9223372036854775807
          ·rw [if_pos c24] at H; have c24b0 := eq_true c24; have c24b1 := decide_eq_true c24; try have c24b2 : (9223372036854775807 < (((t44 ++ (⟨#[32]⟩ : ByteArray)) ++ t45) ++ (⟨#[32]⟩ : ByteArray)).size + t46.size) = False := eq_false (Nat.not_lt.2 c24)
           try have c24b3 : (9223372036854775807 < t44.size + 1 + t45.size + 1 + t46.size) = False := eq_false (Nat.not_lt.2 (by have h_ := c24; simp only [ByteArray.size_append] at h_; exact h_))
           by_cases c25 : x3_1.length < 8796093022208
           ·rw [if_pos c25] at H; have LMc25 := Qa c25; clear c25; obtain ⟨y51, hy51⟩ : ∃ y_ : List ByteArray, y_ = (x3_1 ++ [(((t44 ++ (⟨#[32]⟩ : ByteArray)) ++ t45) ++ (⟨#[32]⟩ : ByteArray)) ++ t46]) := ⟨_, rfl⟩; replace H : (impl_ProgramText.l0 k1 y51 l0_2 (l0_2.length : Int) (wrap64 (x19_1 + 1))) = some r := Zh hy51 H; have Ny51 := Qa hy51; clear hy51; have H' := Qa H; clear H; have p43 : 0 ≤ (x19_1 : Int) := Da; have q43 : x19_1 < (l0_2.length : Int) := Da; obtain ⟨ad43, e43, hx43_0, hx43_1, hx43_2, hx43_3, hx43_4⟩ := at_T52 HR0_2.out x19_1 p43 q43; cases e43
            replace hx43_0 := Cx HB hx43_0; replace hx43_1 := Cx HB hx43_1; replace hx43_2 := Cx HB hx43_2; replace hx43_3 := Cx HB hx43_3; replace hx43_4 := Cx HB hx43_4; replace p43 := eq_true p43; replace q43 := eq_true q43; try go_wp2_with (first | ((with_reducible refine Ql (N := 5) rfl ?_); refine Bx (N := 5) (cs := #[.int .i64 0, .int .i64 0, .int .i64 0, .string (⟨#[]⟩ : ByteArray), .string (⟨#[]⟩ : ByteArray)]) (t := 52) ?_; intro gb42 hg w26 hbox hb; replace HO_3 := Rb HO_3 hb; have BK42 := Qa (hbox); have GW42 := Gs (w := w) hg (Bb1 HB.out GE41.out); have GE42 := GW42; replace HB := Sb (Bb1 HB.out GE41.out) hb; have NB41_42 := Nl hg BK41; have NB42_41 := Ng hg BK41; replace BK41 := Kb BK41 hb; clear hb hbox hg; have hnb27 := NB42_41.out; have hnc27 := NB41_42.out; obtain ⟨q28_0, q28_1, q28_2, q28_3, q28_4, u28_0, u28_1, u28_2, u28_3, u28_4⟩ := Cf5 BK42))
            generalize hW_ : (((((w26.setCell ⟨gb42, 0, none⟩ (.int .i64 ((rd_T52 l0_2 x19_1).f0))).setCell ⟨gb42, 1, none⟩ (.int .i64 ((rd_T52 l0_2 x19_1).f1))).setCell ⟨gb42, 2, none⟩ (.int .i64 ((rd_T52 l0_2 x19_1).f2.f0))).setCell ⟨gb42, 3, none⟩ (.string ((rd_T52 l0_2 x19_1).f2.f1))).setCell ⟨gb42, 4, none⟩ (.string ((rd_T52 l0_2 x19_1).f2.f2))) = w29; have n0_ : Qe (Kd.R Kd.string 9 w29 w.heap.size (fun _ => True) u3 x3_1) := ⟨by rw [← hW_]; (with_reducible repeat (first | apply Kd.R_alloc | apply Kd.R_drewN | apply Kd.R_drew)); exact Rs (Kd.R_types HO_3.out BK42.out (by decide))⟩; have n1_ : Qe (w29.heap[gb41]? = some (.cells #[.slice A0_0 l0_0.length c0_0, .int .i64 a0_1, .slice (some ad43) l0_2.length c0_2] 30 (0, 0))) := ⟨by rw [← hW_]; exact Bf BK41.out NB41_42.out⟩; have n2_ : Qe (w29.heap[gb42]? = some (.cells #[.int .i64 ((rd_T52 l0_2 x19_1).f0), .int .i64 ((rd_T52 l0_2 x19_1).f1), .int .i64 ((rd_T52 l0_2 x19_1).f2.f0), .string ((rd_T52 l0_2 x19_1).f2.f1), .string ((rd_T52 l0_2 x19_1).f2.f2)] 52 (0, 0))) := ⟨by rw [← hW_]; exact Bq BK42.out⟩; have n3_ : Qe (Qv w.heap.size w w29) := ⟨by rw [← hW_]; exact Bb2 HB.out GE41.out GE42.out⟩; (try clear HO_3)
            (try clear BK41)
            (try clear BK42)
            (try clear HB)
            clear hW_; have HO_3 := n0_; have BK41 := n1_; have BK42 := n2_; have HB := n3_; clear n0_ n1_ n2_ n3_; replace HO_3 := Dr HO_3; replace BK41 := Db BK41; replace BK42 := Db BK42; replace HB := Qa (Qy HB.out); refine start_ (n := 17) (S := fun w' => w'.cell? ⟨gb42, 0, none⟩ = some (.int .i64 ((rd_T52 l0_2 x19_1).f0)) ∧ w'.cell? ⟨gb42, 1, none⟩ = some (.int .i64 ((rd_T52 l0_2 x19_1).f1)) ∧ w'.cell? ⟨gb42, 2, none⟩ = some (.int .i64 ((rd_T52 l0_2 x19_1).f2.f0)) ∧ w'.cell? ⟨gb42, 3, none⟩ = some (.string ((rd_T52 l0_2 x19_1).f2.f1)) ∧ w'.cell? ⟨gb42, 4, none⟩ = some (.string ((rd_T52 l0_2 x19_1).f2.f2))) (ds := []) #[false, false, false, false, false, false, false, false, false, false, false, false, false, false, false, false, false] (by kernel_rfl) rfl rfl (Ce5 BK42) (fun hHeld => ?_); refine with_tabW impl_ProgramText.tab7 impl_ProgramText.bits7 (fun HT_ HW_ => ?_); generalize w29.drew = w30 at HO_3 BK41 BK42 HB hHeld ⊢; refine Pt 0 23 HT_ ?_; refine Pt 1 24 HT_ ?_; refine Pt 5 28 HT_ ?_; refine Pt 10 33 HT_ ?_; refine Tu5 2 25 HT_ HW_ hHeld ?_; refine Tu5 6 29 HT_ HW_ hHeld ?_; refine Tu5 11 34 HT_ HW_ hHeld ?_; refine Ot 3 26 HT_ (fun K hK => ?_); refine goes_ Tryz.func35 (by kernel_rfl) rfl #[.int .i64 ((rd_T52 l0_2 x19_1).f0)] (by rfl) rfl rfl Zm ?_; with_reducible refine (impl_FormatInt.calls ((rd_T52 l0_2 x19_1).f0) t44 _ ?side1 A18.out).mono ?_
            (case side1 => exact Wl2 W_LaidI.out HB.out GE41.out GE42.out)
            rintro e w31 ⟨rfl, hb⟩; refine ⟨_, rfl, ?_⟩; replace HO_3 := Rb HO_3 hb; replace BK41 := Kb BK41 hb; replace BK42 := Kb BK42 hb; replace HB := Sb (Bb2 HB.out GE41.out GE42.out) hb; clear hb; refine hK.out _ _ (Ce5 BK42) (fun hHeld => ?_); clear hK K; refine Nn 26 ?_; refine Pt 4 27 HT_ ?_; refine Ot 7 30 HT_ (fun K hK => ?_); refine goes_ Tryz.func35 (by kernel_rfl) rfl #[.int .i64 ((rd_T52 l0_2 x19_1).f1)] (by rfl) rfl rfl Zm ?_; with_reducible refine (impl_FormatInt.calls ((rd_T52 l0_2 x19_1).f1) t45 _ ?side1 A20.out).mono ?_
            (case side1 => exact Wl2 W_LaidI.out HB.out GE41.out GE42.out)
            rintro e w32 ⟨rfl, hb⟩; refine ⟨_, rfl, ?_⟩; replace HO_3 := Rb HO_3 hb; replace BK41 := Kb BK41 hb; replace BK42 := Kb BK42 hb; replace HB := Sb (Bb2 HB.out GE41.out GE42.out) hb; clear hb; refine hK.out _ _ (Ce5 BK42) (fun hHeld => ?_); clear hK K; refine Nn 30 ?_; refine Pt 8 31 HT_ ?_; refine Pt 9 32 HT_ ?_; refine Ot 12 35 HT_ (fun K hK => ?_); refine goes_ Tryz.func36 (by kernel_rfl) rfl #[.agg #[.int .i64 ((rd_T52 l0_2 x19_1).f2.f0), .string ((rd_T52 l0_2 x19_1).f2.f1), .string ((rd_T52 l0_2 x19_1).f2.f2)]] (by rfl) rfl rfl Zm ?_; with_reducible refine (impl_StmtText.calls k1 ((rd_T52 l0_2 x19_1).f2.f0) ((rd_T52 l0_2 x19_1).f2.f1) ((rd_T52 l0_2 x19_1).f2.f2) t46 _ A23.out).mono ?_
            rintro e w33 ⟨rfl, hb⟩; refine ⟨_, rfl, ?_⟩; replace HO_3 := Rb HO_3 hb; replace BK41 := Kb BK41 hb; replace BK42 := Kb BK42 hb; replace HB := Sb (Bb2 HB.out GE41.out GE42.out) hb; clear hb; refine hK.out _ _ (Ce5 BK42) (fun hHeld => ?_); clear hK K; refine Nn 35 ?_; refine Pt 13 36 HT_ ?_; refine Ot 14 37 HT_ (fun K hK => ?_); refine value_ (w1 := ?_) (v := ?_) (by rfl) rfl ?_ ?_; rotate_left 2
            ·go_simp; constructor
             ·rfl
             ·rfl
            refine hK.out _ _ ⟨(blk_cell (blk_alloc BK42.out _) 0).trans rfl, (blk_cell (blk_alloc BK42.out _) 1).trans rfl, (blk_cell (blk_alloc BK42.out _) 2).trans rfl, (blk_cell (blk_alloc BK42.out _) 3).trans rfl, (blk_cell (blk_alloc BK42.out _) 4).trans rfl⟩ (fun hHeld => ?_); clear hK K; refine Nn 37 ?_; refine Ot 15 38 HT_ (fun K hK => ?_); refine Kd.R_append_step Kd.string (w0 := w) w.heap.size (by rfl) (.tmp 23) (.tmp 37) 22 9 (.string ⟨#[]⟩) 16 rfl Tryz.underlying22 info9 rfl (by decide) (by omega) u3 x3_1 ((((t44 ++ (⟨#[32]⟩ : ByteArray)) ++ t45) ++ (⟨#[32]⟩ : ByteArray)) ++ t46) [.string ((((t44 ++ (⟨#[32]⟩ : ByteArray)) ++ t45) ++ (⟨#[32]⟩ : ByteArray)) ++ t46)] (fun _ => True) (fun _ => False) rfl rfl ?aP (fun _ hk => hk.elim) ?aF ?aO ?aB ?aS ?aL ?_; (case aP => exact rfl)
            (case aB => exact (Bb2 HB.out GE41.out GE42.out))
            (case aF => exact (fun _ _ => trivial))
            (case aO => exact (Br HO_3.out))
            (case aS => exact (below_size (Bb2 HB.out GE41.out GE42.out)))
            (case aL => have := LMc25.out; omega)
            intro v60 w34 ho hb hg hat; rw [← Ny51.out] at ho; replace BK41 := Kg BK41 hg HO_3; replace BK42 := Kg BK42 hg HO_3; replace HB := Qa (hb); have HO57 := Qa (ho); clear HO_3 ho hb hg hat; refine hK.out _ _ (Ce5 BK42) (fun hHeld => ?_); clear hK K; refine Nn 38 ?_; refine Pt 16 3 HT_ ?_; refine done_ (done_of HT_.out (by kernel_rfl)) ?_; try go_wp2
            go_roundg k1
            case measure => have := HK1.out; omega
            case rel => exact ⟨(y51), (wrap64 (x19_1 + 1)), Zf, H', ⟨by have := HK1.out; omega⟩, ⟨Br HO57.out⟩, ⟨Ba BK41.out⟩, ⟨Bb2 HB.out GE41.out GE42.out⟩⟩
           ·rw [if_neg c25] at H; exact absurd H (by simp)
          ·rw [if_neg c24] at H; exact absurd H (by simp)
         ·rw [if_neg c22] at H; exact absurd H (by simp)
        ·rw [if_neg c21] at H; exact absurd H (by simp)
       ·rw [if_neg c19] at H; exact absurd H (by simp)
      ·rw [if_neg c17] at H; exact absurd H (by simp)
     ·rw [if_neg c16] at H; exact absurd H (by simp)
    ·rw [if_neg c15] at H; replace c15 := decide_eq_false c15; obtain ⟨t55, A35, H⟩ := Ob H; (try dsimp only at H)
     obtain rfl := Option.some.inj H; obtain ⟨Ao36, co36, eo36⟩ := Kd.R_slice HO_3.out; subst eo36; go_wp2_with (first | ((with_reducible refine Qd (f := 34) rfl ?_); refine Gl 41 Tryz.func34 #[.slice Ao36 x3_1.length co36, .string (⟨#[59]⟩ : ByteArray)] ?_; (with_reducible refine (impl_Join.calls _ _ x3_1 (⟨#[59]⟩ : ByteArray) t55 _ ?side1 ?side2 A35.out).mono ?_); (case side1 => exact Bc (Kd.R_reads' HO_3.out).2.2); (case side2 => exact (Kd.R_reads' HO_3.out).2.1); rintro e w37 ⟨rfl, hb⟩; refine ⟨_, rfl, ?_⟩; replace HO_3 := Rb HO_3 hb; replace BK41 := Kb BK41 hb; replace HB := Sb (Bb1 HB.out GE41.out) hb; clear hb)); go_ret; exact ⟨Ze, Bb1 HB.out GE41.out⟩
 ·replace c3 := Bool.eq_false_iff.mpr c3
  subst c3; rw [if_neg (show ¬ (false = true) by decide)] at H; obtain rfl := Option.some.inj H; go_enter Tryz.func9, Tryz.ntmps9; go_wp2_with (first | ((with_reducible refine Ql (N := 1) rfl ?_); refine Bx (N := 1) (cs := #[.slice A0_0 l0_0.length c0_0, .int .i64 a0_1, .slice A0_2 l0_2.length c0_2]) (t := 30) ?_; intro gb41 hg w38 hbox hb; have BK41 := Qa (hbox); have GW41 := Gs (w := w) hg (Bb0 HB.out); have GE41 := GW41; replace HB := Sb (Bb0 HB.out) hb; clear hb hbox hg; obtain ⟨q39_0, q39_1, q39_2, u39_0, u39_1, u39_2⟩ := Cf3 BK41) | ((with_reducible refine Qd (f := 17) rfl ?_); refine Gl 7 Tryz.func17 #[.agg #[.slice A0_0 l0_0.length c0_0, .int .i64 a0_1, .slice A0_2 l0_2.length c0_2]] ?_; (with_reducible refine (impl_IsProgram.calls k _ _ l0_0 a0_1 _ _ l0_2 false _ ?side1 ?side2 ?side3 ?side4 A2.out).mono ?_); (case side1 => exact Bc (Kd.C_below HR0_0.out HB.out)); (case side2 => exact HC0_0.out); (case side3 => exact Bc (Kd.C_below HR0_2.out HB.out)); (case side4 => exact HC0_2.out); rintro e w40 ⟨rfl, hb⟩; refine ⟨_, rfl, ?_⟩; replace BK41 := Kb BK41 hb; replace HB := Sb (Bb1 HB.out GE41.out) hb; clear hb)); go_ret; exact ⟨Ze, Bb1 HB.out GE41.out⟩
def strings_Split.f (a0 : ByteArray) (a1 : ByteArray) : Option (List ByteArray) := if a0.size < 4294967281 ∧ 1 ≤ a1.size ∧ (Go.Lib.splitB a1 0 (Go.Lib.countB a0 a1) a0).length = Go.Lib.countB a0 a1 + 1 ∧ Go.Lib.countB a0 a1 + 1 ≤ maxLen then some (Go.Lib.splitB a1 0 (Go.Lib.countB a0 a1) a0) else none
theorem strings_Split.calls (a0 : ByteArray) (a1 : ByteArray) (r : List ByteArray) (w : World) (hw_LaidS : LaidS w) (h : strings_Split.f a0 a1 = some r) :
  Calls Qm 42 #[.string a0, .string a1] w fun e w' => ∃ v0_ : Value, e = .returned (v0_) ∧ Kd.R Kd.string 9 w' w.heap.size (fun _ => True) v0_ r ∧ Qv w.heap.size w w' := by
 unfold strings_Split.f at h
 split at h
 case isFalse => cases h
 case isTrue hl =>
 obtain ⟨hs, h1, hx, hb⟩ := hl
 obtain rfl := Option.some.inj h
 obtain ⟨m, hm⟩ := hw_LaidS
 refine (Go.Proofs.YtndkkpjofddfjaaGreatDoorShelf.strings_Split a0 a1 m w hs hm h1).mono ?_
 rintro e w' ⟨rfl, rfl⟩
 refine ⟨_, rfl, ?_, below_alloc (Qq _ _) _⟩
 generalize Go.Lib.splitB a1 0 (Go.Lib.countB a0 a1) a0 = xs at hx ⊢
 rw [← hx] at hb ⊢
 exact Kd.R_of_own (enc := Value.string) (h1 := fun _ => rfl) ⟨by simp [encs], Or.inr ⟨w.heap.size, xs.length, _, rfl, Nat.le_refl _, blk_new w _, Nat.le_refl _, hb, by simp, by simp only [Nat.mul_one, encs]; exact List.take_of_length_le (by simp)⟩⟩ (fun _ _ => trivial)
def impl_readInt.f (a0 : ByteArray) (a1 a2 : Int) : Option (Int × Bool) :=
 if a0.size ≤ 281474976710656 then some (match Go.Lib.atoiAll a0.data.toList with
  | .ok v => if (⟨(Go.Lib.itoa v).toArray⟩ : ByteArray).toList = a0.toList ∧ a1 ≤ v ∧ v ≤ a2 then (v, true) else (0, false)
  | _ => (0, false)) else none
theorem impl_readInt.calls (a0 : ByteArray) (a1 a2 : Int) (r1 : Int) (r2 : Bool) (w : World) (hw_LaidE : LaidE w) (hw_LaidI : LaidI w) (h : impl_readInt.f a0 a1 a2 = some (r1, r2)) :
  Calls Qm 82 #[.string a0, .int .i64 a1, .int .i64 a2] w fun e w' => e = .returned (.tuple #[.int .i64 r1, .bool r2]) ∧ Qv w.heap.size w w' := by
 unfold impl_readInt.f at h
 split at h
 case isFalse => cases h
 case isTrue hl =>
 have h := Option.some.inj h
 obtain ⟨⟨e1, he1, hi1⟩, ⟨e2, he2, hi2⟩⟩ := hw_LaidE
 cases ha : Go.Lib.atoiAll a0.data.toList with
 | «syntax» =>
  rw [ha] at h; have h : ((0 : Int), false) = (r1, r2) := h; obtain ⟨rfl, rfl⟩ := Prod.mk.inj h; go_enter Tryz.func82, Tryz.ntmps82; go_wp2_with (go_at_call 111; refine (Go.Proofs.YtndkkpjofddfjaaGreatDoorShelf.strconv_Atoi_syntax a0 hl ha e1 _ he1 hi1).mono ?_; rintro e W1 ⟨M, rfl, _, _, hb⟩); go_wp2; go_ret2; exact ⟨rfl, hb⟩
 | range =>
  rw [ha] at h; have h : ((0 : Int), false) = (r1, r2) := h; obtain ⟨rfl, rfl⟩ := Prod.mk.inj h; go_enter Tryz.func82, Tryz.ntmps82; go_wp2_with (go_at_call 111; refine (Go.Proofs.YtndkkpjofddfjaaGreatDoorShelf.strconv_Atoi_range a0 hl ha e2 _ he2 hi2).mono ?_; rintro e W1 ⟨M, rfl, _, _, hb⟩); go_wp2; go_ret2; exact ⟨rfl, hb⟩
 | ok v =>
  rw [ha] at h; have h : (if (⟨(Go.Lib.itoa v).toArray⟩ : ByteArray).toList = a0.toList ∧ a1 ≤ v ∧ v ≤ a2 then (v, true) else (0, false)) = (r1, r2) := h; obtain ⟨vb0, vb1⟩ := Go.Lib.atoiAll_bounds ha; have hF : ∀ W1, Qv w.heap.size w W1 → Calls Qm 35 #[.int .i64 v] W1 fun e w' => e = .returned (.string ⟨(Go.Lib.itoa v).toArray⟩) ∧ Qv w.heap.size w w' := by
   intro W1 hb1; go_enter Tryz.func35, Tryz.ntmps35; go_wp2_with (go_at_call 72; refine (Go.Proofs.YtndkkpjofddfjaaGreatDoorShelf.strconv_Itoa v vb0 vb1 _ (hw_LaidI.below hb1)).mono ?_; rintro e W2 ⟨rfl, k, os, rfl⟩); go_wp2; go_ret; exact ⟨rfl, hb1.trans ((Go.Lib.below_grow _ _ (Nat.le_refl _) k os).mono hb1.size)⟩
  have hN : ∀ W1, Qv w.heap.size w W1 → Calls Qm 53 #[.int .i64 v, .int .i64 a1, .int .i64 a2] W1 fun e w' => e = .returned (.bool (decide (a1 ≤ v ∧ v ≤ a2))) ∧ Qv w.heap.size w w' := by
   intro W1 hb1; by_cases c1 : a1 ≤ v
   ·have c1b : decide (a1 ≤ v) = true := decide_eq_true c1; go_enter Tryz.func53, Tryz.ntmps53; go_wp2; go_ret; exact ⟨by simp [c1], hb1⟩
   ·have c1b : decide (a1 ≤ v) = false := decide_eq_false c1; go_enter Tryz.func53, Tryz.ntmps53; go_wp2; go_ret; exact ⟨by simp [c1], hb1⟩
  have below_bytes : ∀ (W1 : World), (W1 = w ∨ ∃ t, W1 = Lib.bytesWorld w 5 t) → Qv w.heap.size w W1 := by
   rintro W1 (rfl | ⟨t, rfl⟩)
   ·exact Qq _ _
   ·exact Lib.bytesWorld_below _ _ _
  by_cases c2 : (⟨(Go.Lib.itoa v).toArray⟩ : ByteArray).toList = a0.toList
  ·have c2b0 := beq_iff_eq.mpr c2; have c2b1 : (Go.Lib.itoa v == a0.toList) = true := by simpa using c2
   by_cases c3 : a1 ≤ v ∧ v ≤ a2
   ·rw [if_pos ⟨c2, c3⟩] at h; obtain ⟨rfl, rfl⟩ := Prod.mk.inj h; have c3b : decide (a1 ≤ v ∧ v ≤ a2) = true := decide_eq_true c3; rw [c3b] at hN; clear h c2 c3 c3b; go_enter Tryz.func82, Tryz.ntmps82; go_wp2_with (first
    | (go_at_call 111; refine (Go.Proofs.YtndkkpjofddfjaaGreatDoorShelf.strconv_Atoi_ok a0 (by omega) v ha _).mono ?_; rintro e W1 ⟨rfl, hW⟩; have hb1 := below_bytes _ hW; clear hW)
    | (go_at_call 35; refine (hF _ ?_).mono ?_; (repeat (first | assumption | apply Qy)); rintro e W2 ⟨rfl, hb2⟩)
    | (go_at_call 53; refine (hN _ ?_).mono ?_; (repeat (first | assumption | apply Qy)); rintro e W3 ⟨rfl, hb3⟩))
    go_wp2; go_ret2; exact ⟨rfl, by repeat (first | assumption | apply Qy)⟩
   ·rw [if_neg (fun hh => c3 hh.2)] at h; obtain ⟨rfl, rfl⟩ := Prod.mk.inj h; have c3b : decide (a1 ≤ v ∧ v ≤ a2) = false := decide_eq_false c3; rw [c3b] at hN; clear h c2 c3 c3b; go_enter Tryz.func82, Tryz.ntmps82; go_wp2_with (first
    | (go_at_call 111; refine (Go.Proofs.YtndkkpjofddfjaaGreatDoorShelf.strconv_Atoi_ok a0 (by omega) v ha _).mono ?_; rintro e W1 ⟨rfl, hW⟩; have hb1 := below_bytes _ hW; clear hW)
    | (go_at_call 35; refine (hF _ ?_).mono ?_; (repeat (first | assumption | apply Qy)); rintro e W2 ⟨rfl, hb2⟩)
    | (go_at_call 53; refine (hN _ ?_).mono ?_; (repeat (first | assumption | apply Qy)); rintro e W3 ⟨rfl, hb3⟩))
    go_wp2; go_ret2; exact ⟨rfl, by repeat (first | assumption | apply Qy)⟩
  ·rw [if_neg (fun hh => c2 hh.1)] at h; obtain ⟨rfl, rfl⟩ := Prod.mk.inj h; have c2b0 := beq_eq_false_iff_ne.mpr c2; have c2b1 : (Go.Lib.itoa v == a0.toList) = false := by simpa using c2
   clear h c2; go_enter Tryz.func82, Tryz.ntmps82; go_wp2_with (first
    | (go_at_call 111; refine (Go.Proofs.YtndkkpjofddfjaaGreatDoorShelf.strconv_Atoi_ok a0 (by omega) v ha _).mono ?_; rintro e W1 ⟨rfl, hW⟩; have hb1 := below_bytes _ hW; clear hW)
    | (go_at_call 35; refine (hF _ ?_).mono ?_; (repeat (first | assumption | apply Qy)); rintro e W2 ⟨rfl, hb2⟩)
    | (go_at_call 53; refine (hN _ ?_).mono ?_; (repeat (first | assumption | apply Qy)); rintro e W3 ⟨rfl, hb3⟩))
   go_wp2; go_ret2; exact ⟨rfl, by repeat (first | assumption | apply Qy)⟩
def impl_ParseNumber.f (a0 : ByteArray) : Option (Int × Bool) := (impl_readInt.f a0 0 999999).bind fun bt53 => (some (bt53.1, bt53.2))
theorem impl_ParseNumber.calls (a0 : ByteArray) (r1 : Int) (r2 : Bool) (w : World) (hw_LaidE : LaidE w) (hw_LaidI : LaidI w) (h : impl_ParseNumber.f a0 = some (r1, r2)) :
  Calls Qm 43 #[.string a0] w fun e w' => e = .returned (.tuple #[.int .i64 r1, .bool r2]) ∧ Qv w.heap.size w w' := by
 have W_LaidE := Qa hw_LaidE
 clear hw_LaidE
 have W_LaidI := Qa hw_LaidI
 clear hw_LaidI
 have HB := Qa (Qq w.heap.size w)
 have H : ((impl_readInt.f a0 0 999999).bind fun bt53 => (some (bt53.1, bt53.2))) = some (r1, r2) := h
 clear h
 obtain ⟨⟨t53, t58⟩, A2, H⟩ := Ob H
 (try dsimp only at H)
 simp only [Option.some.injEq, Prod.mk.injEq] at H
 obtain ⟨rfl, rfl⟩ := H
 go_enter Tryz.func43, Tryz.ntmps43
 go_wp2_with (first | ((with_reducible refine Qd (f := 82) rfl ?_); refine Gl 5 Tryz.func82 #[.string a0, .int .i64 0, .int .i64 999999] ?_; (with_reducible refine (impl_readInt.calls a0 0 999999 t53 t58 _ ?side1 ?side2 A2.out).mono ?_); (case side1 => exact Wl0 W_LaidE.out HB.out); (case side2 => exact Wl0 W_LaidI.out HB.out); rintro e w3 ⟨rfl, hb⟩; refine ⟨_, rfl, ?_⟩; replace HB := Sb (Bb0 HB.out) hb; clear hb))
 go_ret2
 exact ⟨Ze, Bb0 HB.out⟩
def strings_SplitN.f (a0 : ByteArray) (a1 : ByteArray) (a2 : Int) : Option (List ByteArray) := if a0.size < 4294967281 ∧ 1 ≤ a1.size ∧ 1 ≤ a2 ∧ a2 ≤ 9223372036854775807 ∧ (Go.Lib.splitB a1 0 (min a2.toNat (a0.size + 1) - 1) a0).length ≤ min a2.toNat (a0.size + 1) ∧ min a2.toNat (a0.size + 1) ≤ maxLen then some (Go.Lib.splitB a1 0 (min a2.toNat (a0.size + 1) - 1) a0) else none
theorem strings_SplitN.calls (a0 : ByteArray) (a1 : ByteArray) (a2 : Int) (r : List ByteArray) (w : World) (hw_LaidS : LaidS w) (h : strings_SplitN.f a0 a1 a2 = some r) :
  Calls Qm 44 #[.string a0, .string a1, .int .i64 a2] w fun e w' => ∃ v0_ : Value, e = .returned (v0_) ∧ Kd.R Kd.string 9 w' w.heap.size (fun _ => True) v0_ r ∧ Qv w.heap.size w w' := by
 unfold strings_SplitN.f at h
 split at h
 case isFalse => cases h
 case isTrue hl =>
 obtain ⟨hs, h1, h2, h3, hx, hb⟩ := hl
 obtain rfl := Option.some.inj h
 obtain ⟨n, rfl⟩ : ∃ n : Nat, a2 = (n : Int) := ⟨a2.toNat, by omega⟩
 rw [Int.toNat_natCast] at hx hb ⊢
 obtain ⟨m, hm⟩ := hw_LaidS
 refine (Go.Proofs.YtndkkpjofddfjaaGreatDoorShelf.strings_SplitN a0 a1 n m w hs hm h1 (by omega) (by omega)).mono ?_
 rintro e w' ⟨rfl, rfl⟩
 refine ⟨_, rfl, ?_, below_alloc (Qq _ _) _⟩
 generalize Go.Lib.splitB a1 0 (min n (a0.size + 1) - 1) a0 = xs at hx ⊢
 generalize min n (a0.size + 1) = c at hx hb ⊢
 exact Kd.R_of_own (enc := Value.string) (h1 := fun _ => rfl) ⟨by simp [encs], Or.inr ⟨w.heap.size, c, _, rfl, Nat.le_refl _, blk_new w _, hx, hb, by unfold Go.Lib.cellsOf; simp; omega, by unfold Go.Lib.cellsOf; simp only [Nat.mul_one, encs]; rw [List.take_left' (by simp)]⟩⟩ (fun _ _ => trivial)
def strings_FieldsFunc_names_1.p (x : Nat) : Bool := decide (x < 97) || decide (122 < x)
theorem strings_FieldsFunc_names_1.pred (W : World) (x : Nat) (hx : x ≤ 1114111) : FnGives Qm 113 #[] #[.int .i32 (x : Int)] (.bool (strings_FieldsFunc_names_1.p x)) W := by
 show Calls Qm 113 #[.int .i32 (x : Int)] W _
 unfold strings_FieldsFunc_names_1.p
 by_cases c : (x : Int) < 97
 ·have cb : decide ((x : Int) < 97) = true := decide_eq_true c
  go_enter Tryz.func113, Tryz.ntmps113; go_wp2; go_ret; exact ⟨by first | rfl | (simp; omega) | (rw [decide_eq_true (show x < 97 by omega)]; rfl), 0, rfl⟩
 ·have cb : decide ((x : Int) < 97) = false := decide_eq_false c
  have e1 : decide (x < 97) = false := decide_eq_false (by omega); by_cases c2 : (x : Int) > 122
  ·have cb2 : decide ((x : Int) > 122) = true := decide_eq_true c2; have e2 : decide (122 < x) = true := decide_eq_true (by omega); go_enter Tryz.func113, Tryz.ntmps113; go_wp2; go_ret; exact ⟨by first | rfl | (rw [e1, e2]; rfl), 0, rfl⟩
  ·have cb2 : decide ((x : Int) > 122) = false := decide_eq_false c2; have e2 : decide (122 < x) = false := decide_eq_false (by omega); go_enter Tryz.func113, Tryz.ntmps113; go_wp2; go_ret; exact ⟨by first | rfl | (rw [e1, e2]; rfl), 0, rfl⟩
def strings_FieldsFunc_names_1.f (a0 : ByteArray) : Option (List ByteArray) := if a0.size ≤ 4294967296 then some (Go.Lib.goFieldsP strings_FieldsFunc_names_1.p a0) else none
theorem strings_FieldsFunc_names_1.calls (a0 : ByteArray) (r : List ByteArray) (w : World) (h : strings_FieldsFunc_names_1.f a0 = some r) :
  Calls Qm 112 #[.string a0, .func (.func 113) #[] #[]] w fun e w' => ∃ v0_ : Value, e = .returned (v0_) ∧ Kd.R Kd.string 9 w' w.heap.size (fun _ => True) v0_ r ∧ Qv w.heap.size w w' := by
 unfold strings_FieldsFunc_names_1.f at h
 split at h
 case isFalse => cases h
 case isTrue hs =>
 obtain rfl := Option.some.inj h
 have eg : ∀ args w, (callFunc 113 args).run Qm w = .ok (.enter 113 args) w := enters_of Tryz.func113 (by kernel_rfl) rfl
 refine (Go.Proofs.YtndkkpjofddfjaaGreatDoorShelf.strings_FieldsFunc_runes 113 #[] eg strings_FieldsFunc_names_1.p a0 w hs (fun W x hx _ => strings_FieldsFunc_names_1.pred W x hx)).mono ?_
 rintro e w' ⟨A, rfl, hA, hown, hb⟩
 exact ⟨_, rfl, Kd.R_of_own (enc := Value.string) (h1 := fun _ => rfl) hown (fun _ _ => trivial), hb⟩
end Go.Proofs.YtndkkpjofddfjaaGreatDoor.PFnExactParseProgram
