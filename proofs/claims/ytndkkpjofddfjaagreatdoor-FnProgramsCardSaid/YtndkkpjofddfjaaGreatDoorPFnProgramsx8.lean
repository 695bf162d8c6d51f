/- A part of the walk through the printed functions; no condition. -/
import Derived.Test.YtndkkpjofddfjaaGreatDoorXAuto
import Derived.Test.YtndkkpjofddfjaaGreatDoorPFnProgramsx0
import Derived.Test.YtndkkpjofddfjaaGreatDoorPFnProgramsx7
namespace Go.Proofs.YtndkkpjofddfjaaGreatDoor.PFnPrograms
open Go.RowKit Go.Proofs.YtndkkpjofddfjaaGreatDoorW.PrintWords Go.Proofs.YtndkkpjofddfjaaGreatDoorW.PrintLast Go.Proofs.YtndkkpjofddfjaaGreatDoorW.PrintMore
attribute [local go_sem] max2_int min2_int max_two min_two max_three min_three max_four min_four
set_option maxHeartbeats 32000000
set_option maxRecDepth 100000
attribute [local irreducible] Go.World.setCell
set_option linter.unusedVariables false
set_option linter.unusedSimpArgs false
open Go.Proofs.YtndkkpjofddfjaaGreatDoorW.PrintWords.Aside0 renaming mk → Qa
open Go.Proofs.YtndkkpjofddfjaaGreatDoorW.PrintWords.Kd renaming R_reads' → Qb, string → Qe, C_below → Qt
open Go.RowKit renaming wrap64 → Qf, Below → Qz
def impl_ProgramText.l0 : Nat → List ByteArray → List (S52) → Int → Int → Option (ByteArray)
 | 0, _, _, _, _ => none
 | k + 1, x3, x17, x18, x19 => if x19 < x18 then (if 0 ≤ x19 then (if x19 < (x17.length : Int) then ((impl_FormatInt.f ((rd_T52 x17 x19).f0)).bind fun t44 => (if t44.size + 1 ≤ 9223372036854775807 then ((impl_FormatInt.f ((rd_T52 x17 x19).f1)).bind fun t45 => (if (t44 ++ (⟨#[32]⟩ : ByteArray)).size + t45.size ≤ 9223372036854775807 then (if ((t44 ++ (⟨#[32]⟩ : ByteArray)) ++ t45).size + 1 ≤ 9223372036854775807 then ((impl_StmtText.f k ((rd_T52 x17 x19).f2.f0) ((rd_T52 x17 x19).f2.f1) ((rd_T52 x17 x19).f2.f2)).bind fun t46 => (if (((t44 ++ (⟨#[32]⟩ : ByteArray)) ++ t45) ++ (⟨#[32]⟩ : ByteArray)).size + t46.size ≤ 9223372036854775807 then (if x3.length < 8796093022208 then (impl_ProgramText.l0 k (x3 ++ [(((t44 ++ (⟨#[32]⟩ : ByteArray)) ++ t45) ++ (⟨#[32]⟩ : ByteArray)) ++ t46]) x17 x18 (Qf (x19 + 1))) else (none)) else (none))) else (none)) else (none))) else (none))) else (none)) else (none)) else ((impl_Join.f x3 (⟨#[59]⟩ : ByteArray)).bind fun t57 => (some t57))
def impl_ProgramText.f (k : Nat) (l0_0 : List ByteArray) (a0_1 : Int) (l0_2 : List (S52)) : Option (ByteArray) := (impl_IsProgram.f k l0_0 a0_1 l0_2).bind fun t56 => (if t56 = true then ((impl_Join.f l0_0 (⟨#[32]⟩ : ByteArray)).bind fun t47 => ((impl_FormatInt.f a0_1).bind fun t48 => (impl_ProgramText.l0 k (([t47, t48] : List ByteArray)) l0_2 (l0_2.length : Int) 0))) else (some (⟨#[]⟩ : ByteArray)))
theorem impl_ProgramText.mono_l : ∀ k, (∀ y0 y1 y2 y3, LeO (impl_ProgramText.l0 k y0 y1 y2 y3) (impl_ProgramText.l0 (k + 1) y0 y1 y2 y3))
 | 0 => fun _ _ _ _ r h => by simp [impl_ProgramText.l0] at h
 | k + 1 => by
  have ih0 := impl_ProgramText.mono_l k
  ·intro y0 y1 y2 y3; unfold impl_ProgramText.l0; exact Lm3 ih0 impl_IsProgram.mono impl_StmtText.mono
theorem impl_ProgramText.mono : ∀ a0 a1 a2 k, LeO (impl_ProgramText.f k a0 a1 a2) (impl_ProgramText.f (k + 1) a0 a1 a2) := by
 intro a0 a1 a2 k
 have ih0 := impl_ProgramText.mono_l k
 unfold impl_ProgramText.f
 exact Lm3 ih0 impl_IsProgram.mono impl_StmtText.mono
def impl_ProgramText.T3 : Bool × List (List Nat × List Nat) := (true, [([], []), ([0], [0]), ([1], [1]), ([], []), ([3], [3]), ([4, 2], [4]), ([2, 5], [2, 5]), ([6, 5, 0, 1, 2, 3, 4, 5, 6], [6])])
def impl_ProgramText.B3 : List Nat := [0, 1, 3, 0, 8, 31, 63, 127]
theorem impl_ProgramText.tab3 : rtab .any (opsOf Tryz.f9 3) = impl_ProgramText.T3 := by kernel_rfl
theorem impl_ProgramText.bits3 : waitsOk impl_ProgramText.T3.2 impl_ProgramText.B3 = true := by kernel_rfl
def impl_ProgramText.T7 : Bool × List (List Nat × List Nat) := (true, [([], []), ([], []), ([1], [1]), ([2], [2]), ([3], [3]), ([], []), ([5], [5]), ([6, 3], [6]), ([4, 7], [4, 7]), ([8], [8]), ([], []), ([10], [10]), ([11, 7], [11]), ([9, 12], [9, 12]), ([13], [13]), ([0, 14, 12], [0, 14]), ([15, 15, 0, 1, 2, 3, 4, 5, 6, 7, 8, 9, 10, 11, 12, 13, 14, 15], [0, 15])])
def impl_ProgramText.B7 : List Nat := [0, 0, 2, 6, 14, 0, 32, 110, 254, 510, 0, 1024, 3310, 8190, 16382, 32767, 65535]
theorem impl_ProgramText.tab7 : rtab .any (opsOf Tryz.f9 7) = impl_ProgramText.T7 := by kernel_rfl
theorem impl_ProgramText.bits7 : waitsOk impl_ProgramText.T7.2 impl_ProgramText.B7 = true := by kernel_rfl
theorem impl_ProgramText.calls (k : Nat) (A0_0 : Option Addr) (c0_0 : Nat) (l0_0 : List ByteArray) (a0_1 : Int) (A0_2 : Option Addr) (c0_2 : Nat) (l0_2 : List (S52)) (r : ByteArray) (w : World) (hr0_0 : Kd.C Qe w A0_0 l0_0.length l0_0) (hc0_0 : l0_0.length ≤ c0_0) (hr0_2 : Kd.C k52 w A0_2 l0_2.length l0_2) (hc0_2 : l0_2.length ≤ c0_2) (hw_LaidI : LaidI w) (h : impl_ProgramText.f k l0_0 a0_1 l0_2 = some r) :
  Calls Tryz.prog 9 #[.agg #[.slice A0_0 l0_0.length c0_0, .int .i64 a0_1, .slice A0_2 l0_2.length c0_2]] w fun e w' => e = .returned (.string r) ∧ Qz w.heap.size w w' := by
 have hu30 := Tryz.underlying30
 have hu52 := Tryz.underlying52
 have hu50 := Tryz.underlying50
 have HR0_0 := Qa hr0_0
 have HC0_0 := Qa hc0_0
 clear hr0_0 hc0_0
 have HR0_2 := Qa hr0_2
 have HC0_2 := Qa hc0_2
 clear hr0_2 hc0_2
 have W_LaidI := Qa hw_LaidI
 clear hw_LaidI
 have HB := Qa (Below.refl w.heap.size w)
 have H : ((impl_IsProgram.f k l0_0 a0_1 l0_2).bind fun t56 => (if t56 = true then ((impl_Join.f l0_0 (⟨#[32]⟩ : ByteArray)).bind fun t47 => ((impl_FormatInt.f a0_1).bind fun t48 => (impl_ProgramText.l0 k (([t47, t48] : List ByteArray)) l0_2 (l0_2.length : Int) 0))) else (some (⟨#[]⟩ : ByteArray)))) = some r := h
 clear h
 obtain ⟨t56, A2, H⟩ := Ob H
 (try dsimp only at H)
 by_cases c3 : t56 = true
 ·subst c3
  rw [if_pos rfl] at H; obtain ⟨t47, A4, H⟩ := Ob H; (try dsimp only at H)
  obtain ⟨t48, A5, H⟩ := Ob H; (try dsimp only at H)
  obtain ⟨y49, hy49⟩ : ∃ y_ : List ByteArray, y_ = (([t47, t48] : List ByteArray)) := ⟨_, rfl⟩; replace H : (impl_ProgramText.l0 k y49 l0_2 (l0_2.length : Int) 0) = some r := Zh hy49 H; have Ny49 := Qa hy49; clear hy49; have H' := Qa H; clear H; go_enter Tryz.func9, Tryz.ntmps9; try go_wp2_with (first | ((with_reducible refine gate_dst (N := 1) rfl ?_); refine Bx (N := 1) (cs := #[.slice A0_0 l0_0.length c0_0, .int .i64 a0_1, .slice A0_2 l0_2.length c0_2]) (t := 30) ?_; intro gb41 hg w6 hbox hb; have BK41 := Qa (hbox); have GW41 := Gs (w := w) hg (Bb0 HB.out); have GE41 := GW41; replace HB := Sb (Bb0 HB.out) hb; clear hb hbox hg; obtain ⟨q7_0, q7_1, q7_2, u7_0, u7_1, u7_2⟩ := Cf3 BK41) | ((with_reducible refine gate_callee (f := 17) rfl ?_); refine Gl 7 Tryz.func17 #[.agg #[.slice A0_0 l0_0.length c0_0, .int .i64 a0_1, .slice A0_2 l0_2.length c0_2]] ?_; (with_reducible refine (impl_IsProgram.calls k _ _ l0_0 a0_1 _ _ l0_2 true _ ?side1 ?side2 ?side3 ?side4 A2.out).mono ?_); (case side1 => exact Bc (Qt HR0_0.out HB.out)); (case side2 => exact HC0_0.out); (case side3 => exact Bc (Qt HR0_2.out HB.out)); (case side4 => exact HC0_2.out); rintro e w8 ⟨rfl, hb⟩; refine ⟨_, rfl, ?_⟩; replace BK41 := Kb BK41 hb; replace HB := Sb (Bb1 HB.out GE41.out) hb; clear hb))
  replace BK41 := Db BK41; replace HB := Qa (below_drew1 HB.out); refine start_ (n := 8) (S := fun w' => w'.cell? ⟨gb41, 0, none⟩ = some (.slice A0_0 l0_0.length c0_0) ∧ w'.cell? ⟨gb41, 1, none⟩ = some (.int .i64 a0_1) ∧ w'.cell? ⟨gb41, 2, none⟩ = some (.slice A0_2 l0_2.length c0_2)) (ds := []) #[false, false, false, false, false, false, false, false] (by kernel_rfl) rfl rfl (Ce3 BK41) (fun hHeld => ?_); refine with_tabW impl_ProgramText.tab3 impl_ProgramText.bits3 (fun HT_ HW_ => ?_); generalize w8.drew = w9 at BK41 HB hHeld ⊢; refine Pt 0 9 HT_ ?_; refine Pt 3 12 HT_ ?_; refine Tu3 1 10 HT_ HW_ hHeld ?_; refine Tu3 4 13 HT_ HW_ hHeld ?_; refine Ot 2 11 HT_ (fun K hK => ?_); refine goes_ Tryz.func34 (by kernel_rfl) rfl #[.slice A0_0 l0_0.length c0_0, .string (⟨#[32]⟩ : ByteArray)] (by rfl) rfl rfl Zm ?_; with_reducible refine (impl_Join.calls _ _ l0_0 (⟨#[32]⟩ : ByteArray) t47 _ ?side1 ?side2 A4.out).mono ?_
  (case side1 => exact Bc (Qt HR0_0.out HB.out))
  (case side2 => exact HC0_0.out)
  rintro e w10 ⟨rfl, hb⟩; refine ⟨_, rfl, ?_⟩; replace BK41 := Kb BK41 hb; replace HB := Sb (Bb1 HB.out GE41.out) hb; clear hb; refine hK.out _ _ (Ce3 BK41) (fun hHeld => ?_); clear hK K; refine Nn 11 ?_; refine Ot 5 14 HT_ (fun K hK => ?_); refine goes_ Tryz.func35 (by kernel_rfl) rfl #[.int .i64 a0_1] (by rfl) rfl rfl Zm ?_; with_reducible refine (impl_FormatInt.calls a0_1 t48 _ ?side1 A5.out).mono ?_
  (case side1 => exact Wl1 W_LaidI.out HB.out GE41.out)
  rintro e w11 ⟨rfl, hb⟩; refine ⟨_, rfl, ?_⟩; replace BK41 := Kb BK41 hb; replace HB := Sb (Bb1 HB.out GE41.out) hb; clear hb; refine hK.out _ _ (Ce3 BK41) (fun hHeld => ?_); clear hK K; refine Nn 14 ?_; refine Ot 6 15 HT_ (fun K hK => ?_); refine Kd.R_lit_step Qe _ 9 ?hg (N := 15) ?hd (xs := ([t47, t48] : List ByteArray)) (inner := [.string t47, .string t48]) (ok := fun _ => True) (okp := fun _ => True) ?hr ?hp (fun _ hk => hk) trivial (Below.refl _ _) (Nat.le_refl _) (by simp) ?_; (case hd => rfl); (case hg => rfl); (case hr => first | (go_simp; done) | (go_simp; rfl)); (case hp => exact (Reps.one (show Kd.M Qe _ _ _ t47 [.string t47] from rfl) (Reps.one (show Kd.M Qe _ _ _ t48 [.string t48] from rfl) (Reps.none _ _)))); intro v63 w12 ho13 hb hg_ hnew_; clear hg_ hnew_; (first | rw [← Ny49.out] at ho13 | (simp only [Int.reduceToNat] at ho13; rw [← Ny49.out] at ho13))
  have HO58 := Lw ho13 (Bb1 HB.out GE41.out); replace BK41 := Kb BK41 hb; replace HB := Sb (Bb1 HB.out GE41.out) hb; clear hb ho13; refine hK.out _ _ (Ce3 BK41) (fun hHeld => ?_); clear hK K; refine Nn 15 ?_; refine Pt 7 3 HT_ ?_; refine done_ (done_of HT_.out (by kernel_rfl)) ?_; obtain ⟨q14_0, q14_1, q14_2, u14_0, u14_1, u14_2⟩ := Cf3 BK41; try go_wp2
  go_loopg [3, 19] k (fun kq v3 v19 w' => ∃ (x3_1 : List ByteArray) (x19_1 : Int), v19 = .int .i64 x19_1 ∧ Aside0 (impl_ProgramText.l0 kq x3_1 l0_2 (l0_2.length : Int) x19_1 = some r) ∧ Aside0 (kq ≤ k) ∧ Aside0 (Kd.R Qe 9 w' w.heap.size (fun _ => True) v3 x3_1) ∧ Aside0 (w'.heap[gb41]? = some (.cells #[(.slice A0_0 l0_0.length c0_0), .int .i64 a0_1, (.slice A0_2 l0_2.length c0_2)] 30 (0, 0))) ∧ Aside0 (Qz w.heap.size w w'))
  case atStart => exact ⟨(y49), (0), Zf, H', ⟨Nat.le_refl _⟩, ⟨Br HO58.out⟩, ⟨Ba BK41.out⟩, ⟨Bb1 HB.out GE41.out⟩⟩
  case round =>
   clear H'; (try clear c1)
   (try clear p2)
   (try clear c3)
   (try clear c9)
   (try clear q14_0)
   (try clear q14_1)
   (try clear q14_2)
   (try clear q7_0)
   (try clear q7_1)
   (try clear q7_2)
   (try clear u14_0)
   (try clear u14_1)
   (try clear u14_2)
   (try clear u7_0)
   (try clear u7_1)
   (try clear u7_2)
   obtain ⟨x3_1, x19_1, rfl, HA, HK1, HO_3, BK41, HB⟩ := hrel; cases gk with
   | zero => exact absurd HA.out (by simp [impl_ProgramText.l0])
   | succ k1 =>
    have H := HA.out; clear HA; simp only [impl_ProgramText.l0] at H; by_cases c15 : x19_1 < (l0_2.length : Int)
    ·rw [if_pos c15] at H; replace c15 := decide_eq_true c15; by_cases c16 : 0 ≤ x19_1
     ·rw [if_pos c16] at H; replace c16 := decide_eq_true c16; by_cases c17 : x19_1 < (l0_2.length : Int)
      ·rw [if_pos c17] at H; replace c17 := decide_eq_true c17; obtain ⟨t44, A18, H⟩ := Ob H; (try dsimp only at H)
       by_cases c19 : t44.size + 1 ≤ 9223372036854775807
       ·rw [if_pos c19] at H; have c19b0 := eq_true c19; have c19b1 := decide_eq_true c19; try have c19b2 : (9223372036854775807 < t44.size + 1) = False := eq_false (Nat.not_lt.2 c19)
        obtain ⟨t45, A20, H⟩ := Ob H; (try dsimp only at H)
        by_cases c21 : (t44 ++ (⟨#[32]⟩ : ByteArray)).size + t45.size ≤ 9223372036854775807
        ·rw [if_pos c21] at H; have c21b0 := eq_true c21; have c21b1 := decide_eq_true c21; try have c21b2 : (9223372036854775807 < (t44 ++ (⟨#[32]⟩ : ByteArray)).size + t45.size) = False := eq_false (Nat.not_lt.2 c21)
         try have c21b3 : (9223372036854775807 < t44.size + 1 + t45.size) = False := eq_false (Nat.not_lt.2 (by have h_ := c21; simp only [ByteArray.size_append] at h_; exact h_))
         by_cases c22 : ((t44 ++ (⟨#[32]⟩ : ByteArray)) ++ t45).size + 1 ≤ 9223372036854775807
         ·rw [if_pos c22] at H; have c22b0 := eq_true c22; have c22b1 := decide_eq_true c22; try have c22b2 : (9223372036854775807 < ((t44 ++ (⟨#[32]⟩ : ByteArray)) ++ t45).size + 1) = False := eq_false (Nat.not_lt.2 c22)
          try have c22b3 : (9223372036854775807 < t44.size + 1 + t45.size + 1) = False := eq_false (Nat.not_lt.2 (by have h_ := c22; simp only [ByteArray.size_append] at h_; exact h_))
          obtain ⟨t46, A23, H⟩ := Ob H; (try dsimp only at H)
          by_cases c24 : (((t44 ++ (⟨#[32]⟩ : ByteArray)) ++ t45) ++ (⟨#[32]⟩ : ByteArray)).size + t46.size ≤ 9223372036854775807
          ·rw [if_pos c24] at H; have c24b0 := eq_true c24; have c24b1 := decide_eq_true c24; try have c24b2 : (9223372036854775807 < (((t44 ++ (⟨#[32]⟩ : ByteArray)) ++ t45) ++ (⟨#[32]⟩ : ByteArray)).size + t46.size) = False := eq_false (Nat.not_lt.2 c24)
           try have c24b3 : (9223372036854775807 < t44.size + 1 + t45.size + 1 + t46.size) = False := eq_false (Nat.not_lt.2 (by have h_ := c24; simp only [ByteArray.size_append] at h_; exact h_))
           by_cases c25 : x3_1.length < 8796093022208
           ·rw [if_pos c25] at H; have LMc25 := Qa c25; clear c25; obtain ⟨y53, hy53⟩ : ∃ y_ : List ByteArray, y_ = (x3_1 ++ [(((t44 ++ (⟨#[32]⟩ : ByteArray)) ++ t45) ++ (⟨#[32]⟩ : ByteArray)) ++ t46]) := ⟨_, rfl⟩; replace H : (impl_ProgramText.l0 k1 y53 l0_2 (l0_2.length : Int) (Qf (x19_1 + 1))) = some r := Zh hy53 H; have Ny53 := Qa hy53; clear hy53; have H' := Qa H; clear H; have p43 : 0 ≤ (x19_1 : Int) := Da; have q43 : x19_1 < (l0_2.length : Int) := Da; obtain ⟨ad43, e43, hx43_0, hx43_1, hx43_2, hx43_3, hx43_4⟩ := at_T52 HR0_2.out x19_1 p43 q43; cases e43
            replace hx43_0 := Cx HB hx43_0; replace hx43_1 := Cx HB hx43_1; replace hx43_2 := Cx HB hx43_2; replace hx43_3 := Cx HB hx43_3; replace hx43_4 := Cx HB hx43_4; replace p43 := eq_true p43; replace q43 := eq_true q43; try go_wp2_with (first | ((with_reducible refine gate_dst (N := 5) rfl ?_); refine Bx (N := 5) (cs := #[.int .i64 0, .int .i64 0, .int .i64 0, .string (⟨#[]⟩ : ByteArray), .string (⟨#[]⟩ : ByteArray)]) (t := 52) ?_; intro gb42 hg w26 hbox hb; replace HO_3 := Rb HO_3 hb; have BK42 := Qa (hbox); have GW42 := Gs (w := w) hg (Bb1 HB.out GE41.out); have GE42 := GW42; replace HB := Sb (Bb1 HB.out GE41.out) hb; have NB41_42 := Nl hg BK41; have NB42_41 := Ng hg BK41; replace BK41 := Kb BK41 hb; clear hb hbox hg; have hnb27 := NB42_41.out; have hnc27 := NB41_42.out; obtain ⟨q28_0, q28_1, q28_2, q28_3, q28_4, u28_0, u28_1, u28_2, u28_3, u28_4⟩ := Cf5 BK42))
            generalize hW_ : (((((w26.setCell ⟨gb42, 0, none⟩ (.int .i64 ((rd_T52 l0_2 x19_1).f0))).setCell ⟨gb42, 1, none⟩ (.int .i64 ((rd_T52 l0_2 x19_1).f1))).setCell ⟨gb42, 2, none⟩ (.int .i64 ((rd_T52 l0_2 x19_1).f2.f0))).setCell ⟨gb42, 3, none⟩ (.string ((rd_T52 l0_2 x19_1).f2.f1))).setCell ⟨gb42, 4, none⟩ (.string ((rd_T52 l0_2 x19_1).f2.f2))) = w29; have n0_ : Aside0 (Kd.R Qe 9 w29 w.heap.size (fun _ => True) u3 x3_1) := ⟨by rw [← hW_]; (with_reducible repeat (first | apply Kd.R_alloc | apply Kd.R_drewN | apply Kd.R_drew)); exact Rs (Kd.R_types HO_3.out BK42.out (by decide))⟩; have n1_ : Aside0 (w29.heap[gb41]? = some (.cells #[.slice A0_0 l0_0.length c0_0, .int .i64 a0_1, .slice (some ad43) l0_2.length c0_2] 30 (0, 0))) := ⟨by rw [← hW_]; exact Bf BK41.out NB41_42.out⟩; have n2_ : Aside0 (w29.heap[gb42]? = some (.cells #[.int .i64 ((rd_T52 l0_2 x19_1).f0), .int .i64 ((rd_T52 l0_2 x19_1).f1), .int .i64 ((rd_T52 l0_2 x19_1).f2.f0), .string ((rd_T52 l0_2 x19_1).f2.f1), .string ((rd_T52 l0_2 x19_1).f2.f2)] 52 (0, 0))) := ⟨by rw [← hW_]; exact Bq BK42.out⟩; have n3_ : Aside0 (Qz w.heap.size w w29) := ⟨by rw [← hW_]; exact Bb2 HB.out GE41.out GE42.out⟩; (try clear HO_3)
            (try clear BK41)
            (try clear BK42)
            (try clear HB)
            clear hW_; have HO_3 := n0_; have BK41 := n1_; have BK42 := n2_; have HB := n3_; clear n0_ n1_ n2_ n3_; replace HO_3 := Dr HO_3; replace BK41 := Db BK41; replace BK42 := Db BK42; replace HB := Qa (below_drew1 HB.out); refine start_ (n := 17) (S := fun w' => w'.cell? ⟨gb42, 0, none⟩ = some (.int .i64 ((rd_T52 l0_2 x19_1).f0)) ∧ w'.cell? ⟨gb42, 1, none⟩ = some (.int .i64 ((rd_T52 l0_2 x19_1).f1)) ∧ w'.cell? ⟨gb42, 2, none⟩ = some (.int .i64 ((rd_T52 l0_2 x19_1).f2.f0)) ∧ w'.cell? ⟨gb42, 3, none⟩ = some (.string ((rd_T52 l0_2 x19_1).f2.f1)) ∧ w'.cell? ⟨gb42, 4, none⟩ = some (.string ((rd_T52 l0_2 x19_1).f2.f2))) (ds := []) #[false, false, false, false, false, false, false, false, false, false, false, false, false, false, false, false, false] (by kernel_rfl) rfl rfl (Ce5 BK42) (fun hHeld => ?_); refine with_tabW impl_ProgramText.tab7 impl_ProgramText.bits7 (fun HT_ HW_ => ?_); generalize w29.drew = w30 at HO_3 BK41 BK42 HB hHeld ⊢; refine Pt 0 23 HT_ ?_; refine Pt 1 24 HT_ ?_; refine Pt 5 28 HT_ ?_; refine Pt 10 33 HT_ ?_; refine Tu5 2 25 HT_ HW_ hHeld ?_; refine Tu5 6 29 HT_ HW_ hHeld ?_; refine Tu5 11 34 HT_ HW_ hHeld ?_; refine Ot 3 26 HT_ (fun K hK => ?_); refine goes_ Tryz.func35 (by kernel_rfl) rfl #[.int .i64 ((rd_T52 l0_2 x19_1).f0)] (by rfl) rfl rfl Zm ?_; with_reducible refine (impl_FormatInt.calls ((rd_T52 l0_2 x19_1).f0) t44 _ ?side1 A18.out).mono ?_
            (case side1 => exact Wl2 W_LaidI.out HB.out GE41.out GE42.out)
            rintro e w31 ⟨rfl, hb⟩; refine ⟨_, rfl, ?_⟩; replace HO_3 := Rb HO_3 hb; replace BK41 := Kb BK41 hb; replace BK42 := Kb BK42 hb; replace HB := Sb (Bb2 HB.out GE41.out GE42.out) hb; clear hb; refine hK.out _ _ (Ce5 BK42) (fun hHeld => ?_); clear hK K; refine Nn 26 ?_; refine Pt 4 27 HT_ ?_; refine Ot 7 30 HT_ (fun K hK => ?_); refine goes_ Tryz.func35 (by kernel_rfl) rfl #[.int .i64 ((rd_T52 l0_2 x19_1).f1)] (by rfl) rfl rfl Zm ?_; with_reducible refine (impl_FormatInt.calls ((rd_T52 l0_2 x19_1).f1) t45 _ ?side1 A20.out).mono ?_
            (case side1 => exact Wl2 W_LaidI.out HB.out GE41.out GE42.out)
            rintro e w32 ⟨rfl, hb⟩; refine ⟨_, rfl, ?_⟩; replace HO_3 := Rb HO_3 hb; replace BK41 := Kb BK41 hb; replace BK42 := Kb BK42 hb; replace HB := Sb (Bb2 HB.out GE41.out GE42.out) hb; clear hb; refine hK.out _ _ (Ce5 BK42) (fun hHeld => ?_); clear hK K; refine Nn 30 ?_; refine Pt 8 31 HT_ ?_; refine Pt 9 32 HT_ ?_; refine Ot 12 35 HT_ (fun K hK => ?_); refine goes_ Tryz.func36 (by kernel_rfl) rfl #[.agg #[.int .i64 ((rd_T52 l0_2 x19_1).f2.f0), .string ((rd_T52 l0_2 x19_1).f2.f1), .string ((rd_T52 l0_2 x19_1).f2.f2)]] (by rfl) rfl rfl Zm ?_; with_reducible refine (impl_StmtText.calls k1 ((rd_T52 l0_2 x19_1).f2.f0) ((rd_T52 l0_2 x19_1).f2.f1) ((rd_T52 l0_2 x19_1).f2.f2) t46 _ A23.out).mono ?_
            rintro e w33 ⟨rfl, hb⟩; refine ⟨_, rfl, ?_⟩; replace HO_3 := Rb HO_3 hb; replace BK41 := Kb BK41 hb; replace BK42 := Kb BK42 hb; replace HB := Sb (Bb2 HB.out GE41.out GE42.out) hb; clear hb; refine hK.out _ _ (Ce5 BK42) (fun hHeld => ?_); clear hK K; refine Nn 35 ?_; refine Pt 13 36 HT_ ?_; refine Ot 14 37 HT_ (fun K hK => ?_); refine value_ (w1 := ?_) (v := ?_) (by rfl) rfl ?_ ?_; rotate_left 2
            ·go_simp; constructor
             ·rfl
             ·rfl
            refine hK.out _ _ ⟨(blk_cell (blk_alloc BK42.out _) 0).trans rfl, (blk_cell (blk_alloc BK42.out _) 1).trans rfl, (blk_cell (blk_alloc BK42.out _) 2).trans rfl, (blk_cell (blk_alloc BK42.out _) 3).trans rfl, (blk_cell (blk_alloc BK42.out _) 4).trans rfl⟩ (fun hHeld => ?_); clear hK K; refine Nn 37 ?_; refine Ot 15 38 HT_ (fun K hK => ?_); refine Kd.R_append_step Qe (w0 := w) w.heap.size (by rfl) (.tmp 23) (.tmp 37) 22 9 (.string ⟨#[]⟩) 16 rfl Tryz.underlying22 info9 rfl (by decide) (by omega) u3 x3_1 ((((t44 ++ (⟨#[32]⟩ : ByteArray)) ++ t45) ++ (⟨#[32]⟩ : ByteArray)) ++ t46) [.string ((((t44 ++ (⟨#[32]⟩ : ByteArray)) ++ t45) ++ (⟨#[32]⟩ : ByteArray)) ++ t46)] (fun _ => True) (fun _ => False) rfl rfl ?aP (fun _ hk => hk.elim) ?aF ?aO ?aB ?aS ?aL ?_; (case aP => exact rfl)
            (case aB => exact (Bb2 HB.out GE41.out GE42.out))
            (case aF => exact (fun _ _ => trivial))
            (case aO => exact (Br HO_3.out))
            (case aS => exact (below_size (Bb2 HB.out GE41.out GE42.out)))
            (case aL => have := LMc25.out; omega)
            intro v65 w34 ho hb hg hat; rw [← Ny53.out] at ho; replace BK41 := Kg BK41 hg HO_3; replace BK42 := Kg BK42 hg HO_3; replace HB := Qa (hb); have HO59 := Qa (ho); clear HO_3 ho hb hg hat; refine hK.out _ _ (Ce5 BK42) (fun hHeld => ?_); clear hK K; refine Nn 38 ?_; refine Pt 16 3 HT_ ?_; refine done_ (done_of HT_.out (by kernel_rfl)) ?_; try go_wp2
            go_roundg k1
            case measure => have := HK1.out; omega
            case rel => exact ⟨(y53), (Qf (x19_1 + 1)), Zf, H', ⟨by have := HK1.out; omega⟩, ⟨Br HO59.out⟩, ⟨Ba BK41.out⟩, ⟨Bb2 HB.out GE41.out GE42.out⟩⟩
           ·rw [if_neg c25] at H; exact absurd H (by simp)
          ·rw [if_neg c24] at H; exact absurd H (by simp)
         ·rw [if_neg c22] at H; exact absurd H (by simp)
        ·rw [if_neg c21] at H; exact absurd H (by simp)
       ·rw [if_neg c19] at H; exact absurd H (by simp)
      ·rw [if_neg c17] at H; exact absurd H (by simp)
     ·rw [if_neg c16] at H; exact absurd H (by simp)
    ·rw [if_neg c15] at H; replace c15 := decide_eq_false c15; obtain ⟨t57, A35, H⟩ := Ob H; (try dsimp only at H)
     obtain rfl := Option.some.inj H; obtain ⟨Ao36, co36, eo36⟩ := Kd.R_slice HO_3.out; subst eo36; go_wp2_with (first | ((with_reducible refine gate_callee (f := 34) rfl ?_); refine Gl 41 Tryz.func34 #[.slice Ao36 x3_1.length co36, .string (⟨#[59]⟩ : ByteArray)] ?_; (with_reducible refine (impl_Join.calls _ _ x3_1 (⟨#[59]⟩ : ByteArray) t57 _ ?side1 ?side2 A35.out).mono ?_); (case side1 => exact Bc (Qb HO_3.out).2.2); (case side2 => exact (Qb HO_3.out).2.1); rintro e w37 ⟨rfl, hb⟩; refine ⟨_, rfl, ?_⟩; replace HO_3 := Rb HO_3 hb; replace BK41 := Kb BK41 hb; replace HB := Sb (Bb1 HB.out GE41.out) hb; clear hb)); go_ret; exact ⟨Ze, Bb1 HB.out GE41.out⟩
 ·replace c3 := Bool.eq_false_iff.mpr c3
  subst c3; rw [if_neg (show ¬ (false = true) by decide)] at H; obtain rfl := Option.some.inj H; go_enter Tryz.func9, Tryz.ntmps9; go_wp2_with (first | ((with_reducible refine gate_dst (N := 1) rfl ?_); refine Bx (N := 1) (cs := #[.slice A0_0 l0_0.length c0_0, .int .i64 a0_1, .slice A0_2 l0_2.length c0_2]) (t := 30) ?_; intro gb41 hg w38 hbox hb; have BK41 := Qa (hbox); have GW41 := Gs (w := w) hg (Bb0 HB.out); have GE41 := GW41; replace HB := Sb (Bb0 HB.out) hb; clear hb hbox hg; obtain ⟨q39_0, q39_1, q39_2, u39_0, u39_1, u39_2⟩ := Cf3 BK41) | ((with_reducible refine gate_callee (f := 17) rfl ?_); refine Gl 7 Tryz.func17 #[.agg #[.slice A0_0 l0_0.length c0_0, .int .i64 a0_1, .slice A0_2 l0_2.length c0_2]] ?_; (with_reducible refine (impl_IsProgram.calls k _ _ l0_0 a0_1 _ _ l0_2 false _ ?side1 ?side2 ?side3 ?side4 A2.out).mono ?_); (case side1 => exact Bc (Qt HR0_0.out HB.out)); (case side2 => exact HC0_0.out); (case side3 => exact Bc (Qt HR0_2.out HB.out)); (case side4 => exact HC0_2.out); rintro e w40 ⟨rfl, hb⟩; refine ⟨_, rfl, ?_⟩; replace BK41 := Kb BK41 hb; replace HB := Sb (Bb1 HB.out GE41.out) hb; clear hb)); go_ret; exact ⟨Ze, Bb1 HB.out GE41.out⟩
def spec_SplitByte.l0 : Nat → ByteArray → Int → List ByteArray → Int → Int → Option (List ByteArray)
 | 0, _, _, _, _, _ => none
 | k + 1, x0, x1, x5, x6, x7 => if x7 ≤ (x0.size : Int) then (if x7 = (x0.size : Int) then (if 0 ≤ x6 then (if x6 ≤ x7 then (if x5.length < 8796093022208 then (spec_SplitByte.l0 k x0 x1 (x5 ++ [x0.extract (x6 : Int).toNat (x7 : Int).toNat]) (Qf (x7 + 1)) (Qf (x7 + 1))) else (none)) else (none)) else (none)) else (if 0 ≤ x7 then (if x7 < (x0.size : Int) then (if (bt x0 x7) = x1 then (if 0 ≤ x6 then (if x6 ≤ x7 then (if x5.length < 8796093022208 then (spec_SplitByte.l0 k x0 x1 (x5 ++ [x0.extract (x6 : Int).toNat (x7 : Int).toNat]) (Qf (x7 + 1)) (Qf (x7 + 1))) else (none)) else (none)) else (none)) else (spec_SplitByte.l0 k x0 x1 x5 x6 (Qf (x7 + 1)))) else (none)) else (none))) else (some x5)
def spec_SplitByte.f (k : Nat) (a0 : ByteArray) (a1 : Int) : Option (List ByteArray) := spec_SplitByte.l0 k a0 a1 (([] : List ByteArray)) 0 0
theorem spec_SplitByte.mono_l : ∀ k, (∀ y0 y1 y2 y3 y4, LeO (spec_SplitByte.l0 k y0 y1 y2 y3 y4) (spec_SplitByte.l0 (k + 1) y0 y1 y2 y3 y4))
 | 0 => fun _ _ _ _ _ r h => by simp [spec_SplitByte.l0] at h
 | k + 1 => by
  have ih0 := spec_SplitByte.mono_l k
  ·intro y0 y1 y2 y3 y4; unfold spec_SplitByte.l0; exact Lm1 ih0
theorem spec_SplitByte.mono : ∀ a0 a1 k, LeO (spec_SplitByte.f k a0 a1) (spec_SplitByte.f (k + 1) a0 a1) := by
 intro a0 a1 k
 have ih0 := spec_SplitByte.mono_l k
 unfold spec_SplitByte.f
 exact Lm1 ih0
theorem spec_SplitByte.calls (k : Nat) (a0 : ByteArray) (a1 : Int) (r : List ByteArray) (w : World) (h : spec_SplitByte.f k a0 a1 = some r) :
  Calls Tryz.prog 39 #[.string a0, .int .u8 a1] w fun e w' => ∃ v0_ : Value, e = .returned (v0_) ∧ Kd.R Qe 9 w' w.heap.size (fun _ => True) v0_ r ∧ Qz w.heap.size w w' := by
 have HB := Qa (Below.refl w.heap.size w)
 have H : (spec_SplitByte.l0 k a0 a1 (([] : List ByteArray)) 0 0) = some r := h
 clear h
 obtain ⟨y51, hy51⟩ : ∃ y_ : List ByteArray, y_ = (([] : List ByteArray)) := ⟨_, rfl⟩
 replace H : (spec_SplitByte.l0 k a0 a1 y51 0 0) = some r := Zh hy51 H
 have Ny51 := Qa hy51
 clear hy51
 have H' := Qa H
 clear H
 go_enter Tryz.func39, Tryz.ntmps39
 go_wp2_with (first | ((with_reducible refine gate_dst (N := 8) rfl ?_); refine Kd.R_lit Qe _ 9 ?hg (N := 8) ?hd (xs := ([] : List ByteArray)) (inner := []) (ok := fun _ => True) (okp := fun _ => True) ?hr ?hp (fun _ hk => hk) trivial (Below.refl _ _) (Nat.le_refl _) (by simp) ?_; (case hd => rfl); (case hg => rfl); (case hr => first | (go_simp; done) | (go_simp; rfl)); (case hp => exact (Reps.none _ _)); intro v66 w3 ho4 hb hg_ hnew_; clear hg_ hnew_; (first | rw [← Ny51.out] at ho4 | (simp only [Int.reduceToNat] at ho4; rw [← Ny51.out] at ho4)); have HO60 := Lw ho4 (Bb0 HB.out); replace HB := Sb (Bb0 HB.out) hb; clear hb ho4))
 go_loopg [5, 6, 7] k (fun kq v5 v6 v7 w' => ∃ (x5_1 : List ByteArray) (x6_1 : Int) (x7_1 : Int), v6 = .int .i64 x6_1 ∧ v7 = .int .i64 x7_1 ∧ Aside0 (spec_SplitByte.l0 kq a0 a1 x5_1 x6_1 x7_1 = some r) ∧ Aside0 (kq ≤ k) ∧ Aside0 (Kd.R Qe 9 w' w.heap.size (fun _ => True) v5 x5_1) ∧ Aside0 (Qz w.heap.size w w'))
 case atStart => exact ⟨(y51), (0), (0), Zf, Zf, H', ⟨Nat.le_refl _⟩, ⟨Br HO60.out⟩, ⟨Bb0 HB.out⟩⟩
 case round =>
  clear H'; (try clear p2)
  (try clear c3)
  obtain ⟨x5_1, x6_1, x7_1, rfl, rfl, HA, HK1, HO_5, HB⟩ := hrel; cases gk with
  | zero => exact absurd HA.out (by simp [spec_SplitByte.l0])
  | succ k1 =>
   have H := HA.out; clear HA; simp only [spec_SplitByte.l0] at H; by_cases c5 : x7_1 ≤ (a0.size : Int)
   ·rw [if_pos c5] at H; replace c5 := decide_eq_true c5; by_cases c6 : x7_1 = (a0.size : Int)
    ·rw [if_pos c6] at H; have c6b0 := beq_iff_eq.mpr c6; have c6b1 := bne_eq_false_iff_eq.mpr c6; clear c6; by_cases c7 : 0 ≤ x6_1
     ·rw [if_pos c7] at H; have c7b0 := eq_true c7; have c7b1 := decide_eq_true c7; clear c7; by_cases c8 : x6_1 ≤ x7_1
      ·rw [if_pos c8] at H; have c8b0 := eq_true c8; have c8b1 := decide_eq_true c8; clear c8; have c9b0 := eq_true (Da : x7_1 ≤ (a0.size : Int)); by_cases c10 : x5_1.length < 8796093022208
       ·rw [if_pos c10] at H; have LMc10 := Qa c10; clear c10; obtain ⟨y54, hy54⟩ : ∃ y_ : List ByteArray, y_ = (x5_1 ++ [a0.extract (x6_1 : Int).toNat (x7_1 : Int).toNat]) := ⟨_, rfl⟩; replace H : (spec_SplitByte.l0 k1 a0 a1 y54 (Qf (x7_1 + 1)) (Qf (x7_1 + 1))) = some r := Zh hy54 H; have Ny54 := Qa hy54; clear hy54; have H' := Qa H; clear H; go_wp2_with (first | ((with_reducible refine gate_builtin (b := .append) (xs := #[.tmp 26, .tmp 31]) rfl ?_); at_builtin; refine Kd.R_append Qe (w0 := w) w.heap.size rfl (.tmp 26) (.tmp 31) 22 9 (.string ⟨#[]⟩) 16 rfl Tryz.underlying22 info9 rfl (by decide) (by omega) u5 x5_1 (a0.extract (x6_1 : Int).toNat (x7_1 : Int).toNat) [.string (a0.extract (x6_1 : Int).toNat (x7_1 : Int).toNat)] (fun _ => True) (fun _ => False) rfl rfl ?aP (fun _ hk => hk.elim) ?aF ?aO ?aB ?aS ?aL ?_; (case aP => exact rfl); (case aB => exact (Bb0 HB.out)); (case aF => exact (fun _ _ => trivial)); (case aO => exact (Br HO_5.out)); (case aS => exact (below_size (Bb0 HB.out))); (case aL => have := LMc10.out; omega); intro v67 w11 ho hb hg hat; rw [← Ny54.out] at ho; replace HB := Qa (hb); have HO61 := Qa (ho); clear HO_5; clear ho hb hg hat)); go_roundg k1
        case measure => have := HK1.out; omega
        case rel => exact ⟨(y54), (Qf (x7_1 + 1)), (Qf (x7_1 + 1)), Zf, Zf, H', ⟨by have := HK1.out; omega⟩, ⟨Br HO61.out⟩, ⟨Bb0 HB.out⟩⟩
       ·rw [if_neg c10] at H; exact absurd H (by simp)
      ·rw [if_neg c8] at H; exact absurd H (by simp)
     ·rw [if_neg c7] at H; exact absurd H (by simp)
    ·rw [if_neg c6] at H; have c6b0 := beq_eq_false_iff_ne.mpr c6; have c6b1 := bne_iff_ne.mpr c6; by_cases c12 : 0 ≤ x7_1
     ·rw [if_pos c12] at H; replace c12 := decide_eq_true c12; by_cases c13 : x7_1 < (a0.size : Int)
      ·rw [if_pos c13] at H; replace c13 := decide_eq_true c13; by_cases c15 : (bt a0 x7_1) = a1
       ·rw [if_pos c15] at H; have c15b0 := beq_iff_eq.mpr c15; have c15b1 := bne_eq_false_iff_eq.mpr c15; clear c15; by_cases c16 : 0 ≤ x6_1
        ·rw [if_pos c16] at H; have c16b0 := eq_true c16; have c16b1 := decide_eq_true c16; clear c16; by_cases c17 : x6_1 ≤ x7_1
         ·rw [if_pos c17] at H; have c17b0 := eq_true c17; have c17b1 := decide_eq_true c17; clear c17; have c18b0 := eq_true (Da : x7_1 ≤ (a0.size : Int)); by_cases c19 : x5_1.length < 8796093022208
          ·rw [if_pos c19] at H; have LMc19 := Qa c19; clear c19; obtain ⟨y55, hy55⟩ : ∃ y_ : List ByteArray, y_ = (x5_1 ++ [a0.extract (x6_1 : Int).toNat (x7_1 : Int).toNat]) := ⟨_, rfl⟩; replace H : (spec_SplitByte.l0 k1 a0 a1 y55 (Qf (x7_1 + 1)) (Qf (x7_1 + 1))) = some r := Zh hy55 H; have Ny55 := Qa hy55; clear hy55; have H' := Qa H; clear H; have p14 : 0 ≤ (x7_1 : Int) := Da; have q14 : x7_1 < (a0.size : Int) := Da; have hx14 := bt_at a0 x7_1; replace p14 := eq_true p14; replace q14 := eq_true q14; go_wp2_with (first | ((with_reducible refine gate_builtin (b := .append) (xs := #[.tmp 26, .tmp 31]) rfl ?_); at_builtin; refine Kd.R_append Qe (w0 := w) w.heap.size rfl (.tmp 26) (.tmp 31) 22 9 (.string ⟨#[]⟩) 16 rfl Tryz.underlying22 info9 rfl (by decide) (by omega) u5 x5_1 (a0.extract (x6_1 : Int).toNat (x7_1 : Int).toNat) [.string (a0.extract (x6_1 : Int).toNat (x7_1 : Int).toNat)] (fun _ => True) (fun _ => False) rfl rfl ?aP (fun _ hk => hk.elim) ?aF ?aO ?aB ?aS ?aL ?_; (case aP => exact rfl); (case aB => exact (Bb0 HB.out)); (case aF => exact (fun _ _ => trivial)); (case aO => exact (Br HO_5.out)); (case aS => exact (below_size (Bb0 HB.out))); (case aL => have := LMc19.out; omega); intro v68 w20 ho hb hg hat; rw [← Ny55.out] at ho; replace HB := Qa (hb); have HO62 := Qa (ho); clear HO_5; clear ho hb hg hat)); go_roundg k1
           case measure => have := HK1.out; omega
           case rel => exact ⟨(y55), (Qf (x7_1 + 1)), (Qf (x7_1 + 1)), Zf, Zf, H', ⟨by have := HK1.out; omega⟩, ⟨Br HO62.out⟩, ⟨Bb0 HB.out⟩⟩
          ·rw [if_neg c19] at H; exact absurd H (by simp)
         ·rw [if_neg c17] at H; exact absurd H (by simp)
        ·rw [if_neg c16] at H; exact absurd H (by simp)
       ·rw [if_neg c15] at H; have c15b0 := beq_eq_false_iff_ne.mpr c15; have c15b1 := bne_iff_ne.mpr c15; have H' := Qa H; clear H; have p14 : 0 ≤ (x7_1 : Int) := Da; have q14 : x7_1 < (a0.size : Int) := Da; have hx14 := bt_at a0 x7_1; replace p14 := eq_true p14; replace q14 := eq_true q14; go_wp2; go_roundg k1
        case measure => have := HK1.out; omega
        case rel => exact ⟨(x5_1), (x6_1), (Qf (x7_1 + 1)), Zf, Zf, H', ⟨by have := HK1.out; omega⟩, ⟨Br HO_5.out⟩, ⟨Bb0 HB.out⟩⟩
      ·rw [if_neg c13] at H; exact absurd H (by simp)
     ·rw [if_neg c12] at H; exact absurd H (by simp)
   ·rw [if_neg c5] at H; replace c5 := decide_eq_false c5; obtain rfl := Option.some.inj H; go_wp2; go_ret; exact ⟨_, Ze, Br HO_5.out, Bb0 HB.out⟩
end Go.Proofs.YtndkkpjofddfjaaGreatDoor.PFnPrograms
