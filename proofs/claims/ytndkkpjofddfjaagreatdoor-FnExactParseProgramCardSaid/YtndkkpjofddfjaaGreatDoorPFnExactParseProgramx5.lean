/- A part of the walk through the printed functions; no condition. -/
import Derived.Test.YtndkkpjofddfjaaGreatDoorXAuto
import Derived.Test.YtndkkpjofddfjaaGreatDoorPFnExactParseProgramx0
import Derived.Test.YtndkkpjofddfjaaGreatDoorPFnExactParseProgramx3
import Derived.Test.YtndkkpjofddfjaaGreatDoorPFnExactParseProgramx4
namespace Go.Proofs.YtndkkpjofddfjaaGreatDoor.PFnExactParseProgram
open Go.RowKit Go.Proofs.YtndkkpjofddfjaaGreatDoorW.PrintWords Go.Proofs.YtndkkpjofddfjaaGreatDoorW.PrintLast Go.Proofs.YtndkkpjofddfjaaGreatDoorW.PrintMore
attribute [local go_sem] max2_int min2_int max_two min_two max_three min_three max_four min_four
set_option maxHeartbeats 32000000
set_option maxRecDepth 100000
attribute [local irreducible] Go.World.setCell
set_option linter.unusedVariables false
set_option linter.unusedSimpArgs false
open Go.Proofs.YtndkkpjofddfjaaGreatDoorW.PrintWords.Aside0 renaming mk → Qa
open Go.RowKit renaming wrap64 → Qb, Below → Qv
def spec_ProgramText.l0 : Nat → ByteArray → Int → List ByteArray → Int → List (S52) → Option (ByteArray)
 | 0, _, _, _, _, _ => none
 | k + 1, x3, x4, x53, x54, x49 => if x4 < (x49.length : Int) then (if 0 ≤ x4 then (if x3.size + 1 ≤ 9223372036854775807 then ((spec_FormatInt.f k ((rd_T52 x49 x4).f0)).bind fun t41 => (if (x3 ++ (⟨#[59]⟩ : ByteArray)).size + t41.size ≤ 9223372036854775807 then (if ((x3 ++ (⟨#[59]⟩ : ByteArray)) ++ t41).size + 1 ≤ 9223372036854775807 then ((spec_FormatInt.f k ((rd_T52 x49 x4).f1)).bind fun t42 => (if (((x3 ++ (⟨#[59]⟩ : ByteArray)) ++ t41) ++ (⟨#[32]⟩ : ByteArray)).size + t42.size ≤ 9223372036854775807 then (if ((((x3 ++ (⟨#[59]⟩ : ByteArray)) ++ t41) ++ (⟨#[32]⟩ : ByteArray)) ++ t42).size + 1 ≤ 9223372036854775807 then ((spec_StmtText.f k ((rd_T52 x49 x4).f2.f0) ((rd_T52 x49 x4).f2.f1) ((rd_T52 x49 x4).f2.f2)).bind fun t46 => (if (((((x3 ++ (⟨#[59]⟩ : ByteArray)) ++ t41) ++ (⟨#[32]⟩ : ByteArray)) ++ t42) ++ (⟨#[32]⟩ : ByteArray)).size + t46.size ≤ 9223372036854775807 then (spec_ProgramText.l0 k ((((((x3 ++ (⟨#[59]⟩ : ByteArray)) ++ t41) ++ (⟨#[32]⟩ : ByteArray)) ++ t42) ++ (⟨#[32]⟩ : ByteArray)) ++ t46) (Qb (x4 + 1)) x53 x54 x49) else (none))) else (none)) else (none))) else (none)) else (none))) else (none)) else (none)) else (some x3)
def spec_ProgramText.f (k : Nat) (l0_0 : List ByteArray) (a0_1 : Int) (l0_2 : List (S52)) : Option (ByteArray) := (spec_IsProgram.f k l0_0 a0_1 l0_2).bind fun t51 => (if t51 = true then ((spec_Join.f k l0_0 (⟨#[32]⟩ : ByteArray)).bind fun t43 => (if t43.size + 1 ≤ 9223372036854775807 then ((spec_FormatInt.f k a0_1).bind fun t44 => (if (t43 ++ (⟨#[59]⟩ : ByteArray)).size + t44.size ≤ 9223372036854775807 then (spec_ProgramText.l0 k ((t43 ++ (⟨#[59]⟩ : ByteArray)) ++ t44) 0 l0_0 a0_1 l0_2) else (none))) else (none))) else (some (⟨#[]⟩ : ByteArray)))
theorem spec_ProgramText.mono_l : ∀ k, (∀ y0 y1 y2 y3 y4, LeO (spec_ProgramText.l0 k y0 y1 y2 y3 y4) (spec_ProgramText.l0 (k + 1) y0 y1 y2 y3 y4))
 | 0 => fun _ _ _ _ _ r h => by simp [spec_ProgramText.l0] at h
 | k + 1 => by
  have ih0 := spec_ProgramText.mono_l k
  ·intro y0 y1 y2 y3 y4; unfold spec_ProgramText.l0; exact Lm5 ih0 spec_FormatInt.mono spec_IsProgram.mono spec_Join.mono spec_StmtText.mono
theorem spec_ProgramText.mono : ∀ a0 a1 a2 k, LeO (spec_ProgramText.f k a0 a1 a2) (spec_ProgramText.f (k + 1) a0 a1 a2) := by
 intro a0 a1 a2 k
 have ih0 := spec_ProgramText.mono_l k
 unfold spec_ProgramText.f
 exact Lm5 ih0 spec_FormatInt.mono spec_IsProgram.mono spec_Join.mono spec_StmtText.mono
def spec_ProgramText.T3 : Bool × List (List Nat × List Nat) := (true, [([], []), ([0], [0]), ([1], [1]), ([2], [2]), ([], []), ([4], [4]), ([5, 2], [5]), ([3, 6], [3, 6]), ([7, 6, 0, 1, 2, 3, 4, 5, 6, 7], [7])])
def spec_ProgramText.B3 : List Nat := [0, 1, 3, 7, 0, 16, 55, 127, 255]
theorem spec_ProgramText.tab3 : rtab .any (opsOf Tryz.f7 3) = spec_ProgramText.T3 := by kernel_rfl
theorem spec_ProgramText.bits3 : waitsOk spec_ProgramText.T3.2 spec_ProgramText.B3 = true := by kernel_rfl
def spec_ProgramText.T8 : Bool × List (List Nat × List Nat) := (true, [([], []), ([0], [0]), ([], []), ([2], [2]), ([3], [3]), ([1, 4], [1, 4]), ([5], [5]), ([], []), ([7], [7]), ([8, 4], [8]), ([6, 9], [6, 9]), ([10], [10]), ([], []), ([12], [12]), ([13, 9], [13]), ([11, 14], [11, 14]), ([15, 14, 0, 1, 2, 3, 4, 5, 6, 7, 8, 9, 10, 11, 12, 13, 14, 15], [0, 15])])
def spec_ProgramText.B8 : List Nat := [0, 1, 0, 4, 12, 31, 63, 0, 128, 412, 1023, 2047, 0, 4096, 13212, 32767, 65535]
theorem spec_ProgramText.tab8 : rtab .any (opsOf Tryz.f7 8) = spec_ProgramText.T8 := by kernel_rfl
theorem spec_ProgramText.bits8 : waitsOk spec_ProgramText.T8.2 spec_ProgramText.B8 = true := by kernel_rfl
theorem spec_ProgramText.calls (k : Nat) (A0_0 : Option Addr) (c0_0 : Nat) (l0_0 : List ByteArray) (a0_1 : Int) (A0_2 : Option Addr) (c0_2 : Nat) (l0_2 : List (S52)) (r : ByteArray) (w : World) (hr0_0 : Kd.C Kd.string w A0_0 l0_0.length l0_0) (hc0_0 : l0_0.length ≤ c0_0) (hr0_2 : Kd.C k52 w A0_2 l0_2.length l0_2) (hc0_2 : l0_2.length ≤ c0_2) (h : spec_ProgramText.f k l0_0 a0_1 l0_2 = some r) :
  Calls Tryz.prog 7 #[.agg #[.slice A0_0 l0_0.length c0_0, .int .i64 a0_1, .slice A0_2 l0_2.length c0_2]] w fun e w' => e = .returned (.string r) ∧ Qv w.heap.size w w' := by
 have hu30 := Tryz.underlying30
 have hu52 := Tryz.underlying52
 have hu50 := Tryz.underlying50
 have HR0_0 := Qa hr0_0
 have HC0_0 := Qa hc0_0
 clear hr0_0 hc0_0
 have HR0_2 := Qa hr0_2
 have HC0_2 := Qa hc0_2
 clear hr0_2 hc0_2
 have HB := Qa (Below.refl w.heap.size w)
 have H : ((spec_IsProgram.f k l0_0 a0_1 l0_2).bind fun t51 => (if t51 = true then ((spec_Join.f k l0_0 (⟨#[32]⟩ : ByteArray)).bind fun t43 => (if t43.size + 1 ≤ 9223372036854775807 then ((spec_FormatInt.f k a0_1).bind fun t44 => (if (t43 ++ (⟨#[59]⟩ : ByteArray)).size + t44.size ≤ 9223372036854775807 then (spec_ProgramText.l0 k ((t43 ++ (⟨#[59]⟩ : ByteArray)) ++ t44) 0 l0_0 a0_1 l0_2) else (none))) else (none))) else (some (⟨#[]⟩ : ByteArray)))) = some r := h
 clear h
 obtain ⟨t51, A2, H⟩ := Ob H
 (try dsimp only at H)
 by_cases c3 : t51 = true
 ·subst c3
  rw [if_pos rfl] at H; obtain ⟨t43, A4, H⟩ := Ob H; (try dsimp only at H)
  by_cases c5 : t43.size + 1 ≤ 9223372036854775807
  ·rw [if_pos c5] at H; have c5b0 := eq_true c5; have c5b1 := decide_eq_true c5; try have c5b2 : (9223372036854775807 < t43.size + 1) = False := eq_false (Nat.not_lt.2 c5)
   obtain ⟨t44, A6, H⟩ := Ob H; (try dsimp only at H)
   by_cases c7 : (t43 ++ (⟨#[59]⟩ : ByteArray)).size + t44.size ≤ 9223372036854775807
   ·rw [if_pos c7] at H; have c7b0 := eq_true c7; have c7b1 := decide_eq_true c7; try have c7b2 : (9223372036854775807 < (t43 ++ (⟨#[59]⟩ : ByteArray)).size + t44.size) = False := eq_false (Nat.not_lt.2 c7)
    try have c7b3 : (9223372036854775807 < t43.size + 1 + t44.size) = False := eq_false (Nat.not_lt.2 (by have h_ := c7; simp only [ByteArray.size_append] at h_; exact h_))
    have H' := Qa H; clear H; go_enter Tryz.func7, Tryz.ntmps7; try go_wp2_with (first | ((with_reducible refine gate_dst (N := 1) rfl ?_); refine Bx (N := 1) (cs := #[.slice A0_0 l0_0.length c0_0, .int .i64 a0_1, .slice A0_2 l0_2.length c0_2]) (t := 30) ?_; intro gb38 hg w8 hbox hb; have BK38 := Qa (hbox); have GW38 := Gs (w := w) hg (Bb0 HB.out); have GE38 := GW38; replace HB := Sb (Bb0 HB.out) hb; clear hb hbox hg; obtain ⟨q9_0, q9_1, q9_2, u9_0, u9_1, u9_2⟩ := Cf3 BK38) | ((with_reducible refine gate_callee (f := 18) rfl ?_); refine Gl 7 Tryz.func18 #[.agg #[.slice A0_0 l0_0.length c0_0, .int .i64 a0_1, .slice A0_2 l0_2.length c0_2]] ?_; (with_reducible refine (spec_IsProgram.calls k _ _ l0_0 a0_1 _ _ l0_2 true _ ?side1 ?side2 ?side3 ?side4 A2.out).mono ?_); (case side1 => exact Bc (Kd.C_below HR0_0.out HB.out)); (case side2 => exact HC0_0.out); (case side3 => exact Bc (Kd.C_below HR0_2.out HB.out)); (case side4 => exact HC0_2.out); rintro e w10 ⟨rfl, hb⟩; refine ⟨_, rfl, ?_⟩; replace BK38 := Kb BK38 hb; replace HB := Sb (Bb1 HB.out GE38.out) hb; clear hb))
    replace BK38 := Db BK38; replace HB := Qa (below_drew1 HB.out); refine start_ (n := 9) (S := fun w' => w'.cell? ⟨gb38, 0, none⟩ = some (.slice A0_0 l0_0.length c0_0) ∧ w'.cell? ⟨gb38, 1, none⟩ = some (.int .i64 a0_1) ∧ w'.cell? ⟨gb38, 2, none⟩ = some (.slice A0_2 l0_2.length c0_2)) (ds := []) #[false, false, false, false, false, false, false, false, false] (by kernel_rfl) rfl rfl (Ce3 BK38) (fun hHeld => ?_); refine with_tabW spec_ProgramText.tab3 spec_ProgramText.bits3 (fun HT_ HW_ => ?_); generalize w10.drew = w11 at BK38 HB hHeld ⊢; refine Pt 0 9 HT_ ?_; refine Pt 4 13 HT_ ?_; refine Tu3 1 10 HT_ HW_ hHeld ?_; refine Tu3 5 14 HT_ HW_ hHeld ?_; refine Ot 2 11 HT_ (fun K hK => ?_); refine goes_ Tryz.func29 (by kernel_rfl) rfl #[.slice A0_0 l0_0.length c0_0, .string (⟨#[32]⟩ : ByteArray)] (by rfl) rfl rfl Zm ?_; with_reducible refine (spec_Join.calls k _ _ l0_0 (⟨#[32]⟩ : ByteArray) t43 _ ?side1 ?side2 A4.out).mono ?_
    (case side1 => exact Bc (Kd.C_below HR0_0.out HB.out))
    (case side2 => exact HC0_0.out)
    rintro e w12 ⟨rfl, hb⟩; refine ⟨_, rfl, ?_⟩; replace BK38 := Kb BK38 hb; replace HB := Sb (Bb1 HB.out GE38.out) hb; clear hb; refine hK.out _ _ (Ce3 BK38) (fun hHeld => ?_); clear hK K; refine Nn 11 ?_; refine Pt 3 12 HT_ ?_; refine Ot 6 15 HT_ (fun K hK => ?_); refine goes_ Tryz.func30 (by kernel_rfl) rfl #[.int .i64 a0_1] (by rfl) rfl rfl Zm ?_; with_reducible refine (spec_FormatInt.calls k a0_1 t44 _ A6.out).mono ?_
    rintro e w13 ⟨rfl, hb⟩; refine ⟨_, rfl, ?_⟩; replace BK38 := Kb BK38 hb; replace HB := Sb (Bb1 HB.out GE38.out) hb; clear hb; refine hK.out _ _ (Ce3 BK38) (fun hHeld => ?_); clear hK K; refine Nn 15 ?_; refine Pt 7 16 HT_ ?_; refine Pt 8 3 HT_ ?_; refine done_ (done_of HT_.out (by kernel_rfl)) ?_; try go_wp2
    go_loopg [3, 4] k (fun kq v3 v4 w' => ∃ (x3_1 : ByteArray) (x4_1 : Int), v3 = .string x3_1 ∧ v4 = .int .i64 x4_1 ∧ Aside0 (spec_ProgramText.l0 kq x3_1 x4_1 l0_0 a0_1 l0_2 = some r) ∧ Aside0 (kq ≤ k) ∧ Aside0 (w'.heap[gb38]? = some (.cells #[(.slice A0_0 l0_0.length c0_0), .int .i64 a0_1, (.slice A0_2 l0_2.length c0_2)] 30 (0, 0))) ∧ Aside0 (Qv w.heap.size w w'))
    case atStart => exact ⟨((t43 ++ (⟨#[59]⟩ : ByteArray)) ++ t44), (0), Zf, Zf, H', ⟨Nat.le_refl _⟩, ⟨Ba BK38.out⟩, ⟨Bb1 HB.out GE38.out⟩⟩
    case round =>
     clear H'; (try clear c1)
     (try clear c2)
     (try clear p2)
     (try clear c3)
     (try clear c5)
     (try clear c5b0)
     (try clear c5b1)
     (try clear c5b2)
     (try clear c7)
     (try clear c7b0)
     (try clear c7b1)
     (try clear c7b2)
     (try clear q9_0)
     (try clear q9_1)
     (try clear q9_2)
     (try clear u9_0)
     (try clear u9_1)
     (try clear u9_2)
     obtain ⟨x3_1, x4_1, rfl, rfl, HA, HK1, BK38, HB⟩ := hrel; cases gk with
     | zero => exact absurd HA.out (by simp [spec_ProgramText.l0])
     | succ k1 =>
      have H := HA.out; clear HA; simp only [spec_ProgramText.l0] at H; by_cases c14 : x4_1 < (l0_2.length : Int)
      ·rw [if_pos c14] at H; replace c14 := decide_eq_true c14; by_cases c15 : 0 ≤ x4_1
       ·rw [if_pos c15] at H; replace c15 := decide_eq_true c15; by_cases c16 : x3_1.size + 1 ≤ 9223372036854775807
        ·rw [if_pos c16] at H; have c16b0 := eq_true c16; have c16b1 := decide_eq_true c16; try have c16b2 : (9223372036854775807 < x3_1.size + 1) = False := eq_false (Nat.not_lt.2 c16)
         obtain ⟨t41, A17, H⟩ := Ob H; (try dsimp only at H)
         by_cases c18 : (x3_1 ++ (⟨#[59]⟩ : ByteArray)).size + t41.size ≤ 9223372036854775807
         ·rw [if_pos c18] at H; have c18b0 := eq_true c18; have c18b1 := decide_eq_true c18; try have c18b2 : (9223372036854775807 < (x3_1 ++ (⟨#[59]⟩ : ByteArray)).size + t41.size) = False := eq_false (Nat.not_lt.2 c18)
          try have c18b3 : (9223372036854775807 < x3_1.size + 1 + t41.size) = False := eq_false (Nat.not_lt.2 (by have h_ := c18; simp only [ByteArray.size_append] at h_; exact h_))
          by_cases c19 : ((x3_1 ++ (⟨#[59]⟩ : ByteArray)) ++ t41).size + 1 ≤ 9223372036854775807
          ·rw [if_pos c19] at H; have c19b0 := eq_true c19; have c19b1 := decide_eq_true c19; try have c19b2 : (9223372036854775807 < ((x3_1 ++ (⟨#[59]⟩ : ByteArray)) ++ t41).size + 1) = False := eq_false (Nat.not_lt.2 c19)
           try have c19b3 : (9223372036854775807 < x3_1.size + 1 + t41.size + 1) = False := eq_false (Nat.not_lt.2 (by have h_ := c19; simp only [ByteArray.size_append] at h_; exact h_))
           obtain ⟨t42, A20, H⟩ := Ob H; (try dsimp only at H)
           by_cases c21 : (((x3_1 ++ (⟨#[59]⟩ : ByteArray)) ++ t41) ++ (⟨#[32]⟩ : ByteArray)).size + t42.size ≤ 9223372036854775807
           ·rw [if_pos c21] at H; have c21b0 := eq_true c21; have c21b1 := decide_eq_true c21; try have c21b2 : (9223372036854775807 < (((x3_1 ++ (⟨#[59]⟩ : ByteArray)) ++ t41) ++ (⟨#[32]⟩ : ByteArray)).size + t42.size) = False := eq_false (Nat.not_lt.2 c21)
            try have c21b3 : (9223372036854775807 < x3_1.size + 1 + t41.size + 1 + t42.size) = False := eq_false (Nat.not_lt.2 (by have h_ := c21; simp only [ByteArray.size_append] at h_; exact h_))
            by_cases c22 : ((((x3_1 ++ (⟨#[59]⟩ : ByteArray)) ++ t41) ++ (⟨#[32]⟩ : ByteArray)) ++ t42).size + 1 ≤ 9223372036854775807
            ·rw [if_pos c22] at H; have c22b0 := eq_true c22; have c22b1 := decide_eq_true c22; try have c22b2 : (9223372036854775807 < ((((x3_1 ++ (⟨#[59]⟩ : ByteArray)) ++ t41) ++ (⟨#[32]⟩ : ByteArray)) ++ t42).size + 1) = False := eq_false (Nat.not_lt.2 c22)
             try have c22b3 : (9223372036854775807 < x3_1.size + 1 + t41.size + 1 + t42.size + 1) = False := eq_false (Nat.not_lt.2 (by have h_ := c22; simp only [ByteArray.size_append] at h_; exact h_))
             obtain ⟨t46, A23, H⟩ := Ob H; (try dsimp only at H)
             by_cases c24 : (((((x3_1 ++ (⟨#[59]⟩ : ByteArray)) ++ t41) ++ (⟨#[32]⟩ : ByteArray)) ++ t42) ++ (⟨#[32]⟩ : ByteArray)).size + t46.size ≤ 9223372036854775807
             ·rw [if_pos c24] at H; have c24b0 := eq_true c24; have c24b1 := decide_eq_true c24; try have c24b2 : (9223372036854775807 < (((((x3_1 ++ (⟨#[59]⟩ : ByteArray)) ++ t41) ++ (⟨#[32]⟩ : ByteArray)) ++ t42) ++ (⟨#[32]⟩ : ByteArray)).size + t46.size) = False := eq_false (Nat.not_lt.2 c24)
              try have c24b3 : (9223372036854775807 < x3_1.size + 1 + t41.size + 1 + t42.size + 1 + t46.size) = False := eq_false (Nat.not_lt.2 (by have h_ := c24; simp only [ByteArray.size_append] at h_; exact h_))
              have H' := Qa H; clear H; obtain ⟨q25_0, q25_1, q25_2, u25_0, u25_1, u25_2⟩ := Cf3 BK38; have p40 : 0 ≤ (x4_1 : Int) := Da; have q40 : x4_1 < (l0_2.length : Int) := Da; obtain ⟨ad40, e40, hx40_0, hx40_1, hx40_2, hx40_3, hx40_4⟩ := at_T52 HR0_2.out x4_1 p40 q40; cases e40
              replace hx40_0 := Cx HB hx40_0; replace hx40_1 := Cx HB hx40_1; replace hx40_2 := Cx HB hx40_2; replace hx40_3 := Cx HB hx40_3; replace hx40_4 := Cx HB hx40_4; replace p40 := eq_true p40; replace q40 := eq_true q40; try go_wp2_with (first | ((with_reducible refine gate_dst (N := 5) rfl ?_); refine Bx (N := 5) (cs := #[.int .i64 0, .int .i64 0, .int .i64 0, .string (⟨#[]⟩ : ByteArray), .string (⟨#[]⟩ : ByteArray)]) (t := 52) ?_; intro gb39 hg w26 hbox hb; have BK39 := Qa (hbox); have GW39 := Gs (w := w) hg (Bb1 HB.out GE38.out); have GE39 := GW39; replace HB := Sb (Bb1 HB.out GE38.out) hb; have NB38_39 := Nl hg BK38; have NB39_38 := Ng hg BK38; replace BK38 := Kb BK38 hb; clear hb hbox hg; have hnb27 := NB39_38.out; have hnc27 := NB38_39.out; obtain ⟨q28_0, q28_1, q28_2, q28_3, q28_4, u28_0, u28_1, u28_2, u28_3, u28_4⟩ := Cf5 BK39))
              generalize hW_ : (((((w26.setCell ⟨gb39, 0, none⟩ (.int .i64 ((rd_T52 l0_2 x4_1).f0))).setCell ⟨gb39, 1, none⟩ (.int .i64 ((rd_T52 l0_2 x4_1).f1))).setCell ⟨gb39, 2, none⟩ (.int .i64 ((rd_T52 l0_2 x4_1).f2.f0))).setCell ⟨gb39, 3, none⟩ (.string ((rd_T52 l0_2 x4_1).f2.f1))).setCell ⟨gb39, 4, none⟩ (.string ((rd_T52 l0_2 x4_1).f2.f2))) = w29; have n0_ : Aside0 (w29.heap[gb38]? = some (.cells #[.slice A0_0 l0_0.length c0_0, .int .i64 a0_1, .slice (some ad40) l0_2.length c0_2] 30 (0, 0))) := ⟨by rw [← hW_]; exact Bf BK38.out NB38_39.out⟩; have n1_ : Aside0 (w29.heap[gb39]? = some (.cells #[.int .i64 ((rd_T52 l0_2 x4_1).f0), .int .i64 ((rd_T52 l0_2 x4_1).f1), .int .i64 ((rd_T52 l0_2 x4_1).f2.f0), .string ((rd_T52 l0_2 x4_1).f2.f1), .string ((rd_T52 l0_2 x4_1).f2.f2)] 52 (0, 0))) := ⟨by rw [← hW_]; exact Bq BK39.out⟩; have n2_ : Aside0 (Qv w.heap.size w w29) := ⟨by rw [← hW_]; exact Bb2 HB.out GE38.out GE39.out⟩; (try clear BK38)
              (try clear BK39)
              (try clear HB)
              clear hW_; have BK38 := n0_; have BK39 := n1_; have HB := n2_; clear n0_ n1_ n2_; replace BK38 := Db BK38; replace BK39 := Db BK39; replace HB := Qa (below_drew1 HB.out); refine start_ (n := 17) (S := fun w' => w'.cell? ⟨gb39, 0, none⟩ = some (.int .i64 ((rd_T52 l0_2 x4_1).f0)) ∧ w'.cell? ⟨gb39, 1, none⟩ = some (.int .i64 ((rd_T52 l0_2 x4_1).f1)) ∧ w'.cell? ⟨gb39, 2, none⟩ = some (.int .i64 ((rd_T52 l0_2 x4_1).f2.f0)) ∧ w'.cell? ⟨gb39, 3, none⟩ = some (.string ((rd_T52 l0_2 x4_1).f2.f1)) ∧ w'.cell? ⟨gb39, 4, none⟩ = some (.string ((rd_T52 l0_2 x4_1).f2.f2))) (ds := []) #[false, false, false, false, false, false, false, false, false, false, false, false, false, false, false, false, false] (by kernel_rfl) rfl rfl (Ce5 BK39) (fun hHeld => ?_); refine with_tabW spec_ProgramText.tab8 spec_ProgramText.bits8 (fun HT_ HW_ => ?_); generalize w29.drew = w30 at BK38 BK39 HB hHeld ⊢; refine Pt 0 29 HT_ ?_; refine Pt 1 30 HT_ ?_; refine Pt 2 31 HT_ ?_; refine Pt 7 36 HT_ ?_; refine Pt 12 41 HT_ ?_; refine Tu5 3 32 HT_ HW_ hHeld ?_; refine Tu5 8 37 HT_ HW_ hHeld ?_; refine Tu5 13 42 HT_ HW_ hHeld ?_; refine Ot 4 33 HT_ (fun K hK => ?_); refine goes_ Tryz.func30 (by kernel_rfl) rfl #[.int .i64 ((rd_T52 l0_2 x4_1).f0)] (by rfl) rfl rfl Zm ?_; with_reducible refine (spec_FormatInt.calls k1 ((rd_T52 l0_2 x4_1).f0) t41 _ A17.out).mono ?_
              rintro e w31 ⟨rfl, hb⟩; refine ⟨_, rfl, ?_⟩; replace BK38 := Kb BK38 hb; replace BK39 := Kb BK39 hb; replace HB := Sb (Bb2 HB.out GE38.out GE39.out) hb; clear hb; refine hK.out _ _ (Ce5 BK39) (fun hHeld => ?_); clear hK K; refine Nn 33 ?_; refine Pt 5 34 HT_ ?_; refine Pt 6 35 HT_ ?_; refine Ot 9 38 HT_ (fun K hK => ?_); refine goes_ Tryz.func30 (by kernel_rfl) rfl #[.int .i64 ((rd_T52 l0_2 x4_1).f1)] (by rfl) rfl rfl Zm ?_; with_reducible refine (spec_FormatInt.calls k1 ((rd_T52 l0_2 x4_1).f1) t42 _ A20.out).mono ?_
              rintro e w32 ⟨rfl, hb⟩; refine ⟨_, rfl, ?_⟩; replace BK38 := Kb BK38 hb; replace BK39 := Kb BK39 hb; replace HB := Sb (Bb2 HB.out GE38.out GE39.out) hb; clear hb; refine hK.out _ _ (Ce5 BK39) (fun hHeld => ?_); clear hK K; refine Nn 38 ?_; refine Pt 10 39 HT_ ?_; refine Pt 11 40 HT_ ?_; refine Ot 14 43 HT_ (fun K hK => ?_); refine goes_ Tryz.func31 (by kernel_rfl) rfl #[.agg #[.int .i64 ((rd_T52 l0_2 x4_1).f2.f0), .string ((rd_T52 l0_2 x4_1).f2.f1), .string ((rd_T52 l0_2 x4_1).f2.f2)]] (by rfl) rfl rfl Zm ?_; with_reducible refine (spec_StmtText.calls k1 ((rd_T52 l0_2 x4_1).f2.f0) ((rd_T52 l0_2 x4_1).f2.f1) ((rd_T52 l0_2 x4_1).f2.f2) t46 _ A23.out).mono ?_
              rintro e w33 ⟨rfl, hb⟩; refine ⟨_, rfl, ?_⟩; replace BK38 := Kb BK38 hb; replace BK39 := Kb BK39 hb; replace HB := Sb (Bb2 HB.out GE38.out GE39.out) hb; clear hb; refine hK.out _ _ (Ce5 BK39) (fun hHeld => ?_); clear hK K; refine Nn 43 ?_; refine Pt 15 44 HT_ ?_; refine Pt 16 3 HT_ ?_; refine done_ (done_of HT_.out (by kernel_rfl)) ?_; try go_wp2
              go_roundg k1
              case measure => have := HK1.out; omega
              case rel => exact ⟨((((((x3_1 ++ (⟨#[59]⟩ : ByteArray)) ++ t41) ++ (⟨#[32]⟩ : ByteArray)) ++ t42) ++ (⟨#[32]⟩ : ByteArray)) ++ t46), (Qb (x4_1 + 1)), Zf, Zf, H', ⟨by have := HK1.out; omega⟩, ⟨Ba BK38.out⟩, ⟨Bb2 HB.out GE38.out GE39.out⟩⟩
             ·rw [if_neg c24] at H; exact absurd H (by simp)
            ·rw [if_neg c22] at H; exact absurd H (by simp)
           ·rw [if_neg c21] at H; exact absurd H (by simp)
          ·rw [if_neg c19] at H; exact absurd H (by simp)
         ·rw [if_neg c18] at H; exact absurd H (by simp)
        ·rw [if_neg c16] at H; exact absurd H (by simp)
       ·rw [if_neg c15] at H; exact absurd H (by simp)
      ·rw [if_neg c14] at H; replace c14 := decide_eq_false c14; obtain rfl := Option.some.inj H; obtain ⟨q34_0, q34_1, q34_2, u34_0, u34_1, u34_2⟩ := Cf3 BK38; go_wp2; go_ret; exact ⟨Ze, Bb1 HB.out GE38.out⟩
   ·rw [if_neg c7] at H; exact absurd H (by simp)
  ·rw [if_neg c5] at H; exact absurd H (by simp)
 ·replace c3 := Bool.eq_false_iff.mpr c3
  subst c3; rw [if_neg (show ¬ (false = true) by decide)] at H; obtain rfl := Option.some.inj H; go_enter Tryz.func7, Tryz.ntmps7; go_wp2_with (first | ((with_reducible refine gate_dst (N := 1) rfl ?_); refine Bx (N := 1) (cs := #[.slice A0_0 l0_0.length c0_0, .int .i64 a0_1, .slice A0_2 l0_2.length c0_2]) (t := 30) ?_; intro gb38 hg w35 hbox hb; have BK38 := Qa (hbox); have GW38 := Gs (w := w) hg (Bb0 HB.out); have GE38 := GW38; replace HB := Sb (Bb0 HB.out) hb; clear hb hbox hg; obtain ⟨q36_0, q36_1, q36_2, u36_0, u36_1, u36_2⟩ := Cf3 BK38) | ((with_reducible refine gate_callee (f := 18) rfl ?_); refine Gl 7 Tryz.func18 #[.agg #[.slice A0_0 l0_0.length c0_0, .int .i64 a0_1, .slice A0_2 l0_2.length c0_2]] ?_; (with_reducible refine (spec_IsProgram.calls k _ _ l0_0 a0_1 _ _ l0_2 false _ ?side1 ?side2 ?side3 ?side4 A2.out).mono ?_); (case side1 => exact Bc (Kd.C_below HR0_0.out HB.out)); (case side2 => exact HC0_0.out); (case side3 => exact Bc (Kd.C_below HR0_2.out HB.out)); (case side4 => exact HC0_2.out); rintro e w37 ⟨rfl, hb⟩; refine ⟨_, rfl, ?_⟩; replace BK38 := Kb BK38 hb; replace HB := Sb (Bb1 HB.out GE38.out) hb; clear hb)); go_ret; exact ⟨Ze, Bb1 HB.out GE38.out⟩
def spec_SplitByte.l0 : Nat → ByteArray → Int → List ByteArray → Int → Int → Option (List ByteArray)
 | 0, _, _, _, _, _ => none
 | k + 1, x0, x1, x5, x6, x7 => if x7 ≤ (x0.size : Int) then (if x7 = (x0.size : Int) then (if 0 ≤ x6 then (if x6 ≤ x7 then (if x5.length < 8796093022208 then (spec_SplitByte.l0 k x0 x1 (x5 ++ [x0.extract (x6 : Int).toNat (x7 : Int).toNat]) (Qb (x7 + 1)) (Qb (x7 + 1))) else (none)) else (none)) else (none)) else (if 0 ≤ x7 then (if x7 < (x0.size : Int) then (if (bt x0 x7) = x1 then (if 0 ≤ x6 then (if x6 ≤ x7 then (if x5.length < 8796093022208 then (spec_SplitByte.l0 k x0 x1 (x5 ++ [x0.extract (x6 : Int).toNat (x7 : Int).toNat]) (Qb (x7 + 1)) (Qb (x7 + 1))) else (none)) else (none)) else (none)) else (spec_SplitByte.l0 k x0 x1 x5 x6 (Qb (x7 + 1)))) else (none)) else (none))) else (some x5)
def spec_SplitByte.f (k : Nat) (a0 : ByteArray) (a1 : Int) : Option (List ByteArray) := spec_SplitByte.l0 k a0 a1 (([] : List ByteArray)) 0 0
theorem spec_SplitByte.mono_l : ∀ k, (∀ y0 y1 y2 y3 y4, LeO (spec_SplitByte.l0 k y0 y1 y2 y3 y4) (spec_SplitByte.l0 (k + 1) y0 y1 y2 y3 y4))
 | 0 => fun _ _ _ _ _ r h => by simp [spec_SplitByte.l0] at h
 | k + 1 => by
  have ih0 := spec_SplitByte.mono_l k
  ·intro y0 y1 y2 y3 y4; unfold spec_SplitByte.l0; exact Lm1 ih0
theorem spec_SplitByte.mono : ∀ a0 a1 k, LeO (spec_SplitByte.f k a0 a1) (spec_SplitByte.f (k + 1) a0 a1) := by
 intro a0 a1 k
 have ih0 := spec_SplitByte.mono_l k
 unfold spec_SplitByte.f
 exact Lm1 ih0
theorem spec_SplitByte.calls (k : Nat) (a0 : ByteArray) (a1 : Int) (r : List ByteArray) (w : World) (h : spec_SplitByte.f k a0 a1 = some r) :
  Calls Tryz.prog 39 #[.string a0, .int .u8 a1] w fun e w' => ∃ v0_ : Value, e = .returned (v0_) ∧ Kd.R Kd.string 9 w' w.heap.size (fun _ => True) v0_ r ∧ Qv w.heap.size w w' := by
 have HB := Qa (Below.refl w.heap.size w)
 have H : (spec_SplitByte.l0 k a0 a1 (([] : List ByteArray)) 0 0) = some r := h
 clear h
 obtain ⟨y45, hy45⟩ : ∃ y_ : List ByteArray, y_ = (([] : List ByteArray)) := ⟨_, rfl⟩
 replace H : (spec_SplitByte.l0 k a0 a1 y45 0 0) = some r := Zh hy45 H
 have Ny45 := Qa hy45
 clear hy45
 have H' := Qa H
 clear H
 go_enter Tryz.func39, Tryz.ntmps39
 go_wp2_with (first | ((with_reducible refine gate_dst (N := 8) rfl ?_); refine Kd.R_lit Kd.string _ 9 ?hg (N := 8) ?hd (xs := ([] : List ByteArray)) (inner := []) (ok := fun _ => True) (okp := fun _ => True) ?hr ?hp (fun _ hk => hk) trivial (Below.refl _ _) (Nat.le_refl _) (by simp) ?_; (case hd => rfl); (case hg => rfl); (case hr => first | (go_simp; done) | (go_simp; rfl)); (case hp => exact (Reps.none _ _)); intro v58 w3 ho4 hb hg_ hnew_; clear hg_ hnew_; (first | rw [← Ny45.out] at ho4 | (simp only [Int.reduceToNat] at ho4; rw [← Ny45.out] at ho4)); have HO55 := Lw ho4 (Bb0 HB.out); replace HB := Sb (Bb0 HB.out) hb; clear hb ho4))
 go_loopg [5, 6, 7] k (fun kq v5 v6 v7 w' => ∃ (x5_1 : List ByteArray) (x6_1 : Int) (x7_1 : Int), v6 = .int .i64 x6_1 ∧ v7 = .int .i64 x7_1 ∧ Aside0 (spec_SplitByte.l0 kq a0 a1 x5_1 x6_1 x7_1 = some r) ∧ Aside0 (kq ≤ k) ∧ Aside0 (Kd.R Kd.string 9 w' w.heap.size (fun _ => True) v5 x5_1) ∧ Aside0 (Qv w.heap.size w w'))
 case atStart => exact ⟨(y45), (0), (0), Zf, Zf, H', ⟨Nat.le_refl _⟩, ⟨Br HO55.out⟩, ⟨Bb0 HB.out⟩⟩
 case round =>
  clear H'; (try clear p2)
  (try clear c3)
  obtain ⟨x5_1, x6_1, x7_1, rfl, rfl, HA, HK1, HO_5, HB⟩ := hrel; cases gk with
  | zero => exact absurd HA.out (by simp [spec_SplitByte.l0])
  | succ k1 =>
   have H := HA.out; clear HA; simp only [spec_SplitByte.l0] at H; by_cases c5 : x7_1 ≤ (a0.size : Int)
   ·rw [if_pos c5] at H; replace c5 := decide_eq_true c5; by_cases c6 : x7_1 = (a0.size : Int)
    ·rw [if_pos c6] at H; have c6b0 := beq_iff_eq.mpr c6; have c6b1 := bne_eq_false_iff_eq.mpr c6; clear c6; by_cases c7 : 0 ≤ x6_1
     ·rw [if_pos c7] at H; have c7b0 := eq_true c7; have c7b1 := decide_eq_true c7; clear c7; by_cases c8 : x6_1 ≤ x7_1
      ·rw [if_pos c8] at H; have c8b0 := eq_true c8; have c8b1 := decide_eq_true c8; clear c8; have c9b0 := eq_true (Da : x7_1 ≤ (a0.size : Int)); by_cases c10 : x5_1.length < 8796093022208
       ·rw [if_pos c10] at H; have LMc10 := Qa c10; clear c10; obtain ⟨y47, hy47⟩ : ∃ y_ : List ByteArray, y_ = (x5_1 ++ [a0.extract (x6_1 : Int).toNat (x7_1 : Int).toNat]) := ⟨_, rfl⟩; replace H : (spec_SplitByte.l0 k1 a0 a1 y47 (Qb (x7_1 + 1)) (Qb (x7_1 + 1))) = some r := Zh hy47 H; have Ny47 := Qa hy47; clear hy47; have H' := Qa H; clear H; go_wp2_with (first | ((with_reducible refine gate_builtin (b := .append) (xs := #[.tmp 26, .tmp 31]) rfl ?_); at_builtin; refine Kd.R_append Kd.string (w0 := w) w.heap.size rfl (.tmp 26) (.tmp 31) 22 9 (.string ⟨#[]⟩) 16 rfl Tryz.underlying22 info9 rfl (by decide) (by omega) u5 x5_1 (a0.extract (x6_1 : Int).toNat (x7_1 : Int).toNat) [.string (a0.extract (x6_1 : Int).toNat (x7_1 : Int).toNat)] (fun _ => True) (fun _ => False) rfl rfl ?aP (fun _ hk => hk.elim) ?aF ?aO ?aB ?aS ?aL ?_; (case aP => exact rfl); (case aB => exact (Bb0 HB.out)); (case aF => exact (fun _ _ => trivial)); (case aO => exact (Br HO_5.out)); (case aS => exact (below_size (Bb0 HB.out))); (case aL => have := LMc10.out; omega); intro v59 w11 ho hb hg hat; rw [← Ny47.out] at ho; replace HB := Qa (hb); have HO56 := Qa (ho); clear HO_5; clear ho hb hg hat)); go_roundg k1
        case measure => have := HK1.out; omega
        case rel => exact ⟨(y47), (Qb (x7_1 + 1)), (Qb (x7_1 + 1)), Zf, Zf, H', ⟨by have := HK1.out; omega⟩, ⟨Br HO56.out⟩, ⟨Bb0 HB.out⟩⟩
       ·rw [if_neg c10] at H; exact absurd H (by simp)
      ·rw [if_neg c8] at H; exact absurd H (by simp)
     ·rw [if_neg c7] at H; exact absurd H (by simp)
    ·rw [if_neg c6] at H; have c6b0 := beq_eq_false_iff_ne.mpr c6; have c6b1 := bne_iff_ne.mpr c6; by_cases c12 : 0 ≤ x7_1
     ·rw [if_pos c12] at H; replace c12 := decide_eq_true c12; by_cases c13 : x7_1 < (a0.size : Int)
      ·rw [if_pos c13] at H; replace c13 := decide_eq_true c13; by_cases c15 : (bt a0 x7_1) = a1
       ·rw [if_pos c15] at H; have c15b0 := beq_iff_eq.mpr c15; have c15b1 := bne_eq_false_iff_eq.mpr c15; clear c15; by_cases c16 : 0 ≤ x6_1
        ·rw [if_pos c16] at H; have c16b0 := eq_true c16; have c16b1 := decide_eq_true c16; clear c16; by_cases c17 : x6_1 ≤ x7_1
         ·rw [if_pos c17] at H; have c17b0 := eq_true c17; have c17b1 := decide_eq_true c17; clear c17; have c18b0 := eq_true (Da : x7_1 ≤ (a0.size : Int)); by_cases c19 : x5_1.length < 8796093022208
          ·rw [if_pos c19] at H; have LMc19 := Qa c19; clear c19; obtain ⟨y48, hy48⟩ : ∃ y_ : List ByteArray, y_ = (x5_1 ++ [a0.extract (x6_1 : Int).toNat (x7_1 : Int).toNat]) := ⟨_, rfl⟩; replace H : (spec_SplitByte.l0 k1 a0 a1 y48 (Qb (x7_1 + 1)) (Qb (x7_1 + 1))) = some r := Zh hy48 H; have Ny48 := Qa hy48; clear hy48; have H' := Qa H; clear H; have p14 : 0 ≤ (x7_1 : Int) := Da; have q14 : x7_1 < (a0.size : Int) := Da; have hx14 := bt_at a0 x7_1; replace p14 := eq_true p14; replace q14 := eq_true q14; go_wp2_with (first | ((with_reducible refine gate_builtin (b := .append) (xs := #[.tmp 26, .tmp 31]) rfl ?_); at_builtin; refine Kd.R_append Kd.string (w0 := w) w.heap.size rfl (.tmp 26) (.tmp 31) 22 9 (.string ⟨#[]⟩) 16 rfl Tryz.underlying22 info9 rfl (by decide) (by omega) u5 x5_1 (a0.extract (x6_1 : Int).toNat (x7_1 : Int).toNat) [.string (a0.extract (x6_1 : Int).toNat (x7_1 : Int).toNat)] (fun _ => True) (fun _ => False) rfl rfl ?aP (fun _ hk => hk.elim) ?aF ?aO ?aB ?aS ?aL ?_; (case aP => exact rfl); (case aB => exact (Bb0 HB.out)); (case aF => exact (fun _ _ => trivial)); (case aO => exact (Br HO_5.out)); (case aS => exact (below_size (Bb0 HB.out))); (case aL => have := LMc19.out; omega); intro v60 w20 ho hb hg hat; rw [← Ny48.out] at ho; replace HB := Qa (hb); have HO57 := Qa (ho); clear HO_5; clear ho hb hg hat)); go_roundg k1
           case measure => have := HK1.out; omega
           case rel => exact ⟨(y48), (Qb (x7_1 + 1)), (Qb (x7_1 + 1)), Zf, Zf, H', ⟨by have := HK1.out; omega⟩, ⟨Br HO57.out⟩, ⟨Bb0 HB.out⟩⟩
          ·rw [if_neg c19] at H; exact absurd H (by simp)
         ·rw [if_neg c17] at H; exact absurd H (by simp)
        ·rw [if_neg c16] at H; exact absurd H (by simp)
       ·rw [if_neg c15] at H; have c15b0 := beq_eq_false_iff_ne.mpr c15; have c15b1 := bne_iff_ne.mpr c15; have H' := Qa H; clear H; have p14 : 0 ≤ (x7_1 : Int) := Da; have q14 : x7_1 < (a0.size : Int) := Da; have hx14 := bt_at a0 x7_1; replace p14 := eq_true p14; replace q14 := eq_true q14; go_wp2; go_roundg k1
        case measure => have := HK1.out; omega
        case rel => exact ⟨(x5_1), (x6_1), (Qb (x7_1 + 1)), Zf, Zf, H', ⟨by have := HK1.out; omega⟩, ⟨Br HO_5.out⟩, ⟨Bb0 HB.out⟩⟩
      ·rw [if_neg c13] at H; exact absurd H (by simp)
     ·rw [if_neg c12] at H; exact absurd H (by simp)
   ·rw [if_neg c5] at H; replace c5 := decide_eq_false c5; obtain rfl := Option.some.inj H; go_wp2; go_ret; exact ⟨_, Ze, Br HO_5.out, Bb0 HB.out⟩
end Go.Proofs.YtndkkpjofddfjaaGreatDoor.PFnExactParseProgram
