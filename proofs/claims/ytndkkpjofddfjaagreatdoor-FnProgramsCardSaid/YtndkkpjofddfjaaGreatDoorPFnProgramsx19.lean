/- A part of the walk through the printed functions; no condition. -/
import Derived.Test.YtndkkpjofddfjaaGreatDoorXAuto
import Derived.Test.YtndkkpjofddfjaaGreatDoorPFnProgramsx0
import Derived.Test.YtndkkpjofddfjaaGreatDoorPFnProgramsx1
namespace Go.Proofs.YtndkkpjofddfjaaGreatDoor.PFnPrograms
open Go.RowKit Go.Proofs.YtndkkpjofddfjaaGreatDoorW.PrintWords Go.Proofs.YtndkkpjofddfjaaGreatDoorW.PrintLast Go.Proofs.YtndkkpjofddfjaaGreatDoorW.PrintMore
attribute [local go_sem] max2_int min2_int max_two min_two max_three min_three max_four min_four
set_option maxHeartbeats 32000000
set_option maxRecDepth 100000
attribute [local irreducible] Go.World.setCell
set_option linter.unusedVariables false
set_option linter.unusedSimpArgs false
attribute [local go_sem high] eqA52
open Go.Proofs.YtndkkpjofddfjaaGreatDoorW.PrintWords.Aside0 renaming mk → Qa
mutual
def spec_EqualProgram.j0 : Nat → Bool → List ByteArray → Int → List (S52) → List ByteArray → Int → List (S52) → Option (Bool)
 | 0, _, _, _, _, _, _, _ => none
 | k + 1, x29, x50, x53, x48, x51, x54, x49 => if x29 = true then (some false) else (spec_EqualProgram.l0 k 0 x50 x53 x48 x51 x54 x49)
def spec_EqualProgram.l0 : Nat → Int → List ByteArray → Int → List (S52) → List ByteArray → Int → List (S52) → Option (Bool)
 | 0, _, _, _, _, _, _, _ => none
 | k + 1, x5, x50, x53, x48, x51, x54, x49 => if x5 < (x50.length : Int) then (if 0 ≤ x5 then (if x5 < (x51.length : Int) then (if (rdOf ByteArray.empty x50 x5).toList = (rdOf ByteArray.empty x51 x5).toList then (spec_EqualProgram.l0 k (wrap64 (x5 + 1)) x50 x53 x48 x51 x54 x49) else (some false)) else (none)) else (none)) else (spec_EqualProgram.l1 k 0 x50 x53 x48 x51 x54 x49)
def spec_EqualProgram.l1 : Nat → Int → List ByteArray → Int → List (S52) → List ByteArray → Int → List (S52) → Option (Bool)
 | 0, _, _, _, _, _, _, _ => none
 | k + 1, x6, x50, x53, x48, x51, x54, x49 => if x6 < (x48.length : Int) then (if 0 ≤ x6 then (if x6 < (x49.length : Int) then (if (!(((rd_T52 x48 x6).f0) == ((rd_T52 x49 x6).f0)) || (!(((rd_T52 x48 x6).f1) == ((rd_T52 x49 x6).f1)) || ((!(((rd_T52 x48 x6).f2.f0) == ((rd_T52 x49 x6).f2.f0)) || (!((((rd_T52 x48 x6).f2.f1).toList) == (((rd_T52 x49 x6).f2.f1).toList)) || (!((((rd_T52 x48 x6).f2.f2).toList) == (((rd_T52 x49 x6).f2.f2).toList)))))))) = true then (some false) else (spec_EqualProgram.l1 k (wrap64 (x6 + 1)) x50 x53 x48 x51 x54 x49)) else (none)) else (none)) else (some true)
end
def spec_EqualProgram.f (k : Nat) (l0_0 : List ByteArray) (a0_1 : Int) (l0_2 : List (S52)) (l1_0 : List ByteArray) (a1_1 : Int) (l1_2 : List (S52)) : Option (Bool) := if a0_1 = a1_1 then (if (l0_0.length : Int) = (l1_0.length : Int) then (spec_EqualProgram.j0 k ((l0_2.length : Int) != (l1_2.length : Int)) l0_0 a0_1 l0_2 l1_0 a1_1 l1_2) else (spec_EqualProgram.j0 k true l0_0 a0_1 l0_2 l1_0 a1_1 l1_2)) else (spec_EqualProgram.j0 k true l0_0 a0_1 l0_2 l1_0 a1_1 l1_2)
theorem spec_EqualProgram.mono_l : ∀ k, (∀ y0 y1 y2 y3 y4 y5 y6, LeO (spec_EqualProgram.j0 k y0 y1 y2 y3 y4 y5 y6) (spec_EqualProgram.j0 (k + 1) y0 y1 y2 y3 y4 y5 y6)) ∧ (∀ y0 y1 y2 y3 y4 y5 y6, LeO (spec_EqualProgram.l0 k y0 y1 y2 y3 y4 y5 y6) (spec_EqualProgram.l0 (k + 1) y0 y1 y2 y3 y4 y5 y6)) ∧ (∀ y0 y1 y2 y3 y4 y5 y6, LeO (spec_EqualProgram.l1 k y0 y1 y2 y3 y4 y5 y6) (spec_EqualProgram.l1 (k + 1) y0 y1 y2 y3 y4 y5 y6))
 | 0 => ⟨fun _ _ _ _ _ _ _ r h => by simp [spec_EqualProgram.j0] at h, fun _ _ _ _ _ _ _ r h => by simp [spec_EqualProgram.l0] at h, fun _ _ _ _ _ _ _ r h => by simp [spec_EqualProgram.l1] at h⟩
 | k + 1 => by
  obtain ⟨ih0, ih1, ih2⟩ := spec_EqualProgram.mono_l k; refine ⟨?_, ?_, ?_⟩
  ·intro y0 y1 y2 y3 y4 y5 y6; unfold spec_EqualProgram.j0; exact Lm3 ih0 ih1 ih2
  ·intro y0 y1 y2 y3 y4 y5 y6; unfold spec_EqualProgram.l0; exact Lm3 ih0 ih1 ih2
  ·intro y0 y1 y2 y3 y4 y5 y6; unfold spec_EqualProgram.l1; exact Lm3 ih0 ih1 ih2
theorem spec_EqualProgram.mono : ∀ a0 a1 a2 a3 a4 a5 k, LeO (spec_EqualProgram.f k a0 a1 a2 a3 a4 a5) (spec_EqualProgram.f (k + 1) a0 a1 a2 a3 a4 a5) := by
 intro a0 a1 a2 a3 a4 a5 k
 obtain ⟨ih0, ih1, ih2⟩ := spec_EqualProgram.mono_l k
 unfold spec_EqualProgram.f
 exact Lm3 ih0 ih1 ih2
theorem spec_EqualProgram.calls (k : Nat) (A0_0 : Option Addr) (c0_0 : Nat) (l0_0 : List ByteArray) (a0_1 : Int) (A0_2 : Option Addr) (c0_2 : Nat) (l0_2 : List (S52)) (A1_0 : Option Addr) (c1_0 : Nat) (l1_0 : List ByteArray) (a1_1 : Int) (A1_2 : Option Addr) (c1_2 : Nat) (l1_2 : List (S52)) (r : Bool) (w : World) (hr0_0 : Kd.C Kd.string w A0_0 l0_0.length l0_0) (hc0_0 : l0_0.length ≤ c0_0) (hr0_2 : Kd.C k52 w A0_2 l0_2.length l0_2) (hc0_2 : l0_2.length ≤ c0_2) (hr1_0 : Kd.C Kd.string w A1_0 l1_0.length l1_0) (hc1_0 : l1_0.length ≤ c1_0) (hr1_2 : Kd.C k52 w A1_2 l1_2.length l1_2) (hc1_2 : l1_2.length ≤ c1_2) (h : spec_EqualProgram.f k l0_0 a0_1 l0_2 l1_0 a1_1 l1_2 = some r) :
  Calls Tryz.prog 26 #[.agg #[.slice A0_0 l0_0.length c0_0, .int .i64 a0_1, .slice A0_2 l0_2.length c0_2], .agg #[.slice A1_0 l1_0.length c1_0, .int .i64 a1_1, .slice A1_2 l1_2.length c1_2]] w fun e w' => e = .returned (.bool r) ∧ Below w.heap.size w w' := by
 have hu30 := Tryz.underlying30
 have hu52 := Tryz.underlying52
 have HR0_0 := Qa hr0_0
 have HC0_0 := Qa hc0_0
 clear hr0_0 hc0_0
 have HR0_2 := Qa hr0_2
 have HC0_2 := Qa hc0_2
 clear hr0_2 hc0_2
 have HR1_0 := Qa hr1_0
 have HC1_0 := Qa hc1_0
 clear hr1_0 hc1_0
 have HR1_2 := Qa hr1_2
 have HC1_2 := Qa hc1_2
 clear hr1_2 hc1_2
 have HB := Qa (Below.refl w.heap.size w)
 have H : (if a0_1 = a1_1 then (if (l0_0.length : Int) = (l1_0.length : Int) then (spec_EqualProgram.j0 k ((l0_2.length : Int) != (l1_2.length : Int)) l0_0 a0_1 l0_2 l1_0 a1_1 l1_2) else (spec_EqualProgram.j0 k true l0_0 a0_1 l0_2 l1_0 a1_1 l1_2)) else (spec_EqualProgram.j0 k true l0_0 a0_1 l0_2 l1_0 a1_1 l1_2)) = some r := h
 clear h
 have HC3 := Qa H
 clear H
 go_enter Tryz.func26, Tryz.ntmps26
 go_upto_region 1 with (first | ((with_reducible refine gate_dst (N := 2) rfl ?_); (try (refine gate_guard (by rfl) ?_; dsimp only)); refine Bx (N := 2) (cs := #[.slice A0_0 l0_0.length c0_0, .int .i64 a0_1, .slice A0_2 l0_2.length c0_2]) (t := 30) ?_; intro gb42 hg w4 hbox hb; have BK42 := Qa (hbox); have GW42 := Gs (w := w) hg (Bb0 HB.out); have GE42 := GW42; replace HB := Sb (Bb0 HB.out) hb; clear hb hbox hg) | ((with_reducible refine gate_dst (N := 3) rfl ?_); (try (refine gate_guard (by rfl) ?_; dsimp only)); refine Bx (N := 3) (cs := #[.slice A1_0 l1_0.length c1_0, .int .i64 a1_1, .slice A1_2 l1_2.length c1_2]) (t := 30) ?_; intro gb43 hg w5 hbox hb; have BK43 := Qa (hbox); have GW43 := Gs (w := w) hg (Bb1 HB.out GE42.out); have GE43 := GW43; replace HB := Sb (Bb1 HB.out GE42.out) hb; have NB42_43 := Nl hg BK42; have NB43_42 := Ng hg BK42; replace BK42 := Kb BK42 hb; clear hb hbox hg))
 repeat (go_quiet (first | ((with_reducible refine gate_dst (N := 2) rfl ?_); (try (refine gate_guard (by rfl) ?_; dsimp only)); refine Bx (N := 2) (cs := #[.slice A0_0 l0_0.length c0_0, .int .i64 a0_1, .slice A0_2 l0_2.length c0_2]) (t := 30) ?_; intro gb42 hg w4 hbox hb; have BK42 := Qa (hbox); have GW42 := Gs (w := w) hg (Bb0 HB.out); have GE42 := GW42; replace HB := Sb (Bb0 HB.out) hb; clear hb hbox hg) | ((with_reducible refine gate_dst (N := 3) rfl ?_); (try (refine gate_guard (by rfl) ?_; dsimp only)); refine Bx (N := 3) (cs := #[.slice A1_0 l1_0.length c1_0, .int .i64 a1_1, .slice A1_2 l1_2.length c1_2]) (t := 30) ?_; intro gb43 hg w5 hbox hb; have BK43 := Qa (hbox); have GW43 := Gs (w := w) hg (Bb1 HB.out GE42.out); have GE43 := GW43; replace HB := Sb (Bb1 HB.out GE42.out) hb; have NB42_43 := Nl hg BK42; have NB43_42 := Ng hg BK42; replace BK42 := Kb BK42 hb; clear hb hbox hg)); go_upto_region 1 with (first | ((with_reducible refine gate_dst (N := 2) rfl ?_); (try (refine gate_guard (by rfl) ?_; dsimp only)); refine Bx (N := 2) (cs := #[.slice A0_0 l0_0.length c0_0, .int .i64 a0_1, .slice A0_2 l0_2.length c0_2]) (t := 30) ?_; intro gb42 hg w4 hbox hb; have BK42 := Qa (hbox); have GW42 := Gs (w := w) hg (Bb0 HB.out); have GE42 := GW42; replace HB := Sb (Bb0 HB.out) hb; clear hb hbox hg) | ((with_reducible refine gate_dst (N := 3) rfl ?_); (try (refine gate_guard (by rfl) ?_; dsimp only)); refine Bx (N := 3) (cs := #[.slice A1_0 l1_0.length c1_0, .int .i64 a1_1, .slice A1_2 l1_2.length c1_2]) (t := 30) ?_; intro gb43 hg w5 hbox hb; have BK43 := Qa (hbox); have GW43 := Gs (w := w) hg (Bb1 HB.out GE42.out); have GE43 := GW43; replace HB := Sb (Bb1 HB.out GE42.out) hb; have NB42_43 := Nl hg BK42; have NB43_42 := Ng hg BK42; replace BK42 := Kb BK42 hb; clear hb hbox hg)))
 (try simp only [Act.put, List.setIfInBounds_toArray, List.set_cons_zero, List.set_cons_succ])
 go_cut [29] (fun v29 wc => ∃ (kq : Nat) (x29_2 : Bool), v29 = .bool x29_2 ∧ Aside0 (spec_EqualProgram.j0 kq x29_2 l0_0 a0_1 l0_2 l1_0 a1_1 l1_2 = some r) ∧ Aside0 (kq ≤ k) ∧ Aside0 (wc.heap[gb42]? = some (.cells #[(.slice A0_0 l0_0.length c0_0), .int .i64 a0_1, (.slice A0_2 l0_2.length c0_2)] 30 (0, 0))) ∧ Aside0 (wc.heap[gb43]? = some (.cells #[(.slice A1_0 l1_0.length c1_0), .int .i64 a1_1, (.slice A1_2 l1_2.length c1_2)] 30 (0, 0))) ∧ Aside0 (Below w.heap.size w wc))
 case first =>
  have H := HC3.out; clear HC3; by_cases c6 : a0_1 = a1_1
  ·rw [if_pos c6] at H; have c6b0 := beq_iff_eq.mpr c6; have c6b1 := bne_eq_false_iff_eq.mpr c6; clear c6; (first | rw [c6b0] | (simp only [i64_w, i32_w]; rw [c6b0]) | skip)
   by_cases c7 : (l0_0.length : Int) = (l1_0.length : Int)
   ·rw [if_pos c7] at H; have c7b0 := beq_iff_eq.mpr c7; have c7b1 := bne_eq_false_iff_eq.mpr c7; have c7b2 : (l0_0.length == l1_0.length) = true := by first | simpa using c7 | (simp at c7 ⊢; omega)
    clear c7; have H' := Qa H; clear H; have hnb8 := NB42_43.out; have hnc8 := NB43_42.out; obtain ⟨q9_0, q9_1, q9_2, u9_0, u9_1, u9_2⟩ := Cf3 BK42; obtain ⟨q10_0, q10_1, q10_2, u10_0, u10_1, u10_2⟩ := Cf3 BK43; go_wp2; repeat (go_quiet (fail); try go_wp2)
    go_meet
    case rel => exact ⟨_, (((l0_2.length : Int) != (l1_2.length : Int))), Zf, H', ⟨by first | omega | exact Nat.le_refl _⟩, ⟨Ba BK42.out⟩, ⟨Ba BK43.out⟩, ⟨Bb2 HB.out GE42.out GE43.out⟩⟩
   ·rw [if_neg c7] at H; have c7b0 := beq_eq_false_iff_ne.mpr c7; have c7b1 := bne_iff_ne.mpr c7; have c7b2 : (l0_0.length == l1_0.length) = false := by first | simpa using c7 | (simp at c7 ⊢; omega)
    have H' := Qa H; clear H; have hnb11 := NB42_43.out; have hnc11 := NB43_42.out; obtain ⟨q12_0, q12_1, q12_2, u12_0, u12_1, u12_2⟩ := Cf3 BK42; obtain ⟨q13_0, q13_1, q13_2, u13_0, u13_1, u13_2⟩ := Cf3 BK43; go_wp2; repeat (go_quiet (fail); try go_wp2)
    go_meet
    case rel => exact ⟨_, (true), Zf, H', ⟨by first | omega | exact Nat.le_refl _⟩, ⟨Ba BK42.out⟩, ⟨Ba BK43.out⟩, ⟨Bb2 HB.out GE42.out GE43.out⟩⟩
  ·rw [if_neg c6] at H; have c6b0 := beq_eq_false_iff_ne.mpr c6; have c6b1 := bne_iff_ne.mpr c6; (first | rw [c6b0] | (simp only [i64_w, i32_w]; rw [c6b0]) | skip)
   have H' := Qa H; clear H; have hnb14 := NB42_43.out; have hnc14 := NB43_42.out; obtain ⟨q15_0, q15_1, q15_2, u15_0, u15_1, u15_2⟩ := Cf3 BK42; obtain ⟨q16_0, q16_1, q16_2, u16_0, u16_1, u16_2⟩ := Cf3 BK43; go_wp2; repeat (go_quiet (fail); try go_wp2)
   go_meet
   case rel => exact ⟨_, (true), Zf, H', ⟨by first | omega | exact Nat.le_refl _⟩, ⟨Ba BK42.out⟩, ⟨Ba BK43.out⟩, ⟨Bb2 HB.out GE42.out GE43.out⟩⟩
 case rest =>
  clear HC3; (try clear c1)
  (try clear c2)
  (try clear p2)
  (try clear c6)
  (try clear c6b0)
  (try clear c6b1)
  (try clear c7)
  (try clear c7b0)
  (try clear c7b1)
  (try clear c7b2)
  (try clear c8)
  (try clear c11)
  (try clear c14)
  (try clear q10_0)
  (try clear q10_1)
  (try clear q10_2)
  (try clear q12_0)
  (try clear q12_1)
  (try clear q12_2)
  (try clear q13_0)
  (try clear q13_1)
  (try clear q13_2)
  (try clear q15_0)
  (try clear q15_1)
  (try clear q15_2)
  (try clear q16_0)
  (try clear q16_1)
  (try clear q16_2)
  (try clear q9_0)
  (try clear q9_1)
  (try clear q9_2)
  (try clear u10_0)
  (try clear u10_1)
  (try clear u10_2)
  (try clear u12_0)
  (try clear u12_1)
  (try clear u12_2)
  (try clear u13_0)
  (try clear u13_1)
  (try clear u13_2)
  (try clear u15_0)
  (try clear u15_1)
  (try clear u15_2)
  (try clear u16_0)
  (try clear u16_1)
  (try clear u16_2)
  (try clear u9_0)
  (try clear u9_1)
  (try clear u9_2)
  obtain ⟨kq, x29_2, rfl, HA, HJ2, BK42, BK43, HB⟩ := hcut; cases kq with
  | zero => exact absurd HA.out (by simp [spec_EqualProgram.j0])
  | succ kj2 =>
   have H := HA.out; clear HA; simp only [spec_EqualProgram.j0] at H; by_cases c17 : x29_2 = true
   ·subst c17; rw [if_pos rfl] at H; obtain rfl := Option.some.inj H; go_wp2; repeat (go_quiet (fail); try go_wp2)
    go_ret; exact ⟨Ze, Bb2 HB.out GE42.out GE43.out⟩
   ·replace c17 := Bool.eq_false_iff.mpr c17; subst c17; rw [if_neg (show ¬ (false = true) by decide)] at H; have H' := Qa H; clear H; go_wp2; repeat (go_quiet (fail); try go_wp2)
    go_loopg [5] kj2 (fun kq v5 w' => ∃ (x5_2 : Int), v5 = .int .i64 x5_2 ∧ Aside0 (spec_EqualProgram.l0 kq x5_2 l0_0 a0_1 l0_2 l1_0 a1_1 l1_2 = some r) ∧ Aside0 (kq ≤ kj2) ∧ Aside0 (w'.heap[gb42]? = some (.cells #[(.slice A0_0 l0_0.length c0_0), .int .i64 a0_1, (.slice A0_2 l0_2.length c0_2)] 30 (0, 0))) ∧ Aside0 (w'.heap[gb43]? = some (.cells #[(.slice A1_0 l1_0.length c1_0), .int .i64 a1_1, (.slice A1_2 l1_2.length c1_2)] 30 (0, 0))) ∧ Aside0 (Below w.heap.size w w'))
    case atStart => exact ⟨(0), Zf, H', ⟨Nat.le_refl _⟩, ⟨Ba BK42.out⟩, ⟨Ba BK43.out⟩, ⟨Bb2 HB.out GE42.out GE43.out⟩⟩
    case round =>
     clear H'; (try clear c1)
     (try clear c2)
     (try clear p2)
     (try clear c6)
     (try clear c6b0)
     (try clear c6b1)
     (try clear c7)
     (try clear c7b0)
     (try clear c7b1)
     (try clear c7b2)
     (try clear c8)
     (try clear c11)
     (try clear c14)
     (try clear c17)
     (try clear q10_0)
     (try clear q10_1)
     (try clear q10_2)
     (try clear q12_0)
     (try clear q12_1)
     (try clear q12_2)
     (try clear q13_0)
     (try clear q13_1)
     (try clear q13_2)
     (try clear q15_0)
     (try clear q15_1)
     (try clear q15_2)
     (try clear q16_0)
     (try clear q16_1)
     (try clear q16_2)
     (try clear q9_0)
     (try clear q9_1)
     (try clear q9_2)
     (try clear u10_0)
     (try clear u10_1)
     (try clear u10_2)
     (try clear u12_0)
     (try clear u12_1)
     (try clear u12_2)
     (try clear u13_0)
     (try clear u13_1)
     (try clear u13_2)
     (try clear u15_0)
     (try clear u15_1)
     (try clear u15_2)
     (try clear u16_0)
     (try clear u16_1)
     (try clear u16_2)
     (try clear u9_0)
     (try clear u9_1)
     (try clear u9_2)
     (try clear p2)
     obtain ⟨x5_2, rfl, HA, HK2, BK42, BK43, HB⟩ := hrel; cases gk with
     | zero => exact absurd HA.out (by simp [spec_EqualProgram.l0])
     | succ k2 =>
      have H := HA.out; clear HA; simp only [spec_EqualProgram.l0] at H; by_cases c18 : x5_2 < (l0_0.length : Int)
      ·rw [if_pos c18] at H; replace c18 := decide_eq_true c18; by_cases c19 : 0 ≤ x5_2
       ·rw [if_pos c19] at H; replace c19 := decide_eq_true c19; by_cases c20 : x5_2 < (l1_0.length : Int)
        ·rw [if_pos c20] at H; replace c20 := decide_eq_true c20; by_cases c21 : (rdOf ByteArray.empty l0_0 x5_2).toList = (rdOf ByteArray.empty l1_0 x5_2).toList
         ·rw [if_pos c21] at H; have c21b0 := beq_iff_eq.mpr c21; have c21b1 := bne_eq_false_iff_eq.mpr c21; clear c21; have H' := Qa H; clear H; have hnb22 := NB42_43.out; have hnc22 := NB43_42.out; obtain ⟨q23_0, q23_1, q23_2, u23_0, u23_1, u23_2⟩ := Cf3 BK42; have p46 : 0 ≤ (x5_2 : Int) := Da; have q46 : x5_2 < (l0_0.length : Int) := Da; obtain ⟨ad46, e46, hx46_0⟩ := Kd.at_string HR0_0.out x5_2 p46 q46; cases e46
          replace hx46_0 := Cx HB hx46_0; replace p46 := eq_true p46; replace q46 := eq_true q46; obtain ⟨q24_0, q24_1, q24_2, u24_0, u24_1, u24_2⟩ := Cf3 BK43; have p47 : 0 ≤ (x5_2 : Int) := Da; have q47 : x5_2 < (l1_0.length : Int) := Da; obtain ⟨ad47, e47, hx47_0⟩ := Kd.at_string HR1_0.out x5_2 p47 q47; cases e47
          replace hx47_0 := Cx HB hx47_0; replace p47 := eq_true p47; replace q47 := eq_true q47; go_wp2; repeat (go_quiet (fail); try go_wp2)
          go_roundg k2
          case measure => have := HJ2.out; have := HK2.out; omega
          case rel => exact ⟨(wrap64 (x5_2 + 1)), Zf, H', ⟨by have := HJ2.out; have := HK2.out; omega⟩, ⟨Ba BK42.out⟩, ⟨Ba BK43.out⟩, ⟨Bb2 HB.out GE42.out GE43.out⟩⟩
         ·rw [if_neg c21] at H; have c21b0 := beq_eq_false_iff_ne.mpr c21; have c21b1 := bne_iff_ne.mpr c21; obtain rfl := Option.some.inj H; have hnb25 := NB42_43.out; have hnc25 := NB43_42.out; obtain ⟨q26_0, q26_1, q26_2, u26_0, u26_1, u26_2⟩ := Cf3 BK42; have p46 : 0 ≤ (x5_2 : Int) := Da; have q46 : x5_2 < (l0_0.length : Int) := Da; obtain ⟨ad46, e46, hx46_0⟩ := Kd.at_string HR0_0.out x5_2 p46 q46; cases e46
          replace hx46_0 := Cx HB hx46_0; replace p46 := eq_true p46; replace q46 := eq_true q46; obtain ⟨q27_0, q27_1, q27_2, u27_0, u27_1, u27_2⟩ := Cf3 BK43; have p47 : 0 ≤ (x5_2 : Int) := Da; have q47 : x5_2 < (l1_0.length : Int) := Da; obtain ⟨ad47, e47, hx47_0⟩ := Kd.at_string HR1_0.out x5_2 p47 q47; cases e47
          replace hx47_0 := Cx HB hx47_0; replace p47 := eq_true p47; replace q47 := eq_true q47; go_wp2; repeat (go_quiet (fail); try go_wp2)
          go_ret; exact ⟨Ze, Bb2 HB.out GE42.out GE43.out⟩
        ·rw [if_neg c20] at H; exact absurd H (by simp)
       ·rw [if_neg c19] at H; exact absurd H (by simp)
      ·rw [if_neg c18] at H; replace c18 := decide_eq_false c18; have H' := Qa H; clear H; have hnb28 := NB42_43.out; have hnc28 := NB43_42.out; obtain ⟨q29_0, q29_1, q29_2, u29_0, u29_1, u29_2⟩ := Cf3 BK42; go_wp2; repeat (go_quiet (fail); try go_wp2)
       go_loopg [6] k2 (fun kq v6 w' => ∃ (x6_3 : Int), v6 = .int .i64 x6_3 ∧ Aside0 (spec_EqualProgram.l1 kq x6_3 l0_0 a0_1 l0_2 l1_0 a1_1 l1_2 = some r) ∧ Aside0 (kq ≤ k2) ∧ Aside0 (w'.heap[gb42]? = some (.cells #[(.slice A0_0 l0_0.length c0_0), .int .i64 a0_1, (.slice A0_2 l0_2.length c0_2)] 30 (0, 0))) ∧ Aside0 (w'.heap[gb43]? = some (.cells #[(.slice A1_0 l1_0.length c1_0), .int .i64 a1_1, (.slice A1_2 l1_2.length c1_2)] 30 (0, 0))) ∧ Aside0 (Below w.heap.size w w'))
       case atStart => exact ⟨(0), Zf, H', ⟨Nat.le_refl _⟩, ⟨Ba BK42.out⟩, ⟨Ba BK43.out⟩, ⟨Bb2 HB.out GE42.out GE43.out⟩⟩
       case round =>
        clear H'; (try clear c1)
        (try clear c2)
        (try clear p2)
        (try clear c6)
        (try clear c6b0)
        (try clear c6b1)
        (try clear p6)
        (try clear q6)
        (try clear hx6)
        (try clear c7)
        (try clear c7b0)
        (try clear c7b1)
        (try clear c7b2)
        (try clear c8)
        (try clear c11)
        (try clear c14)
        (try clear c17)
        (try clear c18)
        (try clear c18)
        (try clear c19)
        (try clear c19)
        (try clear c20)
        (try clear c20)
        (try clear c21)
        (try clear c21b0)
        (try clear c21b1)
        (try clear c22)
        (try clear c25)
        (try clear c26)
        (try clear c28)
        (try clear q10_0)
        (try clear q10_1)
        (try clear q10_2)
        (try clear q12_0)
        (try clear q12_1)
        (try clear q12_2)
        (try clear q13_0)
        (try clear q13_1)
        (try clear q13_2)
        (try clear q15_0)
        (try clear q15_1)
        (try clear q15_2)
        (try clear q16_0)
        (try clear q16_1)
        (try clear q16_2)
        (try clear q23_0)
        (try clear q23_1)
        (try clear q23_2)
        (try clear q24_0)
        (try clear q24_1)
        (try clear q24_2)
        (try clear q26_0)
        (try clear q26_1)
        (try clear q26_2)
        (try clear q27_0)
        (try clear q27_1)
        (try clear q27_2)
        (try clear q29_0)
        (try clear q29_1)
        (try clear q29_2)
        (try clear q9_0)
        (try clear q9_1)
        (try clear q9_2)
        (try clear u10_0)
        (try clear u10_1)
        (try clear u10_2)
        (try clear u12_0)
        (try clear u12_1)
        (try clear u12_2)
        (try clear u13_0)
        (try clear u13_1)
        (try clear u13_2)
        (try clear u15_0)
        (try clear u15_1)
        (try clear u15_2)
        (try clear u16_0)
        (try clear u16_1)
        (try clear u16_2)
        (try clear u23_0)
        (try clear u23_1)
        (try clear u23_2)
        (try clear u24_0)
        (try clear u24_1)
        (try clear u24_2)
        (try clear u26_0)
        (try clear u26_1)
        (try clear u26_2)
        (try clear u27_0)
        (try clear u27_1)
        (try clear u27_2)
        (try clear u29_0)
        (try clear u29_1)
        (try clear u29_2)
        (try clear u9_0)
        (try clear u9_1)
        (try clear u9_2)
        (try clear hx46_0)
        (try clear hx47_0)
        (try clear p2)
        (try clear p46)
        (try clear p47)
        (try clear q46)
        (try clear q47)
        obtain ⟨x6_3, rfl, HA, HK3, BK42, BK43, HB⟩ := hrel; cases gk with
        | zero => exact absurd HA.out (by simp [spec_EqualProgram.l1])
        | succ k3 =>
         have H := HA.out; clear HA; simp only [spec_EqualProgram.l1] at H; by_cases c30 : x6_3 < (l0_2.length : Int)
         ·rw [if_pos c30] at H; replace c30 := decide_eq_true c30; by_cases c31 : 0 ≤ x6_3
          ·rw [if_pos c31] at H; replace c31 := decide_eq_true c31; by_cases c32 : x6_3 < (l1_2.length : Int)
           ·rw [if_pos c32] at H; replace c32 := decide_eq_true c32; by_cases c33 : (!(((rd_T52 l0_2 x6_3).f0) == ((rd_T52 l1_2 x6_3).f0)) || (!(((rd_T52 l0_2 x6_3).f1) == ((rd_T52 l1_2 x6_3).f1)) || ((!(((rd_T52 l0_2 x6_3).f2.f0) == ((rd_T52 l1_2 x6_3).f2.f0)) || (!((((rd_T52 l0_2 x6_3).f2.f1).toList) == (((rd_T52 l1_2 x6_3).f2.f1).toList)) || (!((((rd_T52 l0_2 x6_3).f2.f2).toList) == (((rd_T52 l1_2 x6_3).f2.f2).toList)))))))) = true
            ·rw [if_pos c33] at H; have c33b0 : (!(((rd_T52 l0_2 x6_3).f0) == ((rd_T52 l1_2 x6_3).f0)) || (!(((rd_T52 l0_2 x6_3).f1) == ((rd_T52 l1_2 x6_3).f1)) || ((!(((rd_T52 l0_2 x6_3).f2.f0) == ((rd_T52 l1_2 x6_3).f2.f0)) || (!((((rd_T52 l0_2 x6_3).f2.f1).toList) == (((rd_T52 l1_2 x6_3).f2.f1).toList)) || (!((((rd_T52 l0_2 x6_3).f2.f2).toList) == (((rd_T52 l1_2 x6_3).f2.f2).toList)))))))) = true := c33; clear c33; obtain rfl := Option.some.inj H; have hnb34 := NB42_43.out; have hnc34 := NB43_42.out; obtain ⟨q35_0, q35_1, q35_2, u35_0, u35_1, u35_2⟩ := Cf3 BK42; have p44 : 0 ≤ (x6_3 : Int) := Da; have q44 : x6_3 < (l0_2.length : Int) := Da; obtain ⟨ad44, e44, hx44_0, hx44_1, hx44_2, hx44_3, hx44_4⟩ := at_T52 HR0_2.out x6_3 p44 q44; cases e44
             replace hx44_0 := Cx HB hx44_0; replace hx44_1 := Cx HB hx44_1; replace hx44_2 := Cx HB hx44_2; replace hx44_3 := Cx HB hx44_3; replace hx44_4 := Cx HB hx44_4; replace p44 := eq_true p44; replace q44 := eq_true q44; obtain ⟨q36_0, q36_1, q36_2, u36_0, u36_1, u36_2⟩ := Cf3 BK43; have p45 : 0 ≤ (x6_3 : Int) := Da; have q45 : x6_3 < (l1_2.length : Int) := Da; obtain ⟨ad45, e45, hx45_0, hx45_1, hx45_2, hx45_3, hx45_4⟩ := at_T52 HR1_2.out x6_3 p45 q45; cases e45
             replace hx45_0 := Cx HB hx45_0; replace hx45_1 := Cx HB hx45_1; replace hx45_2 := Cx HB hx45_2; replace hx45_3 := Cx HB hx45_3; replace hx45_4 := Cx HB hx45_4; replace p45 := eq_true p45; replace q45 := eq_true q45; go_wp2; repeat (go_quiet (fail); try go_wp2)
             go_ret; exact ⟨Ze, Bb2 HB.out GE42.out GE43.out⟩
            ·rw [if_neg c33] at H; have c33b0 : (!(((rd_T52 l0_2 x6_3).f0) == ((rd_T52 l1_2 x6_3).f0)) || (!(((rd_T52 l0_2 x6_3).f1) == ((rd_T52 l1_2 x6_3).f1)) || ((!(((rd_T52 l0_2 x6_3).f2.f0) == ((rd_T52 l1_2 x6_3).f2.f0)) || (!((((rd_T52 l0_2 x6_3).f2.f1).toList) == (((rd_T52 l1_2 x6_3).f2.f1).toList)) || (!((((rd_T52 l0_2 x6_3).f2.f2).toList) == (((rd_T52 l1_2 x6_3).f2.f2).toList)))))))) = false := by simpa using c33
             clear c33; have H' := Qa H; clear H; have hnb37 := NB42_43.out; have hnc37 := NB43_42.out; obtain ⟨q38_0, q38_1, q38_2, u38_0, u38_1, u38_2⟩ := Cf3 BK42; have p44 : 0 ≤ (x6_3 : Int) := Da; have q44 : x6_3 < (l0_2.length : Int) := Da; obtain ⟨ad44, e44, hx44_0, hx44_1, hx44_2, hx44_3, hx44_4⟩ := at_T52 HR0_2.out x6_3 p44 q44; cases e44
             replace hx44_0 := Cx HB hx44_0; replace hx44_1 := Cx HB hx44_1; replace hx44_2 := Cx HB hx44_2; replace hx44_3 := Cx HB hx44_3; replace hx44_4 := Cx HB hx44_4; replace p44 := eq_true p44; replace q44 := eq_true q44; obtain ⟨q39_0, q39_1, q39_2, u39_0, u39_1, u39_2⟩ := Cf3 BK43; have p45 : 0 ≤ (x6_3 : Int) := Da; have q45 : x6_3 < (l1_2.length : Int) := Da; obtain ⟨ad45, e45, hx45_0, hx45_1, hx45_2, hx45_3, hx45_4⟩ := at_T52 HR1_2.out x6_3 p45 q45; cases e45
             replace hx45_0 := Cx HB hx45_0; replace hx45_1 := Cx HB hx45_1; replace hx45_2 := Cx HB hx45_2; replace hx45_3 := Cx HB hx45_3; replace hx45_4 := Cx HB hx45_4; replace p45 := eq_true p45; replace q45 := eq_true q45; go_wp2; repeat (go_quiet (fail); try go_wp2)
             go_roundg k3
             case measure => have := HJ2.out; have := HK2.out; have := HK3.out; omega
             case rel => exact ⟨(wrap64 (x6_3 + 1)), Zf, H', ⟨by have := HJ2.out; have := HK2.out; have := HK3.out; omega⟩, ⟨Ba BK42.out⟩, ⟨Ba BK43.out⟩, ⟨Bb2 HB.out GE42.out GE43.out⟩⟩
           ·rw [if_neg c32] at H; exact absurd H (by simp)
          ·rw [if_neg c31] at H; exact absurd H (by simp)
         ·rw [if_neg c30] at H; replace c30 := decide_eq_false c30; obtain rfl := Option.some.inj H; have hnb40 := NB42_43.out; have hnc40 := NB43_42.out; obtain ⟨q41_0, q41_1, q41_2, u41_0, u41_1, u41_2⟩ := Cf3 BK42; go_wp2; repeat (go_quiet (fail); try go_wp2)
          go_ret; exact ⟨Ze, Bb2 HB.out GE42.out GE43.out⟩
end Go.Proofs.YtndkkpjofddfjaaGreatDoor.PFnPrograms
