/- A part of the walk through the printed functions; no condition. -/
import Derived.Test.YtoljagpjejpmpaaXAuto
import Derived.Test.YtoljagpjejpmpaaPFnFormulaTextx0
namespace Go.Proofs.Ytoljagpjejpmpaa.PFnFormulaText
open Go.RowKit Go.Proofs.YtoljagpjejpmpaaW.PrintWords Go.Proofs.YtoljagpjejpmpaaW.PrintLast Go.Proofs.YtoljagpjejpmpaaW.PrintMore
attribute [local go_sem] max2_int min2_int max_two min_two max_three min_three max_four min_four
set_option maxHeartbeats 32000000
set_option maxRecDepth 100000
attribute [local irreducible] Go.World.setCell
set_option linter.unusedVariables false
set_option linter.unusedSimpArgs false
open Go.Proofs.YtoljagpjejpmpaaW.PrintWords.Aside0 renaming mk → Qa
open Go.Proofs.YtoljagpjejpmpaaW.PrintWords renaming gate_callee → Qb, blk_cell → Qd, Aside0 → Qf, gate_dst → Qk
open Go.RowKit renaming wrap64 → Qg, Below → Qs
open Go.Proofs.Try renaming underlying32 → Qh, prog → Qi
open Go.Proofs.YtoljagpjejpmpaaW.PrintWords.Drawn0 renaming refl → Ql, step → Qm
open Go renaming World → Qn, Calls → Zj
mutual
def impl_SizeOf.l0 : Nat → Int → List (S32) → Int → Int → Option (Int)
 | 0, _, _, _, _ => none
 | k + 1, x3, x7, x8, x9 => if x9 < x8 then (if 0 ≤ x9 then (if x9 < (x7.length : Int) then ((impl_SizeOf.f k ((rd_T32 x7 x9).f0) ((rd_T32 x7 x9).f1) ((rd_T32 x7 x9).f2) ((rd_T32 x7 x9).f3) ((rd_T32 x7 x9).f4)).bind fun t29 => (impl_SizeOf.l0 k (Qg (x3 + t29)) x7 x8 (Qg (x9 + 1)))) else (none)) else (none)) else (some x3)
def impl_SizeOf.f : Nat → Int → Int → Int → Int → List (S32) → Option (Int)
 | 0, _, _, _, _, _ => none
 | k + 1, a0_0, a0_1, a0_2, a0_3, l0_4 => impl_SizeOf.l0 k 1 l0_4 (l0_4.length : Int) 0
end
theorem impl_SizeOf.mono_l : ∀ k, (∀ y0 y1 y2 y3 y4, LeO (impl_SizeOf.f k y0 y1 y2 y3 y4) (impl_SizeOf.f (k + 1) y0 y1 y2 y3 y4)) ∧ (∀ y0 y1 y2 y3, LeO (impl_SizeOf.l0 k y0 y1 y2 y3) (impl_SizeOf.l0 (k + 1) y0 y1 y2 y3))
 | 0 => ⟨fun _ _ _ _ _ r h => by simp [impl_SizeOf.f] at h, fun _ _ _ _ r h => by simp [impl_SizeOf.l0] at h⟩
 | k + 1 => by
  obtain ⟨ih0, ih1⟩ := impl_SizeOf.mono_l k; refine ⟨?_, ?_⟩
  ·intro y0 y1 y2 y3 y4; unfold impl_SizeOf.f; exact Lm2 ih0 ih1
  ·intro y0 y1 y2 y3; unfold impl_SizeOf.l0; exact Lm2 ih0 ih1
theorem impl_SizeOf.mono : ∀ a0 a1 a2 a3 a4 k, LeO (impl_SizeOf.f k a0 a1 a2 a3 a4) (impl_SizeOf.f (k + 1) a0 a1 a2 a3 a4) := by
 intro a0 a1 a2 a3 a4 k
 obtain ⟨ih0, ih1⟩ := impl_SizeOf.mono_l k
 exact ih0 a0 a1 a2 a3 a4
theorem impl_SizeOf.calls (k : Nat) : ∀ (a0_0 : Int) (a0_1 : Int) (a0_2 : Int) (a0_3 : Int) (A0_4 : Option Addr) (c0_4 : Nat) (l0_4 : List (S32)) (r : Int) (w : Qn) (hr0_4 : Kd.C k32 w A0_4 l0_4.length l0_4) (hc0_4 : l0_4.length ≤ c0_4) (h : impl_SizeOf.f k a0_0 a0_1 a0_2 a0_3 l0_4 = some r),
  Zj Qi 31 #[.agg #[.int .i64 a0_0, .int .i64 a0_1, .int .i64 a0_2, .int .i64 a0_3, .slice A0_4 l0_4.length c0_4]] w fun e w' => e = .returned (.int .i64 r) ∧ Qs w.heap.size w w' := by
 induction k using Nat.strongRecOn with
 | _ k ih =>
 intro a0_0 a0_1 a0_2 a0_3 A0_4 c0_4 l0_4 r w hr0_4 hc0_4 h
 cases k with
 | zero => exact absurd h (by simp [impl_SizeOf.f])
 | succ k =>
 simp only [impl_SizeOf.f] at h
 have hu32 := Qh
 have HR0_4 := Qa hr0_4
 have HC0_4 := Qa hc0_4
 clear hr0_4 hc0_4
 have HB := Qa (Below.refl w.heap.size w)
 have H : (impl_SizeOf.l0 k 1 l0_4 (l0_4.length : Int) 0) = some r := h
 clear h
 have H' := Qa H
 clear H
 go_enter Try.func31, Try.ntmps31
 go_wp2_with (first | ((with_reducible refine Qk (N := 1) rfl ?_); refine Bx (N := 1) (cs := #[.int .i64 a0_0, .int .i64 a0_1, .int .i64 a0_2, .int .i64 a0_3, .slice A0_4 l0_4.length c0_4]) (t := 32) ?_; intro gb15 hg w2 hbox hb; have BK15 := Qa (hbox); have GW15 := Gs (w := w) hg (Bb0 HB.out); have GE15 := GW15; replace HB := Sb (Bb0 HB.out) hb; clear hb hbox hg; obtain ⟨q3_0, q3_1, q3_2, q3_3, q3_4, u3_0, u3_1, u3_2, u3_3, u3_4⟩ := Cf5 BK15))
 go_loopg [3, 9] k (fun kq v3 v9 w' => ∃ (x3_1 : Int) (x9_1 : Int), v3 = .int .i64 x3_1 ∧ v9 = .int .i64 x9_1 ∧ Qf (impl_SizeOf.l0 kq x3_1 l0_4 (l0_4.length : Int) x9_1 = some r) ∧ Qf (kq ≤ k) ∧ Qf (w'.heap[gb15]? = some (.cells #[.int .i64 a0_0, .int .i64 a0_1, .int .i64 a0_2, .int .i64 a0_3, (.slice A0_4 l0_4.length c0_4)] 32 (0, 0))) ∧ Qf (Qs w.heap.size w w'))
 case atStart => exact ⟨(1), (0), Zf, Zf, H', ⟨Nat.le_refl _⟩, ⟨Ba BK15.out⟩, ⟨Bb1 HB.out GE15.out⟩⟩
 case round =>
  clear H'; (try clear p2)
  (try clear c3)
  (try clear q3_0)
  (try clear q3_1)
  (try clear q3_2)
  (try clear q3_3)
  (try clear q3_4)
  (try clear u3_0)
  (try clear u3_1)
  (try clear u3_2)
  (try clear u3_3)
  (try clear u3_4)
  obtain ⟨x3_1, x9_1, rfl, rfl, HA, HK1, BK15, HB⟩ := hrel; cases gk with
  | zero => exact absurd HA.out (by simp [impl_SizeOf.l0])
  | succ k1 =>
   have H := HA.out; clear HA; simp only [impl_SizeOf.l0] at H; by_cases c4 : x9_1 < (l0_4.length : Int)
   ·rw [if_pos c4] at H; replace c4 := decide_eq_true c4; by_cases c5 : 0 ≤ x9_1
    ·rw [if_pos c5] at H; replace c5 := decide_eq_true c5; by_cases c6 : x9_1 < (l0_4.length : Int)
     ·rw [if_pos c6] at H; replace c6 := decide_eq_true c6; obtain ⟨t29, A7, H⟩ := Ob H; (try dsimp only at H)
      have H' := Qa H; clear H; have p13 : 0 ≤ (x9_1 : Int) := Da; have q13 : x9_1 < (l0_4.length : Int) := Da; obtain ⟨ad13, A13_4, c161_4, e13, hx13_0, hx13_1, hx13_2, hx13_3, hx13_4, hl161_4, hi161_4⟩ := at_T32 HR0_4.out x9_1 p13 q13; cases e13
      replace hx13_0 := Cx HB hx13_0; replace hx13_1 := Cx HB hx13_1; replace hx13_2 := Cx HB hx13_2; replace hx13_3 := Cx HB hx13_3; replace hx13_4 := Cx HB hx13_4; have HR13_4 := Qa hi161_4; have HC161_4 := Qa hl161_4; clear hi161_4 hl161_4; replace p13 := eq_true p13; replace q13 := eq_true q13; go_wp2_with (first | ((with_reducible refine Qk (N := 5) rfl ?_); refine Bz5 5 32 ?_; intro gb17 hg w8 hbox hb; have BK17 := Qa (hbox); have GW17 := Gs (w := w) hg (Bb1 HB.out GE15.out); have GE17 := GW17; replace HB := Sb (Bb1 HB.out GE15.out) hb; have NB15_17 := Nl hg BK15; have NB17_15 := Ng hg BK15; replace BK15 := Kb BK15 hb; clear hb hbox hg; have hnb9 := NB17_15.out; have hnc9 := NB15_17.out; obtain ⟨q10_0, q10_1, q10_2, q10_3, q10_4, u10_0, u10_1, u10_2, u10_3, u10_4⟩ := Cf5 BK17) | ((with_reducible refine Qb (f := 31) rfl ?_); refine Gl 15 Try.func31 #[.agg #[.int .i64 ((rd_T32 l0_4 x9_1).f0), .int .i64 ((rd_T32 l0_4 x9_1).f1), .int .i64 ((rd_T32 l0_4 x9_1).f2), .int .i64 ((rd_T32 l0_4 x9_1).f3), .slice A13_4 ((rd_T32 l0_4 x9_1).f4).length c161_4]] ?_; (with_reducible refine (ih k1 (by have := HK1.out; omega) ((rd_T32 l0_4 x9_1).f0) ((rd_T32 l0_4 x9_1).f1) ((rd_T32 l0_4 x9_1).f2) ((rd_T32 l0_4 x9_1).f3) _ _ ((rd_T32 l0_4 x9_1).f4) t29 _ ?_ ?_ A7.out).mono ?_); exact Kd.C_below HR13_4.out (Bb2 HB.out GE15.out GE17.out); exact HC161_4.out; rintro e w11 ⟨rfl, hb⟩; refine ⟨_, rfl, ?_⟩; replace BK15 := Kf BK15 NB15_17.out hb; replace BK17 := Kx0 (.cells #[.int .i64 ((rd_T32 l0_4 x9_1).f0), .int .i64 ((rd_T32 l0_4 x9_1).f1), .int .i64 ((rd_T32 l0_4 x9_1).f2), .int .i64 ((rd_T32 l0_4 x9_1).f3), .slice A13_4 ((rd_T32 l0_4 x9_1).f4).length c161_4] 32 (0, 0)) BK17 hb; replace HB := Sb (Bb2 HB.out GE15.out GE17.out) hb; clear hb)); go_roundg k1
      case measure => have := HK1.out; omega
      case rel => exact ⟨(Qg (x3_1 + t29)), (Qg (x9_1 + 1)), Zf, Zf, H', ⟨by have := HK1.out; omega⟩, ⟨Ba BK15.out⟩, ⟨Bb2 HB.out GE15.out GE17.out⟩⟩
     ·rw [if_neg c6] at H; exact absurd H (by simp)
    ·rw [if_neg c5] at H; exact absurd H (by simp)
   ·rw [if_neg c4] at H; replace c4 := decide_eq_false c4; obtain rfl := Option.some.inj H; go_wp2; go_ret; exact ⟨Ze, Bb1 HB.out GE15.out⟩
mutual
def impl_DepthOf.l0 : Nat → Int → List (S32) → Int → Int → Option (Int)
 | 0, _, _, _, _ => none
 | k + 1, x3, x7, x8, x9 => if x9 < x8 then (if 0 ≤ x9 then (if x9 < (x7.length : Int) then ((impl_DepthOf.f k ((rd_T32 x7 x9).f0) ((rd_T32 x7 x9).f1) ((rd_T32 x7 x9).f2) ((rd_T32 x7 x9).f3) ((rd_T32 x7 x9).f4)).bind fun t21 => (impl_DepthOf.l0 k (mx x3 t21) x7 x8 (Qg (x9 + 1)))) else (none)) else (none)) else (some (Qg (x3 + 1)))
def impl_DepthOf.f : Nat → Int → Int → Int → Int → List (S32) → Option (Int)
 | 0, _, _, _, _, _ => none
 | k + 1, a0_0, a0_1, a0_2, a0_3, l0_4 => impl_DepthOf.l0 k 0 l0_4 (l0_4.length : Int) 0
end
theorem impl_DepthOf.mono_l : ∀ k, (∀ y0 y1 y2 y3 y4, LeO (impl_DepthOf.f k y0 y1 y2 y3 y4) (impl_DepthOf.f (k + 1) y0 y1 y2 y3 y4)) ∧ (∀ y0 y1 y2 y3, LeO (impl_DepthOf.l0 k y0 y1 y2 y3) (impl_DepthOf.l0 (k + 1) y0 y1 y2 y3))
 | 0 => ⟨fun _ _ _ _ _ r h => by simp [impl_DepthOf.f] at h, fun _ _ _ _ r h => by simp [impl_DepthOf.l0] at h⟩
 | k + 1 => by
  obtain ⟨ih0, ih1⟩ := impl_DepthOf.mono_l k; refine ⟨?_, ?_⟩
  ·intro y0 y1 y2 y3 y4; unfold impl_DepthOf.f; exact Lm2 ih0 ih1
  ·intro y0 y1 y2 y3; unfold impl_DepthOf.l0; exact Lm2 ih0 ih1
theorem impl_DepthOf.mono : ∀ a0 a1 a2 a3 a4 k, LeO (impl_DepthOf.f k a0 a1 a2 a3 a4) (impl_DepthOf.f (k + 1) a0 a1 a2 a3 a4) := by
 intro a0 a1 a2 a3 a4 k
 obtain ⟨ih0, ih1⟩ := impl_DepthOf.mono_l k
 exact ih0 a0 a1 a2 a3 a4
theorem impl_DepthOf.calls (k : Nat) : ∀ (a0_0 : Int) (a0_1 : Int) (a0_2 : Int) (a0_3 : Int) (A0_4 : Option Addr) (c0_4 : Nat) (l0_4 : List (S32)) (r : Int) (w : Qn) (hr0_4 : Kd.C k32 w A0_4 l0_4.length l0_4) (hc0_4 : l0_4.length ≤ c0_4) (h : impl_DepthOf.f k a0_0 a0_1 a0_2 a0_3 l0_4 = some r),
  Zj Qi 32 #[.agg #[.int .i64 a0_0, .int .i64 a0_1, .int .i64 a0_2, .int .i64 a0_3, .slice A0_4 l0_4.length c0_4]] w fun e w' => e = .returned (.int .i64 r) ∧ Qs w.heap.size w w' := by
 induction k using Nat.strongRecOn with
 | _ k ih =>
 intro a0_0 a0_1 a0_2 a0_3 A0_4 c0_4 l0_4 r w hr0_4 hc0_4 h
 cases k with
 | zero => exact absurd h (by simp [impl_DepthOf.f])
 | succ k =>
 simp only [impl_DepthOf.f] at h
 have hu32 := Qh
 have HR0_4 := Qa hr0_4
 have HC0_4 := Qa hc0_4
 clear hr0_4 hc0_4
 have HB := Qa (Below.refl w.heap.size w)
 have H : (impl_DepthOf.l0 k 0 l0_4 (l0_4.length : Int) 0) = some r := h
 clear h
 have H' := Qa H
 clear H
 go_enter Try.func32, Try.ntmps32
 go_wp2_with (first | ((with_reducible refine Qk (N := 1) rfl ?_); refine Bx (N := 1) (cs := #[.int .i64 a0_0, .int .i64 a0_1, .int .i64 a0_2, .int .i64 a0_3, .slice A0_4 l0_4.length c0_4]) (t := 32) ?_; intro gb16 hg w2 hbox hb; have BK16 := Qa (hbox); have GW16 := Gs (w := w) hg (Bb0 HB.out); have GE16 := GW16; replace HB := Sb (Bb0 HB.out) hb; clear hb hbox hg; obtain ⟨q3_0, q3_1, q3_2, q3_3, q3_4, u3_0, u3_1, u3_2, u3_3, u3_4⟩ := Cf5 BK16))
 go_loopg [3, 9] k (fun kq v3 v9 w' => ∃ (x3_1 : Int) (x9_1 : Int), v3 = .int .i64 x3_1 ∧ v9 = .int .i64 x9_1 ∧ Qf (impl_DepthOf.l0 kq x3_1 l0_4 (l0_4.length : Int) x9_1 = some r) ∧ Qf (kq ≤ k) ∧ Qf (w'.heap[gb16]? = some (.cells #[.int .i64 a0_0, .int .i64 a0_1, .int .i64 a0_2, .int .i64 a0_3, (.slice A0_4 l0_4.length c0_4)] 32 (0, 0))) ∧ Qf (Qs w.heap.size w w'))
 case atStart => exact ⟨(0), (0), Zf, Zf, H', ⟨Nat.le_refl _⟩, ⟨Ba BK16.out⟩, ⟨Bb1 HB.out GE16.out⟩⟩
 case round =>
  clear H'; (try clear p2)
  (try clear c3)
  (try clear q3_0)
  (try clear q3_1)
  (try clear q3_2)
  (try clear q3_3)
  (try clear q3_4)
  (try clear u3_0)
  (try clear u3_1)
  (try clear u3_2)
  (try clear u3_3)
  (try clear u3_4)
  obtain ⟨x3_1, x9_1, rfl, rfl, HA, HK1, BK16, HB⟩ := hrel; cases gk with
  | zero => exact absurd HA.out (by simp [impl_DepthOf.l0])
  | succ k1 =>
   have H := HA.out; clear HA; simp only [impl_DepthOf.l0] at H; by_cases c4 : x9_1 < (l0_4.length : Int)
   ·rw [if_pos c4] at H; replace c4 := decide_eq_true c4; by_cases c5 : 0 ≤ x9_1
    ·rw [if_pos c5] at H; replace c5 := decide_eq_true c5; by_cases c6 : x9_1 < (l0_4.length : Int)
     ·rw [if_pos c6] at H; replace c6 := decide_eq_true c6; obtain ⟨t21, A7, H⟩ := Ob H; (try dsimp only at H)
      obtain ⟨ji8, hji8⟩ : ∃ j_ : Int, (mx x3_1 t21) = j_ := ⟨_, rfl⟩; replace H : (impl_DepthOf.l0 k1 ji8 l0_4 (l0_4.length : Int) (Qg (x9_1 + 1))) = some r := by first | (rw [hji8] at H; exact H) | (simp only [hji8] at H ⊢; exact H)
      (try rw [hji8] at A7)
      have hji8_ : (if x3_1 < t21 then t21 else x3_1) = ji8 := hji8; have H' := Qa H; clear H; have p14 : 0 ≤ (x9_1 : Int) := Da; have q14 : x9_1 < (l0_4.length : Int) := Da; obtain ⟨ad14, A14_4, c165_4, e14, hx14_0, hx14_1, hx14_2, hx14_3, hx14_4, hl165_4, hi165_4⟩ := at_T32 HR0_4.out x9_1 p14 q14; cases e14
      replace hx14_0 := Cx HB hx14_0; replace hx14_1 := Cx HB hx14_1; replace hx14_2 := Cx HB hx14_2; replace hx14_3 := Cx HB hx14_3; replace hx14_4 := Cx HB hx14_4; have HR14_4 := Qa hi165_4; have HC165_4 := Qa hl165_4; clear hi165_4 hl165_4; replace p14 := eq_true p14; replace q14 := eq_true q14; go_wp2_with (first | ((with_reducible refine Qk (N := 5) rfl ?_); refine Bz5 5 32 ?_; intro gb18 hg w9 hbox hb; have BK18 := Qa (hbox); have GW18 := Gs (w := w) hg (Bb1 HB.out GE16.out); have GE18 := GW18; replace HB := Sb (Bb1 HB.out GE16.out) hb; have NB16_18 := Nl hg BK16; have NB18_16 := Ng hg BK16; replace BK16 := Kb BK16 hb; clear hb hbox hg; have hnb10 := NB18_16.out; have hnc10 := NB16_18.out; obtain ⟨q11_0, q11_1, q11_2, q11_3, q11_4, u11_0, u11_1, u11_2, u11_3, u11_4⟩ := Cf5 BK18) | ((with_reducible refine Qb (f := 32) rfl ?_); refine Gl 15 Try.func32 #[.agg #[.int .i64 ((rd_T32 l0_4 x9_1).f0), .int .i64 ((rd_T32 l0_4 x9_1).f1), .int .i64 ((rd_T32 l0_4 x9_1).f2), .int .i64 ((rd_T32 l0_4 x9_1).f3), .slice A14_4 ((rd_T32 l0_4 x9_1).f4).length c165_4]] ?_; (with_reducible refine (ih k1 (by have := HK1.out; omega) ((rd_T32 l0_4 x9_1).f0) ((rd_T32 l0_4 x9_1).f1) ((rd_T32 l0_4 x9_1).f2) ((rd_T32 l0_4 x9_1).f3) _ _ ((rd_T32 l0_4 x9_1).f4) t21 _ ?_ ?_ A7.out).mono ?_); exact Kd.C_below HR14_4.out (Bb2 HB.out GE16.out GE18.out); exact HC165_4.out; rintro e w12 ⟨rfl, hb⟩; refine ⟨_, rfl, ?_⟩; replace BK16 := Kf BK16 NB16_18.out hb; replace BK18 := Kx0 (.cells #[.int .i64 ((rd_T32 l0_4 x9_1).f0), .int .i64 ((rd_T32 l0_4 x9_1).f1), .int .i64 ((rd_T32 l0_4 x9_1).f2), .int .i64 ((rd_T32 l0_4 x9_1).f3), .slice A14_4 ((rd_T32 l0_4 x9_1).f4).length c165_4] 32 (0, 0)) BK18 hb; replace HB := Sb (Bb2 HB.out GE16.out GE18.out) hb; clear hb)); go_roundg k1
      case measure => have := HK1.out; omega
      case rel => exact ⟨(ji8), (Qg (x9_1 + 1)), (by first | rfl | (simp; done) | (simp only [← hji8] <;> (first | rfl | simp)) | (simp [*]; done)), Zf, H', ⟨by have := HK1.out; omega⟩, ⟨Ba BK16.out⟩, ⟨Bb2 HB.out GE16.out GE18.out⟩⟩
     ·rw [if_neg c6] at H; exact absurd H (by simp)
    ·rw [if_neg c5] at H; exact absurd H (by simp)
   ·rw [if_neg c4] at H; replace c4 := decide_eq_false c4; obtain rfl := Option.some.inj H; go_wp2; go_ret; exact ⟨Ze, Bb1 HB.out GE16.out⟩
def impl_within.f (a0 : Int) (a1 : Int) (a2 : Int) : Option (Bool) := if a1 ≤ a0 then (some (decide (a0 ≤ a2))) else (some false)
theorem impl_within.calls (a0 : Int) (a1 : Int) (a2 : Int) (r : Bool) (w : Qn) (h : impl_within.f a0 a1 a2 = some r) :
  Zj Qi 66 #[.int .i64 a0, .int .i64 a1, .int .i64 a2] w fun e w' => e = .returned (.bool r) ∧ Drawn0 w w' := by
 have H : (if a1 ≤ a0 then (some (decide (a0 ≤ a2))) else (some false)) = some r := h
 clear h
 by_cases c4 : a1 ≤ a0
 ·rw [if_pos c4] at H
  replace c4 := decide_eq_true c4; obtain rfl := Option.some.inj H; go_enter Try.func66, Try.ntmps66; go_wp2; go_ret; exact ⟨by first | rfl | (simp; done) | (simp [*]; done), by repeat (first | exact Ql _ | apply Qm)⟩
 ·rw [if_neg c4] at H
  replace c4 := decide_eq_false c4; obtain rfl := Option.some.inj H; go_enter Try.func66, Try.ntmps66; go_wp2; go_ret; exact ⟨by first | rfl | (simp; done) | (simp [*]; done), by repeat (first | exact Ql _ | apply Qm)⟩
def impl_ArityOf.j0 : Nat → Int → Bool → Option (Int)
 | 0, _, _ => none
 | k + 1, x0, x6 => if x6 = true then (some 1) else (if x0 = 9 then (some 2) else (if x0 = 10 then (some 2) else (some (-1))))
def impl_ArityOf.f (k : Nat) (a0 : Int) : Option (Int) := (impl_within.f a0 1 7).bind fun t23 => (if t23 = true then (some 0) else (if a0 = 8 then (impl_ArityOf.j0 k a0 true) else (if a0 = 11 then (impl_ArityOf.j0 k a0 true) else (impl_ArityOf.j0 k a0 (a0 == 12)))))
theorem impl_ArityOf.mono_l : ∀ k, (∀ y0 y1, LeO (impl_ArityOf.j0 k y0 y1) (impl_ArityOf.j0 (k + 1) y0 y1))
 | 0 => fun _ _ r h => by simp [impl_ArityOf.j0] at h
 | k + 1 => by
  have ih0 := impl_ArityOf.mono_l k
  ·intro y0 y1; unfold impl_ArityOf.j0; exact Lm1 ih0
theorem impl_ArityOf.mono : ∀ a0 k, LeO (impl_ArityOf.f k a0) (impl_ArityOf.f (k + 1) a0) := by
 intro a0 k
 have ih0 := impl_ArityOf.mono_l k
 unfold impl_ArityOf.f
 exact Lm1 ih0
theorem impl_ArityOf.calls (k : Nat) (a0 : Int) (r : Int) (w : Qn) (h : impl_ArityOf.f k a0 = some r) :
  Zj Qi 40 #[.int .i64 a0] w fun e w' => e = .returned (.int .i64 r) ∧ Drawn0 w w' := by
 have H : ((impl_within.f a0 1 7).bind fun t23 => (if t23 = true then (some 0) else (if a0 = 8 then (impl_ArityOf.j0 k a0 true) else (if a0 = 11 then (impl_ArityOf.j0 k a0 true) else (impl_ArityOf.j0 k a0 (a0 == 12)))))) = some r := h
 clear h
 obtain ⟨t23, A2, H⟩ := Ob H
 (try dsimp only at H)
 by_cases c3 : t23 = true
 ·subst c3
  rw [if_pos rfl] at H; obtain rfl := Option.some.inj H; go_enter Try.func40, Try.ntmps40; go_wp2_with (first | ((with_reducible refine Qb (f := 66) rfl ?_); refine Gl 5 Try.func66 #[.int .i64 a0, .int .i64 1, .int .i64 7] ?_; (with_reducible refine (impl_within.calls a0 1 7 true _ A2.out).mono ?_); rintro e w' ⟨rfl, ⟨nd, rfl⟩⟩; refine ⟨_, rfl, ?_⟩)); go_ret; exact ⟨by first | rfl | (simp; done) | (simp [*]; done), by repeat (first | exact Ql _ | apply Qm)⟩
 ·replace c3 := Bool.eq_false_iff.mpr c3
  subst c3; rw [if_neg (show ¬ (false = true) by decide)] at H; have HC4 := Qa H; clear H; go_enter Try.func40, Try.ntmps40; go_upto_region 3 with (first | ((with_reducible refine Qb (f := 66) rfl ?_); refine Gl 5 Try.func66 #[.int .i64 a0, .int .i64 1, .int .i64 7] ?_; (with_reducible refine (impl_within.calls a0 1 7 false _ A2.out).mono ?_); rintro e w' ⟨rfl, ⟨nd, rfl⟩⟩; refine ⟨_, rfl, ?_⟩))
  (try simp only [Act.put, List.setIfInBounds_toArray, List.set_cons_zero, List.set_cons_succ])
  go_cut [6] (fun v6 wc => ∃ (kq : Nat) (x6_3 : Bool), v6 = .bool x6_3 ∧ Qf (impl_ArityOf.j0 kq a0 x6_3 = some r) ∧ Qf (kq ≤ k) ∧ Drawn0 w wc)
  case first =>
   have H := HC4.out; clear HC4; by_cases c5 : a0 = 8
   ·rw [if_pos c5] at H; have c5b0 := beq_iff_eq.mpr c5; have c5b1 := bne_eq_false_iff_eq.mpr c5; clear c5; (first | rw [c5b0] | (simp only [i64_w, i32_w]; rw [c5b0]) | skip)
    have H' := Qa H; clear H; go_wp2; go_meet
    case rel => exact ⟨_, (true), Zf, H', ⟨by first | omega | exact Nat.le_refl _⟩, by repeat (first | exact Ql _ | apply Qm)⟩
   ·rw [if_neg c5] at H; have c5b0 := beq_eq_false_iff_ne.mpr c5; have c5b1 := bne_iff_ne.mpr c5; (first | rw [c5b0] | (simp only [i64_w, i32_w]; rw [c5b0]) | skip)
    by_cases c6 : a0 = 11
    ·rw [if_pos c6] at H; have c6b0 := beq_iff_eq.mpr c6; have c6b1 := bne_eq_false_iff_eq.mpr c6; clear c6; have H' := Qa H; clear H; go_wp2; go_meet
     case rel => exact ⟨_, (true), Zf, H', ⟨by first | omega | exact Nat.le_refl _⟩, by repeat (first | exact Ql _ | apply Qm)⟩
    ·rw [if_neg c6] at H; have c6b0 := beq_eq_false_iff_ne.mpr c6; have c6b1 := bne_iff_ne.mpr c6; have H' := Qa H; clear H; go_wp2; go_meet
     case rel => exact ⟨_, ((a0 == 12)), Zf, H', ⟨by first | omega | exact Nat.le_refl _⟩, by repeat (first | exact Ql _ | apply Qm)⟩
  case rest =>
   clear HC4; (try clear p2)
   (try clear c3)
   (try clear c4)
   (try clear c5)
   (try clear c5b0)
   (try clear c5b1)
   (try clear c6)
   (try clear c6b0)
   (try clear c6b1)
   obtain ⟨kq, x6_3, rfl, HA, HJ3, ⟨mc3, rfl⟩⟩ := hcut; cases kq with
   | zero => exact absurd HA.out (by simp [impl_ArityOf.j0])
   | succ kj3 =>
    have H := HA.out; clear HA; simp only [impl_ArityOf.j0] at H; by_cases c7 : x6_3 = true
    ·subst c7; rw [if_pos rfl] at H; obtain rfl := Option.some.inj H; go_wp2; go_ret; exact ⟨by first | rfl | (simp; done) | (simp [*]; done), by repeat (first | exact Ql _ | apply Qm)⟩
    ·replace c7 := Bool.eq_false_iff.mpr c7; subst c7; rw [if_neg (show ¬ (false = true) by decide)] at H; by_cases c8 : a0 = 9
     ·rw [if_pos c8] at H; have c8b0 := beq_iff_eq.mpr c8; have c8b1 := bne_eq_false_iff_eq.mpr c8; clear c8; obtain rfl := Option.some.inj H; go_wp2; go_ret; exact ⟨by first | rfl | (simp; done) | (simp [*]; done), by repeat (first | exact Ql _ | apply Qm)⟩
     ·rw [if_neg c8] at H; have c8b0 := beq_eq_false_iff_ne.mpr c8; have c8b1 := bne_iff_ne.mpr c8; by_cases c9 : a0 = 10
      ·rw [if_pos c9] at H; have c9b0 := beq_iff_eq.mpr c9; have c9b1 := bne_eq_false_iff_eq.mpr c9; clear c9; obtain rfl := Option.some.inj H; go_wp2; go_ret; exact ⟨by first | rfl | (simp; done) | (simp [*]; done), by repeat (first | exact Ql _ | apply Qm)⟩
      ·rw [if_neg c9] at H; have c9b0 := beq_eq_false_iff_ne.mpr c9; have c9b1 := bne_iff_ne.mpr c9; obtain rfl := Option.some.inj H; go_wp2; go_ret; exact ⟨by first | rfl | (simp; done) | (simp [*]; done), by repeat (first | exact Ql _ | apply Qm)⟩
def impl_isField.f (a0 : Int) (a1 : Bool) (a2 : Int) : Option (Bool) := if a1 = true then ((impl_within.f a0 0 (Qg (a2 - 1))).bind fun t24 => (if t24 = true then (some true) else (some false))) else (some (a0 == 0))
theorem impl_isField.calls (a0 : Int) (a1 : Bool) (a2 : Int) (r : Bool) (w : Qn) (h : impl_isField.f a0 a1 a2 = some r) :
  Zj Qi 104 #[.int .i64 a0, .bool a1, .int .i64 a2] w fun e w' => e = .returned (.bool r) ∧ Drawn0 w w' := by
 have H : (if a1 = true then ((impl_within.f a0 0 (Qg (a2 - 1))).bind fun t24 => (if t24 = true then (some true) else (some false))) else (some (a0 == 0))) = some r := h
 clear h
 by_cases c4 : a1 = true
 ·subst c4
  rw [if_pos rfl] at H; obtain ⟨t24, A5, H⟩ := Ob H; (try dsimp only at H)
  by_cases c6 : t24 = true
  ·subst c6; rw [if_pos rfl] at H; obtain rfl := Option.some.inj H; go_enter Try.func104, Try.ntmps104; go_wp2_with (first | (go_at_call 66; (with_reducible refine (impl_within.calls a0 0 (Qg (a2 - 1)) true _ A5.out).mono ?_); rintro e w' ⟨rfl, ⟨nd, rfl⟩⟩)); go_ret; exact ⟨by first | rfl | (simp; done) | (simp [*]; done), by repeat (first | exact Ql _ | apply Qm)⟩
  ·replace c6 := Bool.eq_false_iff.mpr c6; subst c6; rw [if_neg (show ¬ (false = true) by decide)] at H; obtain rfl := Option.some.inj H; go_enter Try.func104, Try.ntmps104; go_wp2_with (first | (go_at_call 66; (with_reducible refine (impl_within.calls a0 0 (Qg (a2 - 1)) false _ A5.out).mono ?_); rintro e w' ⟨rfl, ⟨nd, rfl⟩⟩)); go_ret; exact ⟨by first | rfl | (simp; done) | (simp [*]; done), by repeat (first | exact Ql _ | apply Qm)⟩
 ·replace c4 := Bool.eq_false_iff.mpr c4
  subst c4; rw [if_neg (show ¬ (false = true) by decide)] at H; obtain rfl := Option.some.inj H; go_enter Try.func104, Try.ntmps104; go_wp2; go_ret; exact ⟨by first | rfl | (simp; done) | (simp [*]; done), by repeat (first | exact Ql _ | apply Qm)⟩
def impl_usesK.f (a0 : Int) : Option (Bool) := if a0 = 2 then (some true) else (some (a0 == 3))
theorem impl_usesK.calls (a0 : Int) (r : Bool) (w : Qn) (h : impl_usesK.f a0 = some r) :
  Zj Qi 105 #[.int .i64 a0] w fun e w' => e = .returned (.bool r) ∧ Drawn0 w w' := by
 have H : (if a0 = 2 then (some true) else (some (a0 == 3))) = some r := h
 clear h
 by_cases c2 : a0 = 2
 ·rw [if_pos c2] at H
  have c2b0 := beq_iff_eq.mpr c2; have c2b1 := bne_eq_false_iff_eq.mpr c2; clear c2; obtain rfl := Option.some.inj H; go_enter Try.func105, Try.ntmps105; go_wp2; go_ret; exact ⟨by first | rfl | (simp; done) | (simp [*]; done), by repeat (first | exact Ql _ | apply Qm)⟩
 ·rw [if_neg c2] at H
  have c2b0 := beq_eq_false_iff_ne.mpr c2; have c2b1 := bne_iff_ne.mpr c2; obtain rfl := Option.some.inj H; go_enter Try.func105, Try.ntmps105; go_wp2; go_ret; exact ⟨by first | rfl | (simp; done) | (simp [*]; done), by repeat (first | exact Ql _ | apply Qm)⟩
def impl_isBinder.f (a0 : Int) : Option (Bool) := if a0 = 11 then (some true) else (some (a0 == 12))
theorem impl_isBinder.calls (a0 : Int) (r : Bool) (w : Qn) (h : impl_isBinder.f a0 = some r) :
  Zj Qi 60 #[.int .i64 a0] w fun e w' => e = .returned (.bool r) ∧ Drawn0 w w' := by
 have H : (if a0 = 11 then (some true) else (some (a0 == 12))) = some r := h
 clear h
 by_cases c2 : a0 = 11
 ·rw [if_pos c2] at H
  have c2b0 := beq_iff_eq.mpr c2; have c2b1 := bne_eq_false_iff_eq.mpr c2; clear c2; obtain rfl := Option.some.inj H; go_enter Try.func60, Try.ntmps60; go_wp2; go_ret; exact ⟨by first | rfl | (simp; done) | (simp [*]; done), by repeat (first | exact Ql _ | apply Qm)⟩
 ·rw [if_neg c2] at H
  have c2b0 := beq_eq_false_iff_ne.mpr c2; have c2b1 := bne_iff_ne.mpr c2; obtain rfl := Option.some.inj H; go_enter Try.func60, Try.ntmps60; go_wp2; go_ret; exact ⟨by first | rfl | (simp; done) | (simp [*]; done), by repeat (first | exact Ql _ | apply Qm)⟩
def impl_usesU.f (a0 : Int) : Option (Bool) := (impl_within.f a0 2 7).bind fun t25 => (if t25 = true then (some true) else ((impl_isBinder.f a0).bind fun t26 => (some t26)))
theorem impl_usesU.calls (a0 : Int) (r : Bool) (w : Qn) (h : impl_usesU.f a0 = some r) :
  Zj Qi 63 #[.int .i64 a0] w fun e w' => e = .returned (.bool r) ∧ Drawn0 w w' := by
 have H : ((impl_within.f a0 2 7).bind fun t25 => (if t25 = true then (some true) else ((impl_isBinder.f a0).bind fun t26 => (some t26)))) = some r := h
 clear h
 obtain ⟨t25, A2, H⟩ := Ob H
 (try dsimp only at H)
 by_cases c3 : t25 = true
 ·subst c3
  rw [if_pos rfl] at H; obtain rfl := Option.some.inj H; go_enter Try.func63, Try.ntmps63; go_wp2_with (first | ((with_reducible refine Qb (f := 66) rfl ?_); refine Gl 4 Try.func66 #[.int .i64 a0, .int .i64 2, .int .i64 7] ?_; (with_reducible refine (impl_within.calls a0 2 7 true _ A2.out).mono ?_); rintro e w' ⟨rfl, ⟨nd, rfl⟩⟩; refine ⟨_, rfl, ?_⟩)); go_ret; exact ⟨by first | rfl | (simp; done) | (simp [*]; done), by repeat (first | exact Ql _ | apply Qm)⟩
 ·replace c3 := Bool.eq_false_iff.mpr c3
  subst c3; rw [if_neg (show ¬ (false = true) by decide)] at H; obtain ⟨t26, A4, H⟩ := Ob H; (try dsimp only at H)
  obtain rfl := Option.some.inj H; go_enter Try.func63, Try.ntmps63; go_wp2_with (first | ((with_reducible refine Qb (f := 66) rfl ?_); refine Gl 4 Try.func66 #[.int .i64 a0, .int .i64 2, .int .i64 7] ?_; (with_reducible refine (impl_within.calls a0 2 7 false _ A2.out).mono ?_); rintro e w' ⟨rfl, ⟨nd, rfl⟩⟩; refine ⟨_, rfl, ?_⟩) | (go_at_call 60; (with_reducible refine (impl_isBinder.calls a0 t26 _ A4.out).mono ?_); rintro e w' ⟨rfl, ⟨nd, rfl⟩⟩)); go_ret; exact ⟨by first | rfl | (simp; done) | (simp [*]; done), by repeat (first | exact Ql _ | apply Qm)⟩
def impl_usesV.f (a0 : Int) : Option (Bool) := (impl_within.f a0 5 7).bind fun t27 => (some t27)
theorem impl_usesV.calls (a0 : Int) (r : Bool) (w : Qn) (h : impl_usesV.f a0 = some r) :
  Zj Qi 64 #[.int .i64 a0] w fun e w' => e = .returned (.bool r) ∧ Drawn0 w w' := by
 have H : ((impl_within.f a0 5 7).bind fun t27 => (some t27)) = some r := h
 clear h
 obtain ⟨t27, A2, H⟩ := Ob H
 (try dsimp only at H)
 obtain rfl := Option.some.inj H
 go_enter Try.func64, Try.ntmps64
 go_wp2_with (first | ((with_reducible refine Qb (f := 66) rfl ?_); refine Gl 4 Try.func66 #[.int .i64 a0, .int .i64 5, .int .i64 7] ?_; (with_reducible refine (impl_within.calls a0 5 7 t27 _ A2.out).mono ?_); rintro e w' ⟨rfl, ⟨nd, rfl⟩⟩; refine ⟨_, rfl, ?_⟩))
 go_ret
 exact ⟨by first | rfl | (simp; done) | (simp [*]; done), by repeat (first | exact Ql _ | apply Qm)⟩
theorem quietD {f : FuncId} {args : Array Value} {w : Qn} {n : Nat} {v : Value} (h : ∀ w, Zj Qi f args w fun e w' => e = .returned v ∧ Drawn0 w w') : Zj Qi f args (w.drewN n) fun e w'' => e = .returned v ∧ ∃ m, w'' = w.drewN m :=
 Calls.quiet_of ((h _).mono fun _ _ he => ⟨he.1, he.2.out⟩)
def impl_Formula_isWell.bad (g : S32 → Option Bool) : List S32 → Option Bool
 | [] => some false
 | x :: r => (g x).bind fun b => if b = true then impl_Formula_isWell.bad g r else some true
def impl_Formula_isWell.f : Nat → Int → Int → Int → Int → List (S32) → Int → Option Bool
 | 0, _, _, _, _, _, _ => none
 | k + 1, a0, a1, a2, a3, l4, v => if l4.length < 9223372036854775807 then (impl_ArityOf.f k a0).bind fun t => (if (l4.length : Int) = t then ((impl_usesK.f a0).bind fun t19 => ((impl_isField.f a1 t19 v).bind fun t30 => (if t30 = true then ((impl_usesU.f a0).bind fun t20 => ((impl_isField.f a2 t20 4).bind fun t31 => (if t31 = true then ((impl_usesV.f a0).bind fun t22 => ((impl_isField.f a3 t22 4).bind fun t33 => (if t33 = true then ((impl_Formula_isWell.bad (fun x => impl_Formula_isWell.f k x.f0 x.f1 x.f2 x.f3 x.f4 v) l4).bind fun t28 => some (!t28)) else some false))) else some false))) else some false))) else some false) else none
theorem impl_Formula_isWell.bad_mono {g g' : S32 → Option Bool} (h : ∀ x, LeO (g x) (g' x)) : ∀ l, LeO (impl_Formula_isWell.bad g l) (impl_Formula_isWell.bad g' l)
 | [] => LeO.refl _
 | x :: r => LeO.bind (h x) (fun _ => LeO.ite (impl_Formula_isWell.bad_mono h r) (LeO.refl _))
theorem impl_Formula_isWell.mono : ∀ a0 a1 a2 a3 a4 a5 k, LeO (impl_Formula_isWell.f k a0 a1 a2 a3 a4 a5) (impl_Formula_isWell.f (k + 1) a0 a1 a2 a3 a4 a5) := by
 intro a0 a1 a2 a3 a4 a5 k
 induction k generalizing a0 a1 a2 a3 a4 a5 with
 | zero => intro r h; simp [impl_Formula_isWell.f] at h
 | succ k ih =>
  rw [impl_Formula_isWell.f, impl_Formula_isWell.f]; refine LeO.ite (LeO.bind (impl_ArityOf.mono _ _) (fun _ => LeO.ite (LeO.bind (LeO.refl _) (fun _ => LeO.bind (LeO.refl _) (fun _ => LeO.ite (LeO.bind (LeO.refl _) (fun _ => LeO.bind (LeO.refl _) (fun _ => LeO.ite (LeO.bind (LeO.refl _) (fun _ => LeO.bind (LeO.refl _) (fun _ => LeO.ite (LeO.bind (impl_Formula_isWell.bad_mono (fun x => ih _ _ _ _ _ _) _) (fun _ => LeO.refl _)) (LeO.refl _)))) (LeO.refl _)))) (LeO.refl _)))) (LeO.refl _))) (LeO.none _)
def WellC (g : S32 → Option Bool) (v : Int) : Prop := ∀ (x : S32) (A : Option Addr) (c : Nat) (w : Qn) (hr : Kd.C k32 w A x.f4.length x.f4) (hc : x.f4.length ≤ c) (r : Bool) (h : g x = some r),
 Zj Qi 73 #[.agg #[.int .i64 x.f0, .int .i64 x.f1, .int .i64 x.f2, .int .i64 x.f3, .slice A x.f4.length c], .int .i64 v] w fun e w' => e = .returned (.bool r) ∧ Qs w.heap.size w w'
theorem well_closure {g : S32 → Option Bool} {v : Int} (ih : WellC g v) (x : S32) (A : Option Addr) (c gv : Nat) (w : Qn) (hr : Kd.C k32 w A x.f4.length x.f4) (hc : x.f4.length ≤ c) (hq : w.cell? ⟨gv, 0, none⟩ = some (.int .i64 v)) (r : Bool) (h : g x = some r) :
  Zj Qi 107 #[.agg #[.int .i64 x.f0, .int .i64 x.f1, .int .i64 x.f2, .int .i64 x.f3, .slice A x.f4.length c], .pointer (some ⟨gv, 0, none⟩)] w fun e w' => e = .returned (.bool (!r)) ∧ Qs w.heap.size w w' := by
 have hu32 := Qh
 go_enter Try.func107, Try.ntmps107
 go_wp2_with (first
  | ((with_reducible refine Qk (N := 2) rfl ?_); refine Bx (N := 2) (cs := #[.int .i64 x.f0, .int .i64 x.f1, .int .i64 x.f2, .int .i64 x.f3, .slice A x.f4.length c]) (t := 32) ?_; intro gb hgb W1 hbox hb1; have q0 : W1.cell? ⟨gb, 0, none⟩ = some (.int .i64 x.f0) := (Qd hbox 0).trans rfl; have q1 : W1.cell? ⟨gb, 1, none⟩ = some (.int .i64 x.f1) := (Qd hbox 1).trans rfl; have q2 : W1.cell? ⟨gb, 2, none⟩ = some (.int .i64 x.f2) := (Qd hbox 2).trans rfl; have q3 : W1.cell? ⟨gb, 3, none⟩ = some (.int .i64 x.f3) := (Qd hbox 3).trans rfl; have q4 : W1.cell? ⟨gb, 4, none⟩ = some (.slice A x.f4.length c) := (Qd hbox 4).trans rfl; have qv : W1.cell? ⟨gv, 0, none⟩ = some (.int .i64 v) := (hb1.cell (World.block_lt_of_cell? w _ hq)).trans hq; have HR1 := Qa (Kd.C_below hr hb1); have HB1 := Qa hb1; clear hbox hb1 hgb)
  | (go_at_call 73; refine (ih x A c _ HR1.out hc r h).mono ?_; rintro e W2 ⟨rfl, hb2⟩; have HB2 := Qa (below_step HB1.out hb2); clear hb2))
 go_wp2
 go_ret
 exact ⟨rfl, HB2.out⟩
theorem well_index {g : S32 → Option Bool} {v : Int} (ih : WellC g v) (l : List S32) (A : Option Addr) (c gv : Nat) (w : Qn) (hr : Kd.C k32 w A l.length l) (hc : l.length ≤ c) (hq : w.cell? ⟨gv, 0, none⟩ = some (.int .i64 v)) (hl : l.length < 9223372036854775807) (t : Bool) (h : impl_Formula_isWell.bad g l = some t) :
  Zj Qi 125 #[.slice A l.length c, .func (.func 107) #[] #[.pointer (some ⟨gv, 0, none⟩)]] w fun e w' => ∃ i : Int, e = .returned (.int .i64 i) ∧ decide (0 ≤ i) = t ∧ Qs w.heap.size w w' := by
 have hu32 := Qh
 have H := Qa h
 clear h
 go_enter Try.func125, Try.ntmps125
 go_wp2
 go_loopg [8] l.length (fun kq v8 w' => ∃ i : Nat, v8 = .int .i64 (i : Int) ∧ i ≤ l.length ∧ l.length - i ≤ kq ∧ Qf (impl_Formula_isWell.bad g (l.drop i) = some t) ∧ Qf (Qs w.heap.size w w'))
 case atStart => exact ⟨0, rfl, by omega, by omega, ⟨by rw [List.drop_zero]; exact H.out⟩, ⟨Below.refl _ _⟩⟩
 case round =>
  clear H; obtain ⟨i, rfl, hi, hgk, H, HB⟩ := hrel; by_cases hlt' : i < l.length
  ·have hltz : (i : Int) < (l.length : Int) := by omega
   have h := H.out; rw [List.drop_eq_getElem_cons hlt'] at h; simp only [impl_Formula_isWell.bad] at h; obtain ⟨b, hb_, h⟩ := Option.bind_eq_some_iff.mp h; have H' := Qa h; have HG := Qa hb_; clear h hb_ H; obtain ⟨ad, A', c', e_, hx0, hx1, hx2, hx3, hx4, hl_, hi_⟩ := at_T32 hr (i : Int) (by omega) hltz; subst e_; have erd : rd_T32 l (i : Int) = l[i] := by
    unfold rd_T32; simp [List.getD, List.getElem?_eq_getElem hlt']
   rw [erd] at hx0 hx1 hx2 hx3 hx4 hl_ hi_; rw [Int.toNat_natCast] at hx0 hx1 hx2 hx3 hx4; replace hx0 := Cx HB hx0; replace hx1 := Cx HB hx1; replace hx2 := Cx HB hx2; replace hx3 := Cx HB hx3; replace hx4 := Cx HB hx4; have hqv : wr.cell? ⟨gv, 0, none⟩ = some (.int .i64 v) := Cx HB hq; have HR1 := Qa (Kd.C_below hi_ HB.out); generalize l[i] = x at *; have c0b : decide ((i : Int) < (l.length : Int)) = true := decide_eq_true hltz; have p1 : (0 ≤ (i : Int)) = True := eq_true (by omega); have p2 : ((i : Int) < (l.length : Int)) = True := eq_true hltz; have UP : Qf (Qg ((i : Int) + 1) = ((i + 1 : Nat) : Int)) := ⟨by unfold Qg; omega⟩; cases b with
   | true =>
    have hgo := H'.out; rw [if_pos rfl] at hgo; have H2 := Qa hgo; clear hgo H'; go_wp2_with (first
     | (go_at_call 107; refine (well_closure ih x A' c' gv _ HR1.out hl_ hqv true HG.out).mono ?_; rintro e W2 ⟨rfl, hb2⟩; have HB2 := Qa (below_step HB.out hb2); clear HB hb2; have HB := HB2; clear HB2))
    go_roundg (l.length - (i + 1))
    case measure => omega
    case rel => exact ⟨i + 1, by first | exact congrArg _ UP.out | (simp only [i64_w]; exact congrArg _ UP.out) | (simp; done), by omega, by omega, H2, ⟨by repeat (first | exact HB.out | apply below_drew1 | apply pw_below_drewN)⟩⟩
   | false =>
    have hgo := H'.out; rw [if_neg (by decide)] at hgo; obtain rfl := Option.some.inj hgo; go_wp2_with (first
     | (go_at_call 107; refine (well_closure ih x A' c' gv _ HR1.out hl_ hqv false HG.out).mono ?_; rintro e W2 ⟨rfl, hb2⟩; have HB2 := Qa (below_step HB.out hb2); clear HB hb2; have HB := HB2; clear HB2))
    go_wp2; go_ret; exact ⟨(i : Int), rfl, by simp, by repeat (first | exact HB.out | apply below_drew1 | apply pw_below_drewN)⟩
  ·have hltz : ¬ (i : Int) < (l.length : Int) := by omega
   have c0b : decide ((i : Int) < (l.length : Int)) = false := decide_eq_false hltz; have h := H.out; rw [List.drop_eq_nil_of_le (by omega)] at h; obtain rfl := Option.some.inj h; go_wp2; go_ret; exact ⟨-1, rfl, by decide, HB.out⟩
theorem well_contains {g : S32 → Option Bool} {v : Int} (ih : WellC g v) (l : List S32) (A : Option Addr) (c gv : Nat) (w : Qn) (hr : Kd.C k32 w A l.length l) (hc : l.length ≤ c) (hq : w.cell? ⟨gv, 0, none⟩ = some (.int .i64 v)) (hl : l.length < 9223372036854775807) (t : Bool) (h : impl_Formula_isWell.bad g l = some t) :
  Zj Qi 106 #[.slice A l.length c, .func (.func 107) #[] #[.pointer (some ⟨gv, 0, none⟩)]] w fun e w' => e = .returned (.bool t) ∧ Qs w.heap.size w w' := by
 go_enter Try.func106, Try.ntmps106
 go_wp2_with (first
  | (go_at_call 125; refine (well_index ih l A c gv _ hr hc hq hl t h).mono ?_; rintro e W2 ⟨i, rfl, hit, hb2⟩))
 go_wp2
 go_ret
 exact ⟨by first | (rw [hit]) | (simp [hit]; done) | (simp [← hit]; done), hb2⟩
structure WSt (w : Qn) (gf gv : Nat) (cs : Array Value) (v : Int) (W : Qn) : Prop where
 bel : Qs w.heap.size w W
 bf : W.heap[gf]? = some (.cells cs 32 (0, 0))
 bv : W.heap[gv]? = some (.cells #[.int .i64 v] 3 (0, 0))
theorem WSt.drewN {w W : Qn} {gf gv : Nat} {cs : Array Value} {v : Int} (h : WSt w gf gv cs v W) (n : Nat) : WSt w gf gv cs v (W.drewN n) := ⟨pw_below_drewN h.bel n, h.bf, h.bv⟩
theorem impl_Formula_isWell.calls (k : Nat) : ∀ (a0 : Int) (a1 : Int) (a2 : Int) (a3 : Int) (A4 : Option Addr) (c4 : Nat) (l4 : List (S32)) (v : Int) (r : Bool) (w : Qn) (hr : Kd.C k32 w A4 l4.length l4) (hc : l4.length ≤ c4) (h : impl_Formula_isWell.f k a0 a1 a2 a3 l4 v = some r),
  Zj Qi 73 #[.agg #[.int .i64 a0, .int .i64 a1, .int .i64 a2, .int .i64 a3, .slice A4 l4.length c4], .int .i64 v] w fun e w' => e = .returned (.bool r) ∧ Qs w.heap.size w w' := by
 induction k with
 | zero => intro a0 a1 a2 a3 A4 c4 l4 v r w hr hc h; exact absurd h (by simp [impl_Formula_isWell.f])
 | succ k ih =>
 intro a0 a1 a2 a3 A4 c4 l4 v r w hr hc h
 have hW : WellC (fun x => impl_Formula_isWell.f k x.f0 x.f1 x.f2 x.f3 x.f4 v) v := fun x A c w hr hc r h => ih x.f0 x.f1 x.f2 x.f3 A c x.f4 v r w hr hc h
 clear ih
 simp only [impl_Formula_isWell.f] at h
 have hu32 := Qh
 split at h
 case isFalse => cases h
 case isTrue hl =>
 generalize hbad : impl_Formula_isWell.bad (fun x => impl_Formula_isWell.f k x.f0 x.f1 x.f2 x.f3 x.f4 v) l4 = bad at h
 have HBAD := Qa hbad
 have HR := Qa hr
 clear hbad hr
 obtain ⟨t, ht, h⟩ := Option.bind_eq_some_iff.mp h
 have HT := Qa ht
 have H := Qa h
 clear ht h
 go_enter Try.func73, Try.ntmps73
 go_upto_region 1 with (first
  | ((with_reducible refine Qk (N := 2) rfl ?_); refine Bx (N := 2) (cs := #[.int .i64 a0, .int .i64 a1, .int .i64 a2, .int .i64 a3, .slice A4 l4.length c4]) (t := 32) ?_; intro gf hgf W1 hbox hb1; have BF := Qa hbox; have HB1 := Qa hb1; clear hbox hb1 hgf)
  | ((with_reducible refine Qk (N := 3) rfl ?_); refine Bx (N := 3) (cs := #[.int .i64 v]) (t := 3) ?_; intro gv hgv W2 hbox hb2; have ST : Qf (WSt w gf gv #[.int .i64 a0, .int .i64 a1, .int .i64 a2, .int .i64 a3, .slice A4 l4.length c4] v W2) := ⟨⟨below_step HB1.out hb2, blk_below BF.out hb2, hbox⟩⟩; clear hbox hb2 hgv))
 (try simp only [Act.put, List.setIfInBounds_toArray, List.set_cons_zero, List.set_cons_succ])
 go_cut [39] (fun v39 wc => ∃ b : Bool, v39 = .bool b ∧ Qf ((if b = true then some false else bad.bind fun t28 => some (!t28)) = some r) ∧ Qf (WSt w gf gv #[.int .i64 a0, .int .i64 a1, .int .i64 a2, .int .i64 a3, .slice A4 l4.length c4] v wc))
 case first =>
  have h := H.out; clear H; have q0 : World.cell? _ ⟨gf, 0, none⟩ = some (.int .i64 a0) := (Qd ST.out.bf 0).trans rfl; have q1 : World.cell? _ ⟨gf, 1, none⟩ = some (.int .i64 a1) := (Qd ST.out.bf 1).trans rfl; have q2 : World.cell? _ ⟨gf, 2, none⟩ = some (.int .i64 a2) := (Qd ST.out.bf 2).trans rfl; have q3 : World.cell? _ ⟨gf, 3, none⟩ = some (.int .i64 a3) := (Qd ST.out.bf 3).trans rfl; have q4 : World.cell? _ ⟨gf, 4, none⟩ = some (.slice A4 l4.length c4) := (Qd ST.out.bf 4).trans rfl; have qv : World.cell? _ ⟨gv, 0, none⟩ = some (.int .i64 v) := (Qd ST.out.bv 0).trans rfl; by_cases c1 : (l4.length : Int) = t
  ·rw [if_pos c1] at h; have d1 : ((l4.length : Int) != t) = false := bne_eq_false_iff_eq.mpr c1; have d1' : ((l4.length : Int) == t) = true := beq_iff_eq.mpr c1; clear c1; obtain ⟨t19, H400, h⟩ := Option.bind_eq_some_iff.mp h; obtain ⟨t30, H401, h⟩ := Option.bind_eq_some_iff.mp h; replace H400 := Qa H400; replace H401 := Qa H401; cases t30 with
   | false =>
    rw [if_neg (by decide)] at h; try go_wp2
    repeat (go_quiet (first | (go_at_call 40; (with_reducible exact quietD (fun w => impl_ArityOf.calls k a0 t w HT.out))) | (go_at_call 105; (with_reducible exact quietD (fun w => impl_usesK.calls a0 t19 w H400.out))) | (go_at_call 104; (with_reducible exact quietD (fun w => impl_isField.calls a1 t19 v false w H401.out)))); try go_wp2)
    go_meet
    case rel => exact ⟨true, rfl, ⟨by rw [if_pos rfl]; exact h⟩, ⟨by repeat (first | exact ST.out | refine WSt.drewN ?_ _)⟩⟩
   | true =>
    rw [if_pos rfl] at h; obtain ⟨t20, H402, h⟩ := Option.bind_eq_some_iff.mp h; obtain ⟨t31, H403, h⟩ := Option.bind_eq_some_iff.mp h; replace H402 := Qa H402; replace H403 := Qa H403; cases t31 with
    | false =>
     rw [if_neg (by decide)] at h; try go_wp2
     repeat (go_quiet (first | (go_at_call 40; (with_reducible exact quietD (fun w => impl_ArityOf.calls k a0 t w HT.out))) | (go_at_call 105; (with_reducible exact quietD (fun w => impl_usesK.calls a0 t19 w H400.out))) | (go_at_call 104; (with_reducible exact quietD (fun w => impl_isField.calls a1 t19 v true w H401.out))) | (go_at_call 63; (with_reducible exact quietD (fun w => impl_usesU.calls a0 t20 w H402.out))) | (go_at_call 104; (with_reducible exact quietD (fun w => impl_isField.calls a2 t20 4 false w H403.out)))); try go_wp2)
     go_meet
     case rel => exact ⟨true, rfl, ⟨by rw [if_pos rfl]; exact h⟩, ⟨by repeat (first | exact ST.out | refine WSt.drewN ?_ _)⟩⟩
    | true =>
     rw [if_pos rfl] at h; obtain ⟨t22, H404, h⟩ := Option.bind_eq_some_iff.mp h; obtain ⟨t33, H405, h⟩ := Option.bind_eq_some_iff.mp h; replace H404 := Qa H404; replace H405 := Qa H405; cases t33 with
     | false =>
      rw [if_neg (by decide)] at h; try go_wp2
      repeat (go_quiet (first | (go_at_call 40; (with_reducible exact quietD (fun w => impl_ArityOf.calls k a0 t w HT.out))) | (go_at_call 105; (with_reducible exact quietD (fun w => impl_usesK.calls a0 t19 w H400.out))) | (go_at_call 104; (with_reducible exact quietD (fun w => impl_isField.calls a1 t19 v true w H401.out))) | (go_at_call 63; (with_reducible exact quietD (fun w => impl_usesU.calls a0 t20 w H402.out))) | (go_at_call 104; (with_reducible exact quietD (fun w => impl_isField.calls a2 t20 4 true w H403.out))) | (go_at_call 64; (with_reducible exact quietD (fun w => impl_usesV.calls a0 t22 w H404.out))) | (go_at_call 104; (with_reducible exact quietD (fun w => impl_isField.calls a3 t22 4 false w H405.out)))); try go_wp2)
      go_meet
      case rel => exact ⟨true, rfl, ⟨by rw [if_pos rfl]; exact h⟩, ⟨by repeat (first | exact ST.out | refine WSt.drewN ?_ _)⟩⟩
     | true =>
      rw [if_pos rfl] at h; try go_wp2
      repeat (go_quiet (first | (go_at_call 40; (with_reducible exact quietD (fun w => impl_ArityOf.calls k a0 t w HT.out))) | (go_at_call 105; (with_reducible exact quietD (fun w => impl_usesK.calls a0 t19 w H400.out))) | (go_at_call 104; (with_reducible exact quietD (fun w => impl_isField.calls a1 t19 v true w H401.out))) | (go_at_call 63; (with_reducible exact quietD (fun w => impl_usesU.calls a0 t20 w H402.out))) | (go_at_call 104; (with_reducible exact quietD (fun w => impl_isField.calls a2 t20 4 true w H403.out))) | (go_at_call 64; (with_reducible exact quietD (fun w => impl_usesV.calls a0 t22 w H404.out))) | (go_at_call 104; (with_reducible exact quietD (fun w => impl_isField.calls a3 t22 4 true w H405.out)))); try go_wp2)
      go_meet
      case rel => exact ⟨false, rfl, ⟨by rw [if_neg (by decide)]; exact h⟩, ⟨by repeat (first | exact ST.out | refine WSt.drewN ?_ _)⟩⟩
  ·rw [if_neg c1] at h; have d1 : ((l4.length : Int) != t) = true := bne_iff_ne.mpr c1; have d1' : ((l4.length : Int) == t) = false := beq_eq_false_iff_ne.mpr c1; clear c1; try go_wp2
   repeat (go_quiet (first | (go_at_call 40; (with_reducible exact quietD (fun w => impl_ArityOf.calls k a0 t w HT.out)))); try go_wp2)
   go_meet
   case rel => exact ⟨true, rfl, ⟨by rw [if_pos rfl]; exact h⟩, ⟨by repeat (first | exact ST.out | refine WSt.drewN ?_ _)⟩⟩
 case rest =>
  clear H ST; obtain ⟨b, rfl, H, ST⟩ := hcut; cases b with
  | true =>
   have h := H.out; rw [if_pos rfl] at h; obtain rfl := Option.some.inj h; go_wp2; go_ret; exact ⟨rfl, ST.out.bel⟩
  | false =>
   have h := H.out; rw [if_neg (by decide)] at h; obtain ⟨t28, hb6, h⟩ := Option.bind_eq_some_iff.mp h; obtain rfl := Option.some.inj h; have HB6 := Qa (HBAD.out.trans hb6); clear h hb6 H HBAD; have q4 : World.cell? _ ⟨gf, 4, none⟩ = some (.slice A4 l4.length c4) := (Qd ST.out.bf 4).trans rfl; have qv : World.cell? _ ⟨gv, 0, none⟩ = some (.int .i64 v) := (Qd ST.out.bv 0).trans rfl; have HR1 := Qa (Kd.C_below HR.out ST.out.bel); go_wp2_with (first
    | (go_at_call 106; refine (well_contains hW l4 A4 c4 gv _ HR1.out hc qv hl t28 HB6.out).mono ?_; rintro e W3 ⟨rfl, hb3⟩; have HB3 := Qa (below_step ST.out.bel hb3); clear hb3))
   go_wp2; go_ret; exact ⟨rfl, HB3.out⟩
end Go.Proofs.Ytoljagpjejpmpaa.PFnFormulaText
