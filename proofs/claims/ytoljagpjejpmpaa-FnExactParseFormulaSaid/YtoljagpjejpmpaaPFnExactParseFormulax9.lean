/- A part of the walk through the printed functions; no condition. -/
import Derived.Test.YtoljagpjejpmpaaXAuto
import Derived.Test.YtoljagpjejpmpaaPFnExactParseFormulax0
import Derived.Test.YtoljagpjejpmpaaPFnExactParseFormulax8
namespace Go.Proofs.Ytoljagpjejpmpaa.PFnExactParseFormula
open Go.RowKit Go.Proofs.YtoljagpjejpmpaaW.PrintWords Go.Proofs.YtoljagpjejpmpaaW.PrintLast Go.Proofs.YtoljagpjejpmpaaW.PrintMore
attribute [local go_sem] max2_int min2_int max_two min_two max_three min_three max_four min_four
set_option maxHeartbeats 32000000
set_option maxRecDepth 100000
attribute [local irreducible] Go.World.setCell
set_option linter.unusedVariables false
set_option linter.unusedSimpArgs false
open Go.Proofs.YtoljagpjejpmpaaW.PrintWords.Aside0 renaming mk → Qa
open Go.World renaming drewN_drewN → Qb, drewN → Qo
mutual
def spec_l10Form.l0 : Nat → Int → Int → Int → Int → Int → Int → List (S32) → Option (Bool)
 | 0, _, _, _, _, _, _, _ => none
 | k + 1, x0, x5, x69, x67, x71, x70, x68 => if x5 < (x68.length : Int) then (if 0 ≤ x5 then ((spec_l10Form.f k x0 ((rd_T32 x68 x5).f0) ((rd_T32 x68 x5).f1) ((rd_T32 x68 x5).f2) ((rd_T32 x68 x5).f3) ((rd_T32 x68 x5).f4)).bind fun t75 => (if t75 = true then (spec_l10Form.l0 k x0 (wrap64 (x5 + 1)) x69 x67 x71 x70 x68) else (some false))) else (none)) else ((spec_l10Uses.f k x69).bind fun t73 => (if x69 = 2 then (spec_l10Form.j1 k x0 t73 true x69 x67 x71 x70 x68) else (spec_l10Form.j1 k x0 t73 (x69 == 3) x69 x67 x71 x70 x68)))
def spec_l10Form.j1 : Nat → Int → Int → Bool → Int → Int → Int → Int → List (S32) → Option (Bool)
 | 0, _, _, _, _, _, _, _, _ => none
 | k + 1, x0, x6, x7, x69, x67, x71, x70, x68 => if x6 < 1 then (if x71 = 0 then (if x6 < 2 then (if x70 = 0 then (if x7 = true then (if x67 < 0 then (spec_l10Form.j2 k true x69 x67 x71 x70 x68) else (spec_l10Form.j2 k (decide (x67 ≥ x0)) x69 x67 x71 x70 x68)) else (if x67 = 0 then (spec_l10Form.j2 k false x69 x67 x71 x70 x68) else (spec_l10Form.j2 k true x69 x67 x71 x70 x68))) else (spec_l10Form.j2 k true x69 x67 x71 x70 x68)) else (if x7 = true then (if x67 < 0 then (spec_l10Form.j2 k true x69 x67 x71 x70 x68) else (spec_l10Form.j2 k (decide (x67 ≥ x0)) x69 x67 x71 x70 x68)) else (if x67 = 0 then (spec_l10Form.j2 k false x69 x67 x71 x70 x68) else (spec_l10Form.j2 k true x69 x67 x71 x70 x68)))) else (spec_l10Form.j2 k true x69 x67 x71 x70 x68)) else (if x6 < 2 then (if x70 = 0 then (if x7 = true then (if x67 < 0 then (spec_l10Form.j2 k true x69 x67 x71 x70 x68) else (spec_l10Form.j2 k (decide (x67 ≥ x0)) x69 x67 x71 x70 x68)) else (if x67 = 0 then (spec_l10Form.j2 k false x69 x67 x71 x70 x68) else (spec_l10Form.j2 k true x69 x67 x71 x70 x68))) else (spec_l10Form.j2 k true x69 x67 x71 x70 x68)) else (if x7 = true then (if x67 < 0 then (spec_l10Form.j2 k true x69 x67 x71 x70 x68) else (spec_l10Form.j2 k (decide (x67 ≥ x0)) x69 x67 x71 x70 x68)) else (if x67 = 0 then (spec_l10Form.j2 k false x69 x67 x71 x70 x68) else (spec_l10Form.j2 k true x69 x67 x71 x70 x68))))
def spec_l10Form.j2 : Nat → Bool → Int → Int → Int → Int → List (S32) → Option (Bool)
 | 0, _, _, _, _, _, _ => none
 | k + 1, x72, x69, x67, x71, x70, x68 => if x72 = true then (some false) else ((spec_l1In.f x71 0 3).bind fun t76 => (if t76 = true then ((spec_l1In.f x70 0 3).bind fun t77 => (if t77 = true then ((spec_ArityOf.f k x69).bind fun t74 => (some ((x68.length : Int) == t74))) else (some false))) else (some false)))
def spec_l10Form.f : Nat → Int → Int → Int → Int → Int → List (S32) → Option (Bool)
 | 0, _, _, _, _, _, _ => none
 | k + 1, a0, a1_0, a1_1, a1_2, a1_3, l1_4 => spec_l10Form.l0 k a0 0 a1_0 a1_1 a1_2 a1_3 l1_4
end
theorem spec_l10Form.mono_l : ∀ k, (∀ y0 y1 y2 y3 y4 y5, LeO (spec_l10Form.f k y0 y1 y2 y3 y4 y5) (spec_l10Form.f (k + 1) y0 y1 y2 y3 y4 y5)) ∧ (∀ y0 y1 y2 y3 y4 y5 y6, LeO (spec_l10Form.l0 k y0 y1 y2 y3 y4 y5 y6) (spec_l10Form.l0 (k + 1) y0 y1 y2 y3 y4 y5 y6)) ∧ (∀ y0 y1 y2 y3 y4 y5 y6 y7, LeO (spec_l10Form.j1 k y0 y1 y2 y3 y4 y5 y6 y7) (spec_l10Form.j1 (k + 1) y0 y1 y2 y3 y4 y5 y6 y7)) ∧ (∀ y0 y1 y2 y3 y4 y5, LeO (spec_l10Form.j2 k y0 y1 y2 y3 y4 y5) (spec_l10Form.j2 (k + 1) y0 y1 y2 y3 y4 y5))
 | 0 => ⟨fun _ _ _ _ _ _ r h => by simp [spec_l10Form.f] at h, fun _ _ _ _ _ _ _ r h => by simp [spec_l10Form.l0] at h, fun _ _ _ _ _ _ _ _ r h => by simp [spec_l10Form.j1] at h, fun _ _ _ _ _ _ r h => by simp [spec_l10Form.j2] at h⟩
 | k + 1 => by
  obtain ⟨ih0, ih1, ih2, ih3⟩ := spec_l10Form.mono_l k; refine ⟨?_, ?_, ?_, ?_⟩
  ·intro y0 y1 y2 y3 y4 y5; unfold spec_l10Form.f; exact Lm6 ih0 ih1 ih2 ih3 spec_ArityOf.mono spec_l10Uses.mono
  ·intro y0 y1 y2 y3 y4 y5 y6; unfold spec_l10Form.l0; exact Lm6 ih0 ih1 ih2 ih3 spec_ArityOf.mono spec_l10Uses.mono
  ·intro y0 y1 y2 y3 y4 y5 y6 y7; unfold spec_l10Form.j1; exact Lm6 ih0 ih1 ih2 ih3 spec_ArityOf.mono spec_l10Uses.mono
  ·intro y0 y1 y2 y3 y4 y5; unfold spec_l10Form.j2; exact Lm6 ih0 ih1 ih2 ih3 spec_ArityOf.mono spec_l10Uses.mono
theorem spec_l10Form.mono : ∀ a0 a1 a2 a3 a4 a5 k, LeO (spec_l10Form.f k a0 a1 a2 a3 a4 a5) (spec_l10Form.f (k + 1) a0 a1 a2 a3 a4 a5) := by
 intro a0 a1 a2 a3 a4 a5 k
 obtain ⟨ih0, ih1, ih2, ih3⟩ := spec_l10Form.mono_l k
 exact ih0 a0 a1 a2 a3 a4 a5
theorem spec_l10Form.calls (k : Nat) : ∀ (a0 : Int) (a1_0 : Int) (a1_1 : Int) (a1_2 : Int) (a1_3 : Int) (A1_4 : Option Addr) (c1_4 : Nat) (l1_4 : List (S32)) (r : Bool) (w : World) (hr1_4 : Kd.C k32 w A1_4 l1_4.length l1_4) (hc1_4 : l1_4.length ≤ c1_4) (h : spec_l10Form.f k a0 a1_0 a1_1 a1_2 a1_3 l1_4 = some r),
  Calls Try.prog 76 #[.int .i64 a0, .agg #[.int .i64 a1_0, .int .i64 a1_1, .int .i64 a1_2, .int .i64 a1_3, .slice A1_4 l1_4.length c1_4]] w fun e w' => e = .returned (.bool r) ∧ Below w.heap.size w w' := by
 induction k using Nat.strongRecOn with
 | _ k ih =>
 intro a0 a1_0 a1_1 a1_2 a1_3 A1_4 c1_4 l1_4 r w hr1_4 hc1_4 h
 cases k with
 | zero => exact absurd h (by simp [spec_l10Form.f])
 | succ k =>
 simp only [spec_l10Form.f] at h
 have hu32 := Try.underlying32
 have HR1_4 := Qa hr1_4
 have HC1_4 := Qa hc1_4
 clear hr1_4 hc1_4
 have HB := Qa (Below.refl w.heap.size w)
 have H : (spec_l10Form.l0 k a0 0 a1_0 a1_1 a1_2 a1_3 l1_4) = some r := h
 clear h
 have H' := Qa H
 clear H
 go_enter Try.func76, Try.ntmps76
 go_wp2_with (first | ((with_reducible refine gate_dst (N := 3) rfl ?_); (try (refine gate_guard (by rfl) ?_; dsimp only)); refine Bx (N := 3) (cs := #[.int .i64 a1_0, .int .i64 a1_1, .int .i64 a1_2, .int .i64 a1_3, .slice A1_4 l1_4.length c1_4]) (t := 32) ?_; intro gb65 hg w3 hbox hb; have BK65 := Qa (hbox); have GW65 := Gs (w := w) hg (Bb0 HB.out); have GE65 := GW65; replace HB := Sb (Bb0 HB.out) hb; clear hb hbox hg))
 repeat (go_quiet (first | ((with_reducible refine gate_dst (N := 3) rfl ?_); (try (refine gate_guard (by rfl) ?_; dsimp only)); refine Bx (N := 3) (cs := #[.int .i64 a1_0, .int .i64 a1_1, .int .i64 a1_2, .int .i64 a1_3, .slice A1_4 l1_4.length c1_4]) (t := 32) ?_; intro gb65 hg w3 hbox hb; have BK65 := Qa (hbox); have GW65 := Gs (w := w) hg (Bb0 HB.out); have GE65 := GW65; replace HB := Sb (Bb0 HB.out) hb; clear hb hbox hg)); try go_wp2_with (first | ((with_reducible refine gate_dst (N := 3) rfl ?_); (try (refine gate_guard (by rfl) ?_; dsimp only)); refine Bx (N := 3) (cs := #[.int .i64 a1_0, .int .i64 a1_1, .int .i64 a1_2, .int .i64 a1_3, .slice A1_4 l1_4.length c1_4]) (t := 32) ?_; intro gb65 hg w3 hbox hb; have BK65 := Qa (hbox); have GW65 := Gs (w := w) hg (Bb0 HB.out); have GE65 := GW65; replace HB := Sb (Bb0 HB.out) hb; clear hb hbox hg)))
 go_loopg [5] k (fun kq v5 w' => ∃ (x5_1 : Int), v5 = .int .i64 x5_1 ∧ Aside0 (spec_l10Form.l0 kq a0 x5_1 a1_0 a1_1 a1_2 a1_3 l1_4 = some r) ∧ Aside0 (kq ≤ k) ∧ Aside0 (w'.heap[gb65]? = some (.cells #[.int .i64 a1_0, .int .i64 a1_1, .int .i64 a1_2, .int .i64 a1_3, (.slice A1_4 l1_4.length c1_4)] 32 (0, 0))) ∧ Aside0 (Below w.heap.size w w'))
 case atStart => exact ⟨(0), Zf, H', ⟨Nat.le_refl _⟩, ⟨Ba BK65.out⟩, ⟨Bb1 HB.out GE65.out⟩⟩
 case round =>
  clear H'; (try clear c1)
  (try clear p2)
  obtain ⟨x5_1, rfl, HA, HK1, BK65, HB⟩ := hrel; cases gk with
  | zero => exact absurd HA.out (by simp [spec_l10Form.l0])
  | succ k1 =>
   have H := HA.out; clear HA; simp only [spec_l10Form.l0] at H; by_cases c4 : x5_1 < (l1_4.length : Int)
   ·rw [if_pos c4] at H; replace c4 := decide_eq_true c4; by_cases c5 : 0 ≤ x5_1
    ·rw [if_pos c5] at H; replace c5 := decide_eq_true c5; obtain ⟨t75, A6, H⟩ := Ob H; (try dsimp only at H)
     by_cases c7 : t75 = true
     ·subst c7; rw [if_pos rfl] at H; have H' := Qa H; clear H; obtain ⟨q8_0, q8_1, q8_2, q8_3, q8_4, u8_0, u8_1, u8_2, u8_3, u8_4⟩ := Cf5 BK65; have p66 : 0 ≤ (x5_1 : Int) := Da; have q66 : x5_1 < (l1_4.length : Int) := Da; obtain ⟨ad66, A66_4, c286_4, e66, hx66_0, hx66_1, hx66_2, hx66_3, hx66_4, hl286_4, hi286_4⟩ := at_T32 HR1_4.out x5_1 p66 q66; cases e66
      replace hx66_0 := Cx HB hx66_0; replace hx66_1 := Cx HB hx66_1; replace hx66_2 := Cx HB hx66_2; replace hx66_3 := Cx HB hx66_3; replace hx66_4 := Cx HB hx66_4; have HR66_4 := Qa hi286_4; have HC286_4 := Qa hl286_4; clear hi286_4 hl286_4; replace p66 := eq_true p66; replace q66 := eq_true q66; go_wp2_with (first | (go_at_call 76; (with_reducible refine (ih k1 (by have := HK1.out; omega) a0 ((rd_T32 l1_4 x5_1).f0) ((rd_T32 l1_4 x5_1).f1) ((rd_T32 l1_4 x5_1).f2) ((rd_T32 l1_4 x5_1).f3) _ _ ((rd_T32 l1_4 x5_1).f4) true _ ?_ ?_ A6.out).mono ?_); exact Bc (Kd.C_below HR66_4.out HB.out); exact HC286_4.out; rintro e w9 ⟨rfl, hb⟩; replace BK65 := Kb BK65 hb; replace HB := Sb (Bb1 HB.out GE65.out) hb; clear hb)); repeat (go_quiet (first | (go_at_call 76; (with_reducible refine (ih k1 (by have := HK1.out; omega) a0 ((rd_T32 l1_4 x5_1).f0) ((rd_T32 l1_4 x5_1).f1) ((rd_T32 l1_4 x5_1).f2) ((rd_T32 l1_4 x5_1).f3) _ _ ((rd_T32 l1_4 x5_1).f4) true _ ?_ ?_ A6.out).mono ?_); exact Bc (Kd.C_below HR66_4.out HB.out); exact HC286_4.out; rintro e w9 ⟨rfl, hb⟩; replace BK65 := Kb BK65 hb; replace HB := Sb (Bb1 HB.out GE65.out) hb; clear hb)); try go_wp2_with (first | (go_at_call 76; (with_reducible refine (ih k1 (by have := HK1.out; omega) a0 ((rd_T32 l1_4 x5_1).f0) ((rd_T32 l1_4 x5_1).f1) ((rd_T32 l1_4 x5_1).f2) ((rd_T32 l1_4 x5_1).f3) _ _ ((rd_T32 l1_4 x5_1).f4) true _ ?_ ?_ A6.out).mono ?_); exact Bc (Kd.C_below HR66_4.out HB.out); exact HC286_4.out; rintro e w9 ⟨rfl, hb⟩; replace BK65 := Kb BK65 hb; replace HB := Sb (Bb1 HB.out GE65.out) hb; clear hb)))
      go_roundg k1
      case measure => have := HK1.out; omega
      case rel => exact ⟨(wrap64 (x5_1 + 1)), Zf, H', ⟨by have := HK1.out; omega⟩, ⟨Ba BK65.out⟩, ⟨Bb1 HB.out GE65.out⟩⟩
     ·replace c7 := Bool.eq_false_iff.mpr c7; subst c7; rw [if_neg (show ¬ (false = true) by decide)] at H; obtain rfl := Option.some.inj H; obtain ⟨q10_0, q10_1, q10_2, q10_3, q10_4, u10_0, u10_1, u10_2, u10_3, u10_4⟩ := Cf5 BK65; have p66 : 0 ≤ (x5_1 : Int) := Da; have q66 : x5_1 < (l1_4.length : Int) := Da; obtain ⟨ad66, A66_4, c286_4, e66, hx66_0, hx66_1, hx66_2, hx66_3, hx66_4, hl286_4, hi286_4⟩ := at_T32 HR1_4.out x5_1 p66 q66; cases e66
      replace hx66_0 := Cx HB hx66_0; replace hx66_1 := Cx HB hx66_1; replace hx66_2 := Cx HB hx66_2; replace hx66_3 := Cx HB hx66_3; replace hx66_4 := Cx HB hx66_4; have HR66_4 := Qa hi286_4; have HC286_4 := Qa hl286_4; clear hi286_4 hl286_4; replace p66 := eq_true p66; replace q66 := eq_true q66; go_wp2_with (first | (go_at_call 76; (with_reducible refine (ih k1 (by have := HK1.out; omega) a0 ((rd_T32 l1_4 x5_1).f0) ((rd_T32 l1_4 x5_1).f1) ((rd_T32 l1_4 x5_1).f2) ((rd_T32 l1_4 x5_1).f3) _ _ ((rd_T32 l1_4 x5_1).f4) false _ ?_ ?_ A6.out).mono ?_); exact Bc (Kd.C_below HR66_4.out HB.out); exact HC286_4.out; rintro e w11 ⟨rfl, hb⟩; replace BK65 := Kb BK65 hb; replace HB := Sb (Bb1 HB.out GE65.out) hb; clear hb)); repeat (go_quiet (first | (go_at_call 76; (with_reducible refine (ih k1 (by have := HK1.out; omega) a0 ((rd_T32 l1_4 x5_1).f0) ((rd_T32 l1_4 x5_1).f1) ((rd_T32 l1_4 x5_1).f2) ((rd_T32 l1_4 x5_1).f3) _ _ ((rd_T32 l1_4 x5_1).f4) false _ ?_ ?_ A6.out).mono ?_); exact Bc (Kd.C_below HR66_4.out HB.out); exact HC286_4.out; rintro e w11 ⟨rfl, hb⟩; replace BK65 := Kb BK65 hb; replace HB := Sb (Bb1 HB.out GE65.out) hb; clear hb)); try go_wp2_with (first | (go_at_call 76; (with_reducible refine (ih k1 (by have := HK1.out; omega) a0 ((rd_T32 l1_4 x5_1).f0) ((rd_T32 l1_4 x5_1).f1) ((rd_T32 l1_4 x5_1).f2) ((rd_T32 l1_4 x5_1).f3) _ _ ((rd_T32 l1_4 x5_1).f4) false _ ?_ ?_ A6.out).mono ?_); exact Bc (Kd.C_below HR66_4.out HB.out); exact HC286_4.out; rintro e w11 ⟨rfl, hb⟩; replace BK65 := Kb BK65 hb; replace HB := Sb (Bb1 HB.out GE65.out) hb; clear hb)))
      go_ret; exact ⟨Ze, Bb1 HB.out GE65.out⟩
    ·rw [if_neg c5] at H; exact absurd H (by simp)
   ·rw [if_neg c4] at H; replace c4 := decide_eq_false c4; obtain ⟨t73, A12, H⟩ := Ob H; (try dsimp only at H)
    have HC13 := Qa H; clear H; obtain ⟨q14_0, q14_1, q14_2, q14_3, q14_4, u14_0, u14_1, u14_2, u14_3, u14_4⟩ := Cf5 BK65; go_upto_region 7 with (first | (go_at_call 98; (with_reducible refine (spec_l10Uses.calls k1 a1_0 t73 _ A12.out).mono ?_); rintro e w' ⟨rfl, ⟨nd, rfl⟩⟩; (try first | exact ⟨rfl, _, Qb _ _ _⟩ | exact ⟨rfl, _, Eq.trans (Qb _ _ _) (congrArg (Qo _) (Nat.add_assoc _ _ _))⟩)))
    repeat (go_quiet (first | (go_at_call 98; (with_reducible refine (spec_l10Uses.calls k1 a1_0 t73 _ A12.out).mono ?_); rintro e w' ⟨rfl, ⟨nd, rfl⟩⟩; (try first | exact ⟨rfl, _, Qb _ _ _⟩ | exact ⟨rfl, _, Eq.trans (Qb _ _ _) (congrArg (Qo _) (Nat.add_assoc _ _ _))⟩))); go_upto_region 7 with (first | (go_at_call 98; (with_reducible refine (spec_l10Uses.calls k1 a1_0 t73 _ A12.out).mono ?_); rintro e w' ⟨rfl, ⟨nd, rfl⟩⟩; (try first | exact ⟨rfl, _, Qb _ _ _⟩ | exact ⟨rfl, _, Eq.trans (Qb _ _ _) (congrArg (Qo _) (Nat.add_assoc _ _ _))⟩))))
    (try simp only [Act.put, List.setIfInBounds_toArray, List.set_cons_zero, List.set_cons_succ])
    go_cut [7] (fun v7 wc => ∃ (kq : Nat) (x7_12 : Bool), v7 = .bool x7_12 ∧ Aside0 (spec_l10Form.j1 kq a0 t73 x7_12 a1_0 a1_1 a1_2 a1_3 l1_4 = some r) ∧ Aside0 (kq ≤ k1) ∧ Aside0 (wc.heap[gb65]? = some (.cells #[.int .i64 a1_0, .int .i64 a1_1, .int .i64 a1_2, .int .i64 a1_3, (.slice A1_4 l1_4.length c1_4)] 32 (0, 0))) ∧ Aside0 (Below w.heap.size w wc))
    case first =>
     have H := HC13.out; clear HC13; by_cases c15 : a1_0 = 2
     ·rw [if_pos c15] at H; have c15b0 := beq_iff_eq.mpr c15; have c15b1 := bne_eq_false_iff_eq.mpr c15; clear c15; (first | rw [c15b0] | (simp only [i64_w, i32_w]; rw [c15b0]) | skip)
      have H' := Qa H; clear H; obtain ⟨q16_0, q16_1, q16_2, q16_3, q16_4, u16_0, u16_1, u16_2, u16_3, u16_4⟩ := Cf5 BK65; go_wp2; repeat (go_quiet (fail); try go_wp2)
      go_meet
      case rel => exact ⟨_, (true), Zf, H', ⟨by have := HK1.out; first | omega | exact Nat.le_refl _⟩, ⟨Ba BK65.out⟩, ⟨Bb1 HB.out GE65.out⟩⟩
     ·rw [if_neg c15] at H; have c15b0 := beq_eq_false_iff_ne.mpr c15; have c15b1 := bne_iff_ne.mpr c15; (first | rw [c15b0] | (simp only [i64_w, i32_w]; rw [c15b0]) | skip)
      have H' := Qa H; clear H; obtain ⟨q17_0, q17_1, q17_2, q17_3, q17_4, u17_0, u17_1, u17_2, u17_3, u17_4⟩ := Cf5 BK65; go_wp2; repeat (go_quiet (fail); try go_wp2)
      go_meet
      case rel => exact ⟨_, ((a1_0 == 3)), Zf, H', ⟨by have := HK1.out; first | omega | exact Nat.le_refl _⟩, ⟨Ba BK65.out⟩, ⟨Bb1 HB.out GE65.out⟩⟩
    case rest =>
     clear HC13; (try clear c1)
     (try clear c2)
     (try clear p2)
     (try clear q2)
     (try clear hx2)
     (try clear c4)
     (try clear c4)
     (try clear c5)
     (try clear c5)
     (try clear p6)
     (try clear c7)
     (try clear c15)
     (try clear c15b0)
     (try clear c15b1)
     (try clear q10_0)
     (try clear q10_1)
     (try clear q10_2)
     (try clear q10_3)
     (try clear q10_4)
     (try clear q14_0)
     (try clear q14_1)
     (try clear q14_2)
     (try clear q14_3)
     (try clear q14_4)
     (try clear q16_0)
     (try clear q16_1)
     (try clear q16_2)
     (try clear q16_3)
     (try clear q16_4)
     (try clear q17_0)
     (try clear q17_1)
     (try clear q17_2)
     (try clear q17_3)
     (try clear q17_4)
     (try clear q8_0)
     (try clear q8_1)
     (try clear q8_2)
     (try clear q8_3)
     (try clear q8_4)
     (try clear u10_0)
     (try clear u10_1)
     (try clear u10_2)
     (try clear u10_3)
     (try clear u10_4)
     (try clear u14_0)
     (try clear u14_1)
     (try clear u14_2)
     (try clear u14_3)
     (try clear u14_4)
     (try clear u16_0)
     (try clear u16_1)
     (try clear u16_2)
     (try clear u16_3)
     (try clear u16_4)
     (try clear u17_0)
     (try clear u17_1)
     (try clear u17_2)
     (try clear u17_3)
     (try clear u17_4)
     (try clear u8_0)
     (try clear u8_1)
     (try clear u8_2)
     (try clear u8_3)
     (try clear u8_4)
     (try clear hx66_0)
     (try clear hx66_1)
     (try clear hx66_2)
     (try clear hx66_3)
     (try clear hx66_4)
     (try clear p2)
     (try clear p66)
     (try clear q66)
     obtain ⟨kq, x7_12, rfl, HA, HJ12, BK65, HB⟩ := hcut; cases kq with
     | zero => exact absurd HA.out (by simp [spec_l10Form.j1])
     | succ kj12 =>
      have H := HA.out; clear HA; simp only [spec_l10Form.j1] at H; have HC18 := Qa H; clear H; go_upto_region 8 with (fail)
      repeat (go_quiet (fail); go_upto_region 8 with (fail))
      go_cut [72] (fun v72 wc => ∃ (kq : Nat) (x72_17 : Bool), v72 = .bool x72_17 ∧ Aside0 (spec_l10Form.j2 kq x72_17 a1_0 a1_1 a1_2 a1_3 l1_4 = some r) ∧ Aside0 (kq ≤ kj12) ∧ Aside0 (wc.heap[gb65]? = some (.cells #[.int .i64 a1_0, .int .i64 a1_1, .int .i64 a1_2, .int .i64 a1_3, (.slice A1_4 l1_4.length c1_4)] 32 (0, 0))) ∧ Aside0 (Below w.heap.size w wc))
      case first =>
       have H := HC18.out; clear HC18; by_cases c19 : t73 < 1
       ·rw [if_pos c19] at H; replace c19 := decide_eq_true c19; (first | rw [c19] | (simp only [i64_w, i32_w]; rw [c19]) | skip)
        by_cases c20 : a1_2 = 0
        ·rw [if_pos c20] at H; have c20b0 := beq_iff_eq.mpr c20; have c20b1 := bne_eq_false_iff_eq.mpr c20; clear c20; by_cases c21 : t73 < 2
         ·rw [if_pos c21] at H; replace c21 := decide_eq_true c21; by_cases c22 : a1_3 = 0
          ·rw [if_pos c22] at H; have c22b0 := beq_iff_eq.mpr c22; have c22b1 := bne_eq_false_iff_eq.mpr c22; clear c22; by_cases c23 : x7_12 = true
           ·subst c23; rw [if_pos rfl] at H; by_cases c24 : a1_1 < 0
            ·rw [if_pos c24] at H; replace c24 := decide_eq_true c24; have H' := Qa H; clear H; obtain ⟨q25_0, q25_1, q25_2, q25_3, q25_4, u25_0, u25_1, u25_2, u25_3, u25_4⟩ := Cf5 BK65; go_wp2; repeat (go_quiet (fail); try go_wp2)
             go_meet
             case rel => exact ⟨_, (true), Zf, H', ⟨by have := HK1.out; have := HJ12.out; first | omega | exact Nat.le_refl _⟩, ⟨Ba BK65.out⟩, ⟨Bb1 HB.out GE65.out⟩⟩
            ·rw [if_neg c24] at H; replace c24 := decide_eq_false c24; have H' := Qa H; clear H; obtain ⟨q26_0, q26_1, q26_2, q26_3, q26_4, u26_0, u26_1, u26_2, u26_3, u26_4⟩ := Cf5 BK65; go_wp2; repeat (go_quiet (fail); try go_wp2)
             go_meet
             case rel => exact ⟨_, (decide (a1_1 ≥ a0)), Zf, H', ⟨by have := HK1.out; have := HJ12.out; first | omega | exact Nat.le_refl _⟩, ⟨Ba BK65.out⟩, ⟨Bb1 HB.out GE65.out⟩⟩
           ·replace c23 := Bool.eq_false_iff.mpr c23; subst c23; rw [if_neg (show ¬ (false = true) by decide)] at H; by_cases c27 : a1_1 = 0
            ·rw [if_pos c27] at H; have c27b0 := beq_iff_eq.mpr c27; have c27b1 := bne_eq_false_iff_eq.mpr c27; clear c27; have H' := Qa H; clear H; obtain ⟨q28_0, q28_1, q28_2, q28_3, q28_4, u28_0, u28_1, u28_2, u28_3, u28_4⟩ := Cf5 BK65; go_wp2; repeat (go_quiet (fail); try go_wp2)
             go_meet
             case rel => exact ⟨_, (false), Zf, H', ⟨by have := HK1.out; have := HJ12.out; first | omega | exact Nat.le_refl _⟩, ⟨Ba BK65.out⟩, ⟨Bb1 HB.out GE65.out⟩⟩
            ·rw [if_neg c27] at H; have c27b0 := beq_eq_false_iff_ne.mpr c27; have c27b1 := bne_iff_ne.mpr c27; have H' := Qa H; clear H; obtain ⟨q29_0, q29_1, q29_2, q29_3, q29_4, u29_0, u29_1, u29_2, u29_3, u29_4⟩ := Cf5 BK65; go_wp2; repeat (go_quiet (fail); try go_wp2)
             go_meet
             case rel => exact ⟨_, (true), Zf, H', ⟨by have := HK1.out; have := HJ12.out; first | omega | exact Nat.le_refl _⟩, ⟨Ba BK65.out⟩, ⟨Bb1 HB.out GE65.out⟩⟩
          ·rw [if_neg c22] at H; have c22b0 := beq_eq_false_iff_ne.mpr c22; have c22b1 := bne_iff_ne.mpr c22; have H' := Qa H; clear H; obtain ⟨q30_0, q30_1, q30_2, q30_3, q30_4, u30_0, u30_1, u30_2, u30_3, u30_4⟩ := Cf5 BK65; go_wp2; repeat (go_quiet (fail); try go_wp2)
           go_meet
           case rel => exact ⟨_, (true), Zf, H', ⟨by have := HK1.out; have := HJ12.out; first | omega | exact Nat.le_refl _⟩, ⟨Ba BK65.out⟩, ⟨Bb1 HB.out GE65.out⟩⟩
         ·rw [if_neg c21] at H; replace c21 := decide_eq_false c21; by_cases c31 : x7_12 = true
          ·subst c31; rw [if_pos rfl] at H; by_cases c32 : a1_1 < 0
           ·rw [if_pos c32] at H; replace c32 := decide_eq_true c32; have H' := Qa H; clear H; obtain ⟨q33_0, q33_1, q33_2, q33_3, q33_4, u33_0, u33_1, u33_2, u33_3, u33_4⟩ := Cf5 BK65; go_wp2; repeat (go_quiet (fail); try go_wp2)
            go_meet
            case rel => exact ⟨_, (true), Zf, H', ⟨by have := HK1.out; have := HJ12.out; first | omega | exact Nat.le_refl _⟩, ⟨Ba BK65.out⟩, ⟨Bb1 HB.out GE65.out⟩⟩
           ·rw [if_neg c32] at H; replace c32 := decide_eq_false c32; have H' := Qa H; clear H; obtain ⟨q34_0, q34_1, q34_2, q34_3, q34_4, u34_0, u34_1, u34_2, u34_3, u34_4⟩ := Cf5 BK65; go_wp2; repeat (go_quiet (fail); try go_wp2)
            go_meet
            case rel => exact ⟨_, (decide (a1_1 ≥ a0)), Zf, H', ⟨by have := HK1.out; have := HJ12.out; first | omega | exact Nat.le_refl _⟩, ⟨Ba BK65.out⟩, ⟨Bb1 HB.out GE65.out⟩⟩
          ·replace c31 := Bool.eq_false_iff.mpr c31; subst c31; rw [if_neg (show ¬ (false = true) by decide)] at H; by_cases c35 : a1_1 = 0
           ·rw [if_pos c35] at H; have c35b0 := beq_iff_eq.mpr c35; have c35b1 := bne_eq_false_iff_eq.mpr c35; clear c35; have H' := Qa H; clear H; obtain ⟨q36_0, q36_1, q36_2, q36_3, q36_4, u36_0, u36_1, u36_2, u36_3, u36_4⟩ := Cf5 BK65; go_wp2; repeat (go_quiet (fail); try go_wp2)
            go_meet
            case rel => exact ⟨_, (false), Zf, H', ⟨by have := HK1.out; have := HJ12.out; first | omega | exact Nat.le_refl _⟩, ⟨Ba BK65.out⟩, ⟨Bb1 HB.out GE65.out⟩⟩
           ·rw [if_neg c35] at H; have c35b0 := beq_eq_false_iff_ne.mpr c35; have c35b1 := bne_iff_ne.mpr c35; have H' := Qa H; clear H; obtain ⟨q37_0, q37_1, q37_2, q37_3, q37_4, u37_0, u37_1, u37_2, u37_3, u37_4⟩ := Cf5 BK65; go_wp2; repeat (go_quiet (fail); try go_wp2)
            go_meet
            case rel => exact ⟨_, (true), Zf, H', ⟨by have := HK1.out; have := HJ12.out; first | omega | exact Nat.le_refl _⟩, ⟨Ba BK65.out⟩, ⟨Bb1 HB.out GE65.out⟩⟩
        ·rw [if_neg c20] at H; have c20b0 := beq_eq_false_iff_ne.mpr c20; have c20b1 := bne_iff_ne.mpr c20; have H' := Qa H; clear H; obtain ⟨q38_0, q38_1, q38_2, q38_3, q38_4, u38_0, u38_1, u38_2, u38_3, u38_4⟩ := Cf5 BK65; go_wp2; repeat (go_quiet (fail); try go_wp2)
         go_meet
         case rel => exact ⟨_, (true), Zf, H', ⟨by have := HK1.out; have := HJ12.out; first | omega | exact Nat.le_refl _⟩, ⟨Ba BK65.out⟩, ⟨Bb1 HB.out GE65.out⟩⟩
       ·rw [if_neg c19] at H; replace c19 := decide_eq_false c19; (first | rw [c19] | (simp only [i64_w, i32_w]; rw [c19]) | skip)
        by_cases c39 : t73 < 2
        ·rw [if_pos c39] at H; replace c39 := decide_eq_true c39; by_cases c40 : a1_3 = 0
         ·rw [if_pos c40] at H; have c40b0 := beq_iff_eq.mpr c40; have c40b1 := bne_eq_false_iff_eq.mpr c40; clear c40; by_cases c41 : x7_12 = true
          ·subst c41; rw [if_pos rfl] at H; by_cases c42 : a1_1 < 0
           ·rw [if_pos c42] at H; replace c42 := decide_eq_true c42; have H' := Qa H; clear H; obtain ⟨q43_0, q43_1, q43_2, q43_3, q43_4, u43_0, u43_1, u43_2, u43_3, u43_4⟩ := Cf5 BK65; go_wp2; repeat (go_quiet (fail); try go_wp2)
            go_meet
            case rel => exact ⟨_, (true), Zf, H', ⟨by have := HK1.out; have := HJ12.out; first | omega | exact Nat.le_refl _⟩, ⟨Ba BK65.out⟩, ⟨Bb1 HB.out GE65.out⟩⟩
           ·rw [if_neg c42] at H; replace c42 := decide_eq_false c42; have H' := Qa H; clear H; obtain ⟨q44_0, q44_1, q44_2, q44_3, q44_4, u44_0, u44_1, u44_2, u44_3, u44_4⟩ := Cf5 BK65; go_wp2; repeat (go_quiet (fail); try go_wp2)
            go_meet
            case rel => exact ⟨_, (decide (a1_1 ≥ a0)), Zf, H', ⟨by have := HK1.out; have := HJ12.out; first | omega | exact Nat.le_refl _⟩, ⟨Ba BK65.out⟩, ⟨Bb1 HB.out GE65.out⟩⟩
          ·replace c41 := Bool.eq_false_iff.mpr c41; subst c41; rw [if_neg (show ¬ (false = true) by decide)] at H; by_cases c45 : a1_1 = 0
           ·rw [if_pos c45] at H; have c45b0 := beq_iff_eq.mpr c45; have c45b1 := bne_eq_false_iff_eq.mpr c45; clear c45; have H' := Qa H; clear H; obtain ⟨q46_0, q46_1, q46_2, q46_3, q46_4, u46_0, u46_1, u46_2, u46_3, u46_4⟩ := Cf5 BK65; go_wp2; repeat (go_quiet (fail); try go_wp2)
            go_meet
            case rel => exact ⟨_, (false), Zf, H', ⟨by have := HK1.out; have := HJ12.out; first | omega | exact Nat.le_refl _⟩, ⟨Ba BK65.out⟩, ⟨Bb1 HB.out GE65.out⟩⟩
           ·rw [if_neg c45] at H; have c45b0 := beq_eq_false_iff_ne.mpr c45; have c45b1 := bne_iff_ne.mpr c45; have H' := Qa H; clear H; obtain ⟨q47_0, q47_1, q47_2, q47_3, q47_4, u47_0, u47_1, u47_2, u47_3, u47_4⟩ := Cf5 BK65; go_wp2; repeat (go_quiet (fail); try go_wp2)
            go_meet
            case rel => exact ⟨_, (true), Zf, H', ⟨by have := HK1.out; have := HJ12.out; first | omega | exact Nat.le_refl _⟩, ⟨Ba BK65.out⟩, ⟨Bb1 HB.out GE65.out⟩⟩
         ·rw [if_neg c40] at H; have c40b0 := beq_eq_false_iff_ne.mpr c40; have c40b1 := bne_iff_ne.mpr c40; have H' := Qa H; clear H; obtain ⟨q48_0, q48_1, q48_2, q48_3, q48_4, u48_0, u48_1, u48_2, u48_3, u48_4⟩ := Cf5 BK65; go_wp2; repeat (go_quiet (fail); try go_wp2)
          go_meet
          case rel => exact ⟨_, (true), Zf, H', ⟨by have := HK1.out; have := HJ12.out; first | omega | exact Nat.le_refl _⟩, ⟨Ba BK65.out⟩, ⟨Bb1 HB.out GE65.out⟩⟩
        ·rw [if_neg c39] at H; replace c39 := decide_eq_false c39; by_cases c49 : x7_12 = true
         ·subst c49; rw [if_pos rfl] at H; by_cases c50 : a1_1 < 0
          ·rw [if_pos c50] at H; replace c50 := decide_eq_true c50; have H' := Qa H; clear H; obtain ⟨q51_0, q51_1, q51_2, q51_3, q51_4, u51_0, u51_1, u51_2, u51_3, u51_4⟩ := Cf5 BK65; go_wp2; repeat (go_quiet (fail); try go_wp2)
           go_meet
           case rel => exact ⟨_, (true), Zf, H', ⟨by have := HK1.out; have := HJ12.out; first | omega | exact Nat.le_refl _⟩, ⟨Ba BK65.out⟩, ⟨Bb1 HB.out GE65.out⟩⟩
          ·rw [if_neg c50] at H; replace c50 := decide_eq_false c50; have H' := Qa H; clear H; obtain ⟨q52_0, q52_1, q52_2, q52_3, q52_4, u52_0, u52_1, u52_2, u52_3, u52_4⟩ := Cf5 BK65; go_wp2; repeat (go_quiet (fail); try go_wp2)
           go_meet
           case rel => exact ⟨_, (decide (a1_1 ≥ a0)), Zf, H', ⟨by have := HK1.out; have := HJ12.out; first | omega | exact Nat.le_refl _⟩, ⟨Ba BK65.out⟩, ⟨Bb1 HB.out GE65.out⟩⟩
         ·replace c49 := Bool.eq_false_iff.mpr c49; subst c49; rw [if_neg (show ¬ (false = true) by decide)] at H; by_cases c53 : a1_1 = 0
          ·rw [if_pos c53] at H; have c53b0 := beq_iff_eq.mpr c53; have c53b1 := bne_eq_false_iff_eq.mpr c53; clear c53; have H' := Qa H; clear H; obtain ⟨q54_0, q54_1, q54_2, q54_3, q54_4, u54_0, u54_1, u54_2, u54_3, u54_4⟩ := Cf5 BK65; go_wp2; repeat (go_quiet (fail); try go_wp2)
           go_meet
           case rel => exact ⟨_, (false), Zf, H', ⟨by have := HK1.out; have := HJ12.out; first | omega | exact Nat.le_refl _⟩, ⟨Ba BK65.out⟩, ⟨Bb1 HB.out GE65.out⟩⟩
          ·rw [if_neg c53] at H; have c53b0 := beq_eq_false_iff_ne.mpr c53; have c53b1 := bne_iff_ne.mpr c53; have H' := Qa H; clear H; obtain ⟨q55_0, q55_1, q55_2, q55_3, q55_4, u55_0, u55_1, u55_2, u55_3, u55_4⟩ := Cf5 BK65; go_wp2; repeat (go_quiet (fail); try go_wp2)
           go_meet
           case rel => exact ⟨_, (true), Zf, H', ⟨by have := HK1.out; have := HJ12.out; first | omega | exact Nat.le_refl _⟩, ⟨Ba BK65.out⟩, ⟨Bb1 HB.out GE65.out⟩⟩
      case rest =>
       clear HC18; (try clear c1)
       (try clear c2)
       (try clear p2)
       (try clear q2)
       (try clear hx2)
       (try clear c3)
       (try clear c4)
       (try clear c4)
       (try clear c5)
       (try clear c5)
       (try clear p6)
       (try clear c7)
       (try clear c15)
       (try clear c15b0)
       (try clear c15b1)
       (try clear c19)
       (try clear c19)
       (try clear c20)
       (try clear c20b0)
       (try clear c20b1)
       (try clear c21)
       (try clear c21)
       (try clear c22)
       (try clear c22b0)
       (try clear c22b1)
       (try clear c23)
       (try clear c24)
       (try clear c24)
       (try clear c27)
       (try clear c27b0)
       (try clear c27b1)
       (try clear p28)
       (try clear q28)
       (try clear hx28)
       (try clear c31)
       (try clear c32)
       (try clear c32)
       (try clear c35)
       (try clear c35b0)
       (try clear c35b1)
       (try clear c39)
       (try clear c39)
       (try clear c40)
       (try clear c40b0)
       (try clear c40b1)
       (try clear c41)
       (try clear c42)
       (try clear c42)
       (try clear c45)
       (try clear c45b0)
       (try clear c45b1)
       (try clear c49)
       (try clear c50)
       (try clear c50)
       (try clear c53)
       (try clear c53b0)
       (try clear c53b1)
       (try clear q10_0)
       (try clear q10_1)
       (try clear q10_2)
       (try clear q10_3)
       (try clear q10_4)
       (try clear q14_0)
       (try clear q14_1)
       (try clear q14_2)
       (try clear q14_3)
       (try clear q14_4)
       (try clear q16_0)
       (try clear q16_1)
       (try clear q16_2)
       (try clear q16_3)
       (try clear q16_4)
       (try clear q17_0)
       (try clear q17_1)
       (try clear q17_2)
       (try clear q17_3)
       (try clear q17_4)
       (try clear q25_0)
       (try clear q25_1)
       (try clear q25_2)
       (try clear q25_3)
       (try clear q25_4)
       (try clear q26_0)
       (try clear q26_1)
       (try clear q26_2)
       (try clear q26_3)
       (try clear q26_4)
       (try clear q28_0)
       (try clear q28_1)
       (try clear q28_2)
       (try clear q28_3)
       (try clear q28_4)
       (try clear q29_0)
       (try clear q29_1)
       (try clear q29_2)
       (try clear q29_3)
       (try clear q29_4)
       (try clear q30_0)
       (try clear q30_1)
       (try clear q30_2)
       (try clear q30_3)
       (try clear q30_4)
       (try clear q33_0)
       (try clear q33_1)
       (try clear q33_2)
       (try clear q33_3)
       (try clear q33_4)
       (try clear q34_0)
       (try clear q34_1)
       (try clear q34_2)
       (try clear q34_3)
       (try clear q34_4)
       (try clear q36_0)
       (try clear q36_1)
       (try clear q36_2)
       (try clear q36_3)
       (try clear q36_4)
       (try clear q37_0)
       (try clear q37_1)
       (try clear q37_2)
       (try clear q37_3)
       (try clear q37_4)
       (try clear q38_0)
       (try clear q38_1)
       (try clear q38_2)
       (try clear q38_3)
       (try clear q38_4)
       (try clear q43_0)
       (try clear q43_1)
       (try clear q43_2)
       (try clear q43_3)
       (try clear q43_4)
       (try clear q44_0)
       (try clear q44_1)
       (try clear q44_2)
       (try clear q44_3)
       (try clear q44_4)
       (try clear q46_0)
       (try clear q46_1)
       (try clear q46_2)
       (try clear q46_3)
       (try clear q46_4)
       (try clear q47_0)
       (try clear q47_1)
       (try clear q47_2)
       (try clear q47_3)
       (try clear q47_4)
       (try clear q48_0)
       (try clear q48_1)
       (try clear q48_2)
       (try clear q48_3)
       (try clear q48_4)
       (try clear q51_0)
       (try clear q51_1)
       (try clear q51_2)
       (try clear q51_3)
       (try clear q51_4)
       (try clear q52_0)
       (try clear q52_1)
       (try clear q52_2)
       (try clear q52_3)
       (try clear q52_4)
       (try clear q54_0)
       (try clear q54_1)
       (try clear q54_2)
       (try clear q54_3)
       (try clear q54_4)
       (try clear q55_0)
       (try clear q55_1)
       (try clear q55_2)
       (try clear q55_3)
       (try clear q55_4)
       (try clear q8_0)
       (try clear q8_1)
       (try clear q8_2)
       (try clear q8_3)
       (try clear q8_4)
       (try clear u10_0)
       (try clear u10_1)
       (try clear u10_2)
       (try clear u10_3)
       (try clear u10_4)
       (try clear u14_0)
       (try clear u14_1)
       (try clear u14_2)
       (try clear u14_3)
       (try clear u14_4)
       (try clear u16_0)
       (try clear u16_1)
       (try clear u16_2)
       (try clear u16_3)
       (try clear u16_4)
       (try clear u17_0)
       (try clear u17_1)
       (try clear u17_2)
       (try clear u17_3)
       (try clear u17_4)
       (try clear u25_0)
       (try clear u25_1)
       (try clear u25_2)
       (try clear u25_3)
       (try clear u25_4)
       (try clear u26_0)
       (try clear u26_1)
       (try clear u26_2)
       (try clear u26_3)
       (try clear u26_4)
       (try clear u28_0)
       (try clear u28_1)
       (try clear u28_2)
       (try clear u28_3)
       (try clear u28_4)
       (try clear u29_0)
       (try clear u29_1)
       (try clear u29_2)
       (try clear u29_3)
       (try clear u29_4)
       (try clear u30_0)
       (try clear u30_1)
       (try clear u30_2)
       (try clear u30_3)
       (try clear u30_4)
       (try clear u33_0)
       (try clear u33_1)
       (try clear u33_2)
       (try clear u33_3)
       (try clear u33_4)
       (try clear u34_0)
       (try clear u34_1)
       (try clear u34_2)
       (try clear u34_3)
       (try clear u34_4)
       (try clear u36_0)
       (try clear u36_1)
       (try clear u36_2)
       (try clear u36_3)
       (try clear u36_4)
       (try clear u37_0)
       (try clear u37_1)
       (try clear u37_2)
       (try clear u37_3)
       (try clear u37_4)
       (try clear u38_0)
       (try clear u38_1)
       (try clear u38_2)
       (try clear u38_3)
       (try clear u38_4)
       (try clear u43_0)
       (try clear u43_1)
       (try clear u43_2)
       (try clear u43_3)
       (try clear u43_4)
       (try clear u44_0)
       (try clear u44_1)
       (try clear u44_2)
       (try clear u44_3)
       (try clear u44_4)
       (try clear u46_0)
       (try clear u46_1)
       (try clear u46_2)
       (try clear u46_3)
       (try clear u46_4)
       (try clear u47_0)
       (try clear u47_1)
       (try clear u47_2)
       (try clear u47_3)
       (try clear u47_4)
       (try clear u48_0)
       (try clear u48_1)
       (try clear u48_2)
       (try clear u48_3)
       (try clear u48_4)
       (try clear u51_0)
       (try clear u51_1)
       (try clear u51_2)
       (try clear u51_3)
       (try clear u51_4)
       (try clear u52_0)
       (try clear u52_1)
       (try clear u52_2)
       (try clear u52_3)
       (try clear u52_4)
       (try clear u54_0)
       (try clear u54_1)
       (try clear u54_2)
       (try clear u54_3)
       (try clear u54_4)
       (try clear u55_0)
       (try clear u55_1)
       (try clear u55_2)
       (try clear u55_3)
       (try clear u55_4)
       (try clear u8_0)
       (try clear u8_1)
       (try clear u8_2)
       (try clear u8_3)
       (try clear u8_4)
       (try clear hx66_0)
       (try clear hx66_1)
       (try clear hx66_2)
       (try clear hx66_3)
       (try clear hx66_4)
       (try clear p2)
       (try clear p66)
       (try clear p6)
       (try clear q2)
       (try clear q66)
       obtain ⟨kq, x72_17, rfl, HA, HJ17, BK65, HB⟩ := hcut; cases kq with
       | zero => exact absurd HA.out (by simp [spec_l10Form.j2])
       | succ kj17 =>
        have H := HA.out; clear HA; simp only [spec_l10Form.j2] at H; by_cases c56 : x72_17 = true
        ·subst c56; rw [if_pos rfl] at H; obtain rfl := Option.some.inj H; go_wp2; repeat (go_quiet (fail); try go_wp2)
         go_ret; exact ⟨Ze, Bb1 HB.out GE65.out⟩
        ·replace c56 := Bool.eq_false_iff.mpr c56; subst c56; rw [if_neg (show ¬ (false = true) by decide)] at H; obtain ⟨t76, A57, H⟩ := Ob H; (try dsimp only at H)
         by_cases c58 : t76 = true
         ·subst c58; rw [if_pos rfl] at H; obtain ⟨t77, A59, H⟩ := Ob H; (try dsimp only at H)
          by_cases c60 : t77 = true
          ·subst c60; rw [if_pos rfl] at H; obtain ⟨t74, A61, H⟩ := Ob H; (try dsimp only at H)
           obtain rfl := Option.some.inj H; obtain ⟨q62_0, q62_1, q62_2, q62_3, q62_4, u62_0, u62_1, u62_2, u62_3, u62_4⟩ := Cf5 BK65; go_wp2_with (first | (go_at_call 77; (with_reducible refine (spec_l1In.calls a1_2 0 3 true _ A57.out).mono ?_); rintro e w' ⟨rfl, ⟨nd, rfl⟩⟩; (try first | exact ⟨rfl, _, Qb _ _ _⟩ | exact ⟨rfl, _, Eq.trans (Qb _ _ _) (congrArg (Qo _) (Nat.add_assoc _ _ _))⟩)) | (go_at_call 77; (with_reducible refine (spec_l1In.calls a1_3 0 3 true _ A59.out).mono ?_); rintro e w' ⟨rfl, ⟨nd, rfl⟩⟩; (try first | exact ⟨rfl, _, Qb _ _ _⟩ | exact ⟨rfl, _, Eq.trans (Qb _ _ _) (congrArg (Qo _) (Nat.add_assoc _ _ _))⟩)) | (go_at_call 41; (with_reducible refine (spec_ArityOf.calls kj17 a1_0 t74 _ A61.out).mono ?_); rintro e w' ⟨rfl, ⟨nd, rfl⟩⟩; (try first | exact ⟨rfl, _, Qb _ _ _⟩ | exact ⟨rfl, _, Eq.trans (Qb _ _ _) (congrArg (Qo _) (Nat.add_assoc _ _ _))⟩))); repeat (go_quiet (first | (go_at_call 77; (with_reducible refine (spec_l1In.calls a1_2 0 3 true _ A57.out).mono ?_); rintro e w' ⟨rfl, ⟨nd, rfl⟩⟩; (try first | exact ⟨rfl, _, Qb _ _ _⟩ | exact ⟨rfl, _, Eq.trans (Qb _ _ _) (congrArg (Qo _) (Nat.add_assoc _ _ _))⟩)) | (go_at_call 77; (with_reducible refine (spec_l1In.calls a1_3 0 3 true _ A59.out).mono ?_); rintro e w' ⟨rfl, ⟨nd, rfl⟩⟩; (try first | exact ⟨rfl, _, Qb _ _ _⟩ | exact ⟨rfl, _, Eq.trans (Qb _ _ _) (congrArg (Qo _) (Nat.add_assoc _ _ _))⟩)) | (go_at_call 41; (with_reducible refine (spec_ArityOf.calls kj17 a1_0 t74 _ A61.out).mono ?_); rintro e w' ⟨rfl, ⟨nd, rfl⟩⟩; (try first | exact ⟨rfl, _, Qb _ _ _⟩ | exact ⟨rfl, _, Eq.trans (Qb _ _ _) (congrArg (Qo _) (Nat.add_assoc _ _ _))⟩))); try go_wp2_with (first | (go_at_call 77; (with_reducible refine (spec_l1In.calls a1_2 0 3 true _ A57.out).mono ?_); rintro e w' ⟨rfl, ⟨nd, rfl⟩⟩; (try first | exact ⟨rfl, _, Qb _ _ _⟩ | exact ⟨rfl, _, Eq.trans (Qb _ _ _) (congrArg (Qo _) (Nat.add_assoc _ _ _))⟩)) | (go_at_call 77; (with_reducible refine (spec_l1In.calls a1_3 0 3 true _ A59.out).mono ?_); rintro e w' ⟨rfl, ⟨nd, rfl⟩⟩; (try first | exact ⟨rfl, _, Qb _ _ _⟩ | exact ⟨rfl, _, Eq.trans (Qb _ _ _) (congrArg (Qo _) (Nat.add_assoc _ _ _))⟩)) | (go_at_call 41; (with_reducible refine (spec_ArityOf.calls kj17 a1_0 t74 _ A61.out).mono ?_); rintro e w' ⟨rfl, ⟨nd, rfl⟩⟩; (try first | exact ⟨rfl, _, Qb _ _ _⟩ | exact ⟨rfl, _, Eq.trans (Qb _ _ _) (congrArg (Qo _) (Nat.add_assoc _ _ _))⟩))))
           go_ret; exact ⟨Ze, Bb1 HB.out GE65.out⟩
          ·replace c60 := Bool.eq_false_iff.mpr c60; subst c60; rw [if_neg (show ¬ (false = true) by decide)] at H; obtain rfl := Option.some.inj H; obtain ⟨q63_0, q63_1, q63_2, q63_3, q63_4, u63_0, u63_1, u63_2, u63_3, u63_4⟩ := Cf5 BK65; go_wp2_with (first | (go_at_call 77; (with_reducible refine (spec_l1In.calls a1_2 0 3 true _ A57.out).mono ?_); rintro e w' ⟨rfl, ⟨nd, rfl⟩⟩; (try first | exact ⟨rfl, _, Qb _ _ _⟩ | exact ⟨rfl, _, Eq.trans (Qb _ _ _) (congrArg (Qo _) (Nat.add_assoc _ _ _))⟩)) | (go_at_call 77; (with_reducible refine (spec_l1In.calls a1_3 0 3 false _ A59.out).mono ?_); rintro e w' ⟨rfl, ⟨nd, rfl⟩⟩; (try first | exact ⟨rfl, _, Qb _ _ _⟩ | exact ⟨rfl, _, Eq.trans (Qb _ _ _) (congrArg (Qo _) (Nat.add_assoc _ _ _))⟩))); repeat (go_quiet (first | (go_at_call 77; (with_reducible refine (spec_l1In.calls a1_2 0 3 true _ A57.out).mono ?_); rintro e w' ⟨rfl, ⟨nd, rfl⟩⟩; (try first | exact ⟨rfl, _, Qb _ _ _⟩ | exact ⟨rfl, _, Eq.trans (Qb _ _ _) (congrArg (Qo _) (Nat.add_assoc _ _ _))⟩)) | (go_at_call 77; (with_reducible refine (spec_l1In.calls a1_3 0 3 false _ A59.out).mono ?_); rintro e w' ⟨rfl, ⟨nd, rfl⟩⟩; (try first | exact ⟨rfl, _, Qb _ _ _⟩ | exact ⟨rfl, _, Eq.trans (Qb _ _ _) (congrArg (Qo _) (Nat.add_assoc _ _ _))⟩))); try go_wp2_with (first | (go_at_call 77; (with_reducible refine (spec_l1In.calls a1_2 0 3 true _ A57.out).mono ?_); rintro e w' ⟨rfl, ⟨nd, rfl⟩⟩; (try first | exact ⟨rfl, _, Qb _ _ _⟩ | exact ⟨rfl, _, Eq.trans (Qb _ _ _) (congrArg (Qo _) (Nat.add_assoc _ _ _))⟩)) | (go_at_call 77; (with_reducible refine (spec_l1In.calls a1_3 0 3 false _ A59.out).mono ?_); rintro e w' ⟨rfl, ⟨nd, rfl⟩⟩; (try first | exact ⟨rfl, _, Qb _ _ _⟩ | exact ⟨rfl, _, Eq.trans (Qb _ _ _) (congrArg (Qo _) (Nat.add_assoc _ _ _))⟩))))
           go_ret; exact ⟨Ze, Bb1 HB.out GE65.out⟩
         ·replace c58 := Bool.eq_false_iff.mpr c58; subst c58; rw [if_neg (show ¬ (false = true) by decide)] at H; obtain rfl := Option.some.inj H; obtain ⟨q64_0, q64_1, q64_2, q64_3, q64_4, u64_0, u64_1, u64_2, u64_3, u64_4⟩ := Cf5 BK65; go_wp2_with (first | (go_at_call 77; (with_reducible refine (spec_l1In.calls a1_2 0 3 false _ A57.out).mono ?_); rintro e w' ⟨rfl, ⟨nd, rfl⟩⟩; (try first | exact ⟨rfl, _, Qb _ _ _⟩ | exact ⟨rfl, _, Eq.trans (Qb _ _ _) (congrArg (Qo _) (Nat.add_assoc _ _ _))⟩))); repeat (go_quiet (first | (go_at_call 77; (with_reducible refine (spec_l1In.calls a1_2 0 3 false _ A57.out).mono ?_); rintro e w' ⟨rfl, ⟨nd, rfl⟩⟩; (try first | exact ⟨rfl, _, Qb _ _ _⟩ | exact ⟨rfl, _, Eq.trans (Qb _ _ _) (congrArg (Qo _) (Nat.add_assoc _ _ _))⟩))); try go_wp2_with (first | (go_at_call 77; (with_reducible refine (spec_l1In.calls a1_2 0 3 false _ A57.out).mono ?_); rintro e w' ⟨rfl, ⟨nd, rfl⟩⟩; (try first | exact ⟨rfl, _, Qb _ _ _⟩ | exact ⟨rfl, _, Eq.trans (Qb _ _ _) (congrArg (Qo _) (Nat.add_assoc _ _ _))⟩))))
          go_ret; exact ⟨Ze, Bb1 HB.out GE65.out⟩
end Go.Proofs.Ytoljagpjejpmpaa.PFnExactParseFormula
