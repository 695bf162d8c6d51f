/- A part of the walk through the printed functions; no condition. -/
import Derived.Test.YtndkkpjofddfjaaGreatDoorXAuto
import Derived.Test.YtndkkpjofddfjaaGreatDoorPFnExactParseProgramx0
import Derived.Test.YtndkkpjofddfjaaGreatDoorPFnExactParseProgramx1
import Derived.Test.YtndkkpjofddfjaaGreatDoorPFnExactParseProgramx2
namespace Go.Proofs.YtndkkpjofddfjaaGreatDoor.PFnExactParseProgram
open Go.RowKit Go.Proofs.YtndkkpjofddfjaaGreatDoorW.PrintWords Go.Proofs.YtndkkpjofddfjaaGreatDoorW.PrintLast Go.Proofs.YtndkkpjofddfjaaGreatDoorW.PrintMore
attribute [local go_sem] max2_int min2_int max_two min_two max_three min_three max_four min_four
set_option maxHeartbeats 32000000
set_option maxRecDepth 100000
attribute [local irreducible] Go.World.setCell
set_option linter.unusedVariables false
set_option linter.unusedSimpArgs false
open Go.Proofs.YtndkkpjofddfjaaGreatDoorW.PrintWords.Aside0 renaming mk → Qa
open Go.RowKit renaming wrap64 → Qb, Below → Qv
open Go.Proofs.YtndkkpjofddfjaaGreatDoorW.PrintWords renaming gate_callee → Qd, Aside0 → Qe, gate_dst → Ql
open Go.Proofs.YtndkkpjofddfjaaGreatDoorW.PrintWords.Kd renaming string → Qf, at_string → Qg, C_below → Qk
def spec_IsStmt.j0 : Nat → List ByteArray → Int → Bool → Int → ByteArray → ByteArray → Option (Bool)
 | 0, _, _, _, _, _, _ => none
 | k + 1, x0, x5, x33, x75, x69, x66 => if x33 = true then (some false) else (if x5 < 1 then (if x5 < 2 then (some true) else ((spec_IndexOf.f k x0 x66).bind fun t57 => (some (decide (t57 ≥ 0))))) else ((spec_IndexOf.f k x0 x69).bind fun t54 => (if t54 ≥ 0 then (if x5 < 2 then (some true) else ((spec_IndexOf.f k x0 x66).bind fun t58 => (some (decide (t58 ≥ 0))))) else (some false))))
def spec_IsStmt.f (k : Nat) (l0 : List ByteArray) (a1_0 : Int) (a1_1 : ByteArray) (a1_2 : ByteArray) : Option (Bool) := (spec_NamesOf.f k a1_0).bind fun t44 => ((spec_AreVars.f k l0).bind fun t55 => (if t55 = true then (if t44 < 0 then (spec_IsStmt.j0 k l0 t44 true a1_0 a1_1 a1_2) else (if t44 < 1 then (if a1_1.toList = ([] : List UInt8) then (if t44 < 2 then (spec_IsStmt.j0 k l0 t44 (a1_2.toList != ([] : List UInt8)) a1_0 a1_1 a1_2) else (spec_IsStmt.j0 k l0 t44 false a1_0 a1_1 a1_2)) else (spec_IsStmt.j0 k l0 t44 true a1_0 a1_1 a1_2)) else (if t44 < 2 then (spec_IsStmt.j0 k l0 t44 (a1_2.toList != ([] : List UInt8)) a1_0 a1_1 a1_2) else (spec_IsStmt.j0 k l0 t44 false a1_0 a1_1 a1_2)))) else (spec_IsStmt.j0 k l0 t44 true a1_0 a1_1 a1_2)))
theorem spec_IsStmt.mono_l : ∀ k, (∀ y0 y1 y2 y3 y4 y5, LeO (spec_IsStmt.j0 k y0 y1 y2 y3 y4 y5) (spec_IsStmt.j0 (k + 1) y0 y1 y2 y3 y4 y5))
 | 0 => fun _ _ _ _ _ _ r h => by simp [spec_IsStmt.j0] at h
 | k + 1 => by
  have ih0 := spec_IsStmt.mono_l k
  ·intro y0 y1 y2 y3 y4 y5; unfold spec_IsStmt.j0; exact Lm4 ih0 spec_AreVars.mono spec_IndexOf.mono spec_NamesOf.mono
theorem spec_IsStmt.mono : ∀ a0 a1 a2 a3 k, LeO (spec_IsStmt.f k a0 a1 a2 a3) (spec_IsStmt.f (k + 1) a0 a1 a2 a3) := by
 intro a0 a1 a2 a3 k
 have ih0 := spec_IsStmt.mono_l k
 unfold spec_IsStmt.f
 exact Lm4 ih0 spec_AreVars.mono spec_IndexOf.mono spec_NamesOf.mono
theorem spec_IsStmt.calls (k : Nat) (A0 : Option Addr) (c0 : Nat) (l0 : List ByteArray) (a1_0 : Int) (a1_1 : ByteArray) (a1_2 : ByteArray) (r : Bool) (w : World) (hr0 : Kd.C Qf w A0 l0.length l0) (hc0 : l0.length ≤ c0) (h : spec_IsStmt.f k l0 a1_0 a1_1 a1_2 = some r) :
  Calls Tryz.prog 58 #[.slice A0 l0.length c0, .agg #[.int .i64 a1_0, .string a1_1, .string a1_2]] w fun e w' => e = .returned (.bool r) ∧ Qv w.heap.size w w' := by
 have hu50 := Tryz.underlying50
 have HR0 := Qa hr0
 have HC0 := Qa hc0
 clear hr0 hc0
 have HB := Qa (Below.refl w.heap.size w)
 have H : ((spec_NamesOf.f k a1_0).bind fun t44 => ((spec_AreVars.f k l0).bind fun t55 => (if t55 = true then (if t44 < 0 then (spec_IsStmt.j0 k l0 t44 true a1_0 a1_1 a1_2) else (if t44 < 1 then (if a1_1.toList = ([] : List UInt8) then (if t44 < 2 then (spec_IsStmt.j0 k l0 t44 (a1_2.toList != ([] : List UInt8)) a1_0 a1_1 a1_2) else (spec_IsStmt.j0 k l0 t44 false a1_0 a1_1 a1_2)) else (spec_IsStmt.j0 k l0 t44 true a1_0 a1_1 a1_2)) else (if t44 < 2 then (spec_IsStmt.j0 k l0 t44 (a1_2.toList != ([] : List UInt8)) a1_0 a1_1 a1_2) else (spec_IsStmt.j0 k l0 t44 false a1_0 a1_1 a1_2)))) else (spec_IsStmt.j0 k l0 t44 true a1_0 a1_1 a1_2)))) = some r := h
 clear h
 obtain ⟨t44, A3, H⟩ := Ob H
 (try dsimp only at H)
 have HC4 := Qa H
 clear H
 go_enter Tryz.func58, Tryz.ntmps58
 go_upto_region 2 with (first | ((with_reducible refine Ql (N := 3) rfl ?_); refine Bx (N := 3) (cs := #[.int .i64 a1_0, .string a1_1, .string a1_2]) (t := 50) ?_; intro gb43 hg w5 hbox hb; have BK43 := Qa (hbox); have GW43 := Gs (w := w) hg (Bb0 HB.out); have GE43 := GW43; replace HB := Sb (Bb0 HB.out) hb; clear hb hbox hg; obtain ⟨q6_0, q6_1, q6_2, u6_0, u6_1, u6_2⟩ := Cf3 BK43) | ((with_reducible refine Qd (f := 68) rfl ?_); refine Gl 8 Tryz.func68 #[.int .i64 a1_0] ?_; (with_reducible refine (spec_NamesOf.calls k a1_0 t44 _ A3.out).mono ?_); rintro e w' ⟨rfl, ⟨nd, rfl⟩⟩; refine ⟨_, rfl, ?_⟩))
 (try simp only [Act.put, List.setIfInBounds_toArray, List.set_cons_zero, List.set_cons_succ])
 go_cut [33] (fun v33 wc => ∃ (kq : Nat) (x33_3 : Bool), v33 = .bool x33_3 ∧ Qe (spec_IsStmt.j0 kq l0 t44 x33_3 a1_0 a1_1 a1_2 = some r) ∧ Qe (kq ≤ k) ∧ Qe (wc.heap[gb43]? = some (.cells #[.int .i64 a1_0, .string a1_1, .string a1_2] 50 (0, 0))) ∧ Qe (Qv w.heap.size w wc))
 case first =>
  have H := HC4.out; clear HC4; obtain ⟨t55, A7, H⟩ := Ob H; (try dsimp only at H)
  by_cases c8 : t55 = true
  ·subst c8; rw [if_pos rfl] at H; by_cases c9 : t44 < 0
   ·rw [if_pos c9] at H; replace c9 := decide_eq_true c9; (first | rw [c9] | (simp only [i64_w, i32_w]; rw [c9]) | skip)
    have H' := Qa H; clear H; go_wp2_with (first | ((with_reducible refine Qd (f := 59) rfl ?_); refine Gl 10 Tryz.func59 #[.slice A0 l0.length c0] ?_; (with_reducible refine (spec_AreVars.calls k _ _ l0 true _ ?side1 ?side2 A7.out).mono ?_); (case side1 => exact Bc (Qk HR0.out HB.out)); (case side2 => exact HC0.out); rintro e w' ⟨rfl, ⟨nd, rfl⟩⟩; refine ⟨_, rfl, ?_⟩)); go_meet
    case rel => exact ⟨_, (true), Zf, H', ⟨by first | omega | exact Nat.le_refl _⟩, ⟨Ba BK43.out⟩, ⟨Bb1 HB.out GE43.out⟩⟩
   ·rw [if_neg c9] at H; replace c9 := decide_eq_false c9; (first | rw [c9] | (simp only [i64_w, i32_w]; rw [c9]) | skip)
    by_cases c10 : t44 < 1
    ·rw [if_pos c10] at H; replace c10 := decide_eq_true c10; by_cases c11 : a1_1.toList = ([] : List UInt8)
     ·rw [if_pos c11] at H; have c11b0 := beq_iff_eq.mpr c11; have c11b1 := bne_eq_false_iff_eq.mpr c11; clear c11; by_cases c12 : t44 < 2
      ·rw [if_pos c12] at H; replace c12 := decide_eq_true c12; have H' := Qa H; clear H; go_wp2_with (first | ((with_reducible refine Qd (f := 59) rfl ?_); refine Gl 10 Tryz.func59 #[.slice A0 l0.length c0] ?_; (with_reducible refine (spec_AreVars.calls k _ _ l0 true _ ?side1 ?side2 A7.out).mono ?_); (case side1 => exact Bc (Qk HR0.out HB.out)); (case side2 => exact HC0.out); rintro e w' ⟨rfl, ⟨nd, rfl⟩⟩; refine ⟨_, rfl, ?_⟩; obtain ⟨q13_0, q13_1, q13_2, u13_0, u13_1, u13_2⟩ := Cf3 BK43)); go_meet
       case rel => exact ⟨_, ((a1_2.toList != ([] : List UInt8))), Zf, H', ⟨by first | omega | exact Nat.le_refl _⟩, ⟨Ba BK43.out⟩, ⟨Bb1 HB.out GE43.out⟩⟩
      ·rw [if_neg c12] at H; replace c12 := decide_eq_false c12; have H' := Qa H; clear H; go_wp2_with (first | ((with_reducible refine Qd (f := 59) rfl ?_); refine Gl 10 Tryz.func59 #[.slice A0 l0.length c0] ?_; (with_reducible refine (spec_AreVars.calls k _ _ l0 true _ ?side1 ?side2 A7.out).mono ?_); (case side1 => exact Bc (Qk HR0.out HB.out)); (case side2 => exact HC0.out); rintro e w' ⟨rfl, ⟨nd, rfl⟩⟩; refine ⟨_, rfl, ?_⟩; obtain ⟨q14_0, q14_1, q14_2, u14_0, u14_1, u14_2⟩ := Cf3 BK43)); go_meet
       case rel => exact ⟨_, (false), Zf, H', ⟨by first | omega | exact Nat.le_refl _⟩, ⟨Ba BK43.out⟩, ⟨Bb1 HB.out GE43.out⟩⟩
     ·rw [if_neg c11] at H; have c11b0 := beq_eq_false_iff_ne.mpr c11; have c11b1 := bne_iff_ne.mpr c11; have H' := Qa H; clear H; go_wp2_with (first | ((with_reducible refine Qd (f := 59) rfl ?_); refine Gl 10 Tryz.func59 #[.slice A0 l0.length c0] ?_; (with_reducible refine (spec_AreVars.calls k _ _ l0 true _ ?side1 ?side2 A7.out).mono ?_); (case side1 => exact Bc (Qk HR0.out HB.out)); (case side2 => exact HC0.out); rintro e w' ⟨rfl, ⟨nd, rfl⟩⟩; refine ⟨_, rfl, ?_⟩; obtain ⟨q15_0, q15_1, q15_2, u15_0, u15_1, u15_2⟩ := Cf3 BK43)); go_meet
      case rel => exact ⟨_, (true), Zf, H', ⟨by first | omega | exact Nat.le_refl _⟩, ⟨Ba BK43.out⟩, ⟨Bb1 HB.out GE43.out⟩⟩
    ·rw [if_neg c10] at H; replace c10 := decide_eq_false c10; by_cases c16 : t44 < 2
     ·rw [if_pos c16] at H; replace c16 := decide_eq_true c16; have H' := Qa H; clear H; go_wp2_with (first | ((with_reducible refine Qd (f := 59) rfl ?_); refine Gl 10 Tryz.func59 #[.slice A0 l0.length c0] ?_; (with_reducible refine (spec_AreVars.calls k _ _ l0 true _ ?side1 ?side2 A7.out).mono ?_); (case side1 => exact Bc (Qk HR0.out HB.out)); (case side2 => exact HC0.out); rintro e w' ⟨rfl, ⟨nd, rfl⟩⟩; refine ⟨_, rfl, ?_⟩; obtain ⟨q17_0, q17_1, q17_2, u17_0, u17_1, u17_2⟩ := Cf3 BK43)); go_meet
      case rel => exact ⟨_, ((a1_2.toList != ([] : List UInt8))), Zf, H', ⟨by first | omega | exact Nat.le_refl _⟩, ⟨Ba BK43.out⟩, ⟨Bb1 HB.out GE43.out⟩⟩
     ·rw [if_neg c16] at H; replace c16 := decide_eq_false c16; have H' := Qa H; clear H; go_wp2_with (first | ((with_reducible refine Qd (f := 59) rfl ?_); refine Gl 10 Tryz.func59 #[.slice A0 l0.length c0] ?_; (with_reducible refine (spec_AreVars.calls k _ _ l0 true _ ?side1 ?side2 A7.out).mono ?_); (case side1 => exact Bc (Qk HR0.out HB.out)); (case side2 => exact HC0.out); rintro e w' ⟨rfl, ⟨nd, rfl⟩⟩; refine ⟨_, rfl, ?_⟩)); go_meet
      case rel => exact ⟨_, (false), Zf, H', ⟨by first | omega | exact Nat.le_refl _⟩, ⟨Ba BK43.out⟩, ⟨Bb1 HB.out GE43.out⟩⟩
  ·replace c8 := Bool.eq_false_iff.mpr c8; subst c8; rw [if_neg (show ¬ (false = true) by decide)] at H; have H' := Qa H; clear H; go_wp2_with (first | ((with_reducible refine Qd (f := 59) rfl ?_); refine Gl 10 Tryz.func59 #[.slice A0 l0.length c0] ?_; (with_reducible refine (spec_AreVars.calls k _ _ l0 false _ ?side1 ?side2 A7.out).mono ?_); (case side1 => exact Bc (Qk HR0.out HB.out)); (case side2 => exact HC0.out); rintro e w' ⟨rfl, ⟨nd, rfl⟩⟩; refine ⟨_, rfl, ?_⟩)); go_meet
   case rel => exact ⟨_, (true), Zf, H', ⟨by first | omega | exact Nat.le_refl _⟩, ⟨Ba BK43.out⟩, ⟨Bb1 HB.out GE43.out⟩⟩
 case rest =>
  clear HC4; (try clear c1)
  (try clear p2)
  (try clear c5)
  (try clear c6)
  (try clear c8)
  (try clear c9)
  (try clear c9)
  (try clear c10)
  (try clear c10)
  (try clear c11)
  (try clear c11b0)
  (try clear c11b1)
  (try clear c12)
  (try clear c12)
  (try clear c16)
  (try clear c16)
  (try clear q13_0)
  (try clear q13_1)
  (try clear q13_2)
  (try clear q14_0)
  (try clear q14_1)
  (try clear q14_2)
  (try clear q15_0)
  (try clear q15_1)
  (try clear q15_2)
  (try clear q17_0)
  (try clear q17_1)
  (try clear q17_2)
  (try clear q6_0)
  (try clear q6_1)
  (try clear q6_2)
  (try clear u13_0)
  (try clear u13_1)
  (try clear u13_2)
  (try clear u14_0)
  (try clear u14_1)
  (try clear u14_2)
  (try clear u15_0)
  (try clear u15_1)
  (try clear u15_2)
  (try clear u17_0)
  (try clear u17_1)
  (try clear u17_2)
  (try clear u6_0)
  (try clear u6_1)
  (try clear u6_2)
  obtain ⟨kq, x33_3, rfl, HA, HJ3, BK43, HB⟩ := hcut; cases kq with
  | zero => exact absurd HA.out (by simp [spec_IsStmt.j0])
  | succ kj3 =>
   have H := HA.out; clear HA; simp only [spec_IsStmt.j0] at H; by_cases c18 : x33_3 = true
   ·subst c18; rw [if_pos rfl] at H; obtain rfl := Option.some.inj H; go_wp2; go_ret; exact ⟨Ze, Bb1 HB.out GE43.out⟩
   ·replace c18 := Bool.eq_false_iff.mpr c18; subst c18; rw [if_neg (show ¬ (false = true) by decide)] at H; by_cases c19 : t44 < 1
    ·rw [if_pos c19] at H; replace c19 := decide_eq_true c19; by_cases c20 : t44 < 2
     ·rw [if_pos c20] at H; replace c20 := decide_eq_true c20; obtain rfl := Option.some.inj H; go_wp2; go_ret; exact ⟨Ze, Bb1 HB.out GE43.out⟩
     ·rw [if_neg c20] at H; replace c20 := decide_eq_false c20; obtain ⟨t57, A21, H⟩ := Ob H; (try dsimp only at H)
      obtain rfl := Option.some.inj H; obtain ⟨q22_0, q22_1, q22_2, u22_0, u22_1, u22_2⟩ := Cf3 BK43; go_wp2_with (first | (go_at_call 91; (with_reducible refine (spec_IndexOf.calls kj3 _ _ l0 a1_2 t57 _ ?side1 ?side2 A21.out).mono ?_); (case side1 => exact Bc (Qk HR0.out HB.out)); (case side2 => exact HC0.out); rintro e w' ⟨rfl, ⟨nd, rfl⟩⟩)); go_ret; exact ⟨Ze, Bb1 HB.out GE43.out⟩
    ·rw [if_neg c19] at H; replace c19 := decide_eq_false c19; obtain ⟨t54, A23, H⟩ := Ob H; (try dsimp only at H)
     by_cases c24 : t54 ≥ 0
     ·rw [if_pos c24] at H; replace c24 := decide_eq_true c24; by_cases c25 : t44 < 2
      ·rw [if_pos c25] at H; replace c25 := decide_eq_true c25; obtain rfl := Option.some.inj H; obtain ⟨q26_0, q26_1, q26_2, u26_0, u26_1, u26_2⟩ := Cf3 BK43; go_wp2_with (first | (go_at_call 91; (with_reducible refine (spec_IndexOf.calls kj3 _ _ l0 a1_1 t54 _ ?side1 ?side2 A23.out).mono ?_); (case side1 => exact Bc (Qk HR0.out HB.out)); (case side2 => exact HC0.out); rintro e w' ⟨rfl, ⟨nd, rfl⟩⟩)); go_ret; exact ⟨Ze, Bb1 HB.out GE43.out⟩
      ·rw [if_neg c25] at H; replace c25 := decide_eq_false c25; obtain ⟨t58, A27, H⟩ := Ob H; (try dsimp only at H)
       obtain rfl := Option.some.inj H; obtain ⟨q28_0, q28_1, q28_2, u28_0, u28_1, u28_2⟩ := Cf3 BK43; go_wp2_with (first | (go_at_call 91; (with_reducible refine (spec_IndexOf.calls kj3 _ _ l0 a1_1 t54 _ ?side1 ?side2 A23.out).mono ?_); (case side1 => exact Bc (Qk HR0.out HB.out)); (case side2 => exact HC0.out); rintro e w' ⟨rfl, ⟨nd, rfl⟩⟩) | (go_at_call 91; (with_reducible refine (spec_IndexOf.calls kj3 _ _ l0 a1_2 t58 _ ?side1 ?side2 A27.out).mono ?_); (case side1 => exact Bc (Qk HR0.out (Bb1 HB.out GE43.out))); (case side2 => exact HC0.out); rintro e w' ⟨rfl, ⟨nd, rfl⟩⟩)); go_ret; exact ⟨Ze, Bb1 HB.out GE43.out⟩
     ·rw [if_neg c24] at H; replace c24 := decide_eq_false c24; obtain rfl := Option.some.inj H; obtain ⟨q29_0, q29_1, q29_2, u29_0, u29_1, u29_2⟩ := Cf3 BK43; go_wp2_with (first | (go_at_call 91; (with_reducible refine (spec_IndexOf.calls kj3 _ _ l0 a1_1 t54 _ ?side1 ?side2 A23.out).mono ?_); (case side1 => exact Bc (Qk HR0.out HB.out)); (case side2 => exact HC0.out); rintro e w' ⟨rfl, ⟨nd, rfl⟩⟩)); go_ret; exact ⟨Ze, Bb1 HB.out GE43.out⟩
def spec_IsProgram.l0 : Nat → Int → List ByteArray → Int → List (S52) → Option (Bool)
 | 0, _, _, _, _ => none
 | k + 1, x3, x59, x56, x53 => if x3 < (x53.length : Int) then (if 0 ≤ x3 then ((spec_l1In.f ((rd_T52 x53 x3).f0) 0 (Qb (x56 - 1))).bind fun t60 => (if t60 = true then ((spec_l1In.f ((rd_T52 x53 x3).f1) 0 (Qb (x56 - 1))).bind fun t61 => (if t61 = true then ((spec_IsStmt.f k x59 ((rd_T52 x53 x3).f2.f0) ((rd_T52 x53 x3).f2.f1) ((rd_T52 x53 x3).f2.f2)).bind fun t62 => (if t62 = true then (spec_IsProgram.l0 k (Qb (x3 + 1)) x59 x56 x53) else (some false))) else (some false))) else (some false))) else (none)) else ((spec_AreVars.f k x59).bind fun t63 => (if t63 = true then ((spec_l1In.f x56 1 12).bind fun t65 => (if t65 = true then (some (decide ((x53.length : Int) ≤ 24))) else (some false))) else (some false)))
def spec_IsProgram.f (k : Nat) (l0_0 : List ByteArray) (a0_1 : Int) (l0_2 : List (S52)) : Option (Bool) := spec_IsProgram.l0 k 0 l0_0 a0_1 l0_2
theorem spec_IsProgram.mono_l : ∀ k, (∀ y0 y1 y2 y3, LeO (spec_IsProgram.l0 k y0 y1 y2 y3) (spec_IsProgram.l0 (k + 1) y0 y1 y2 y3))
 | 0 => fun _ _ _ _ r h => by simp [spec_IsProgram.l0] at h
 | k + 1 => by
  have ih0 := spec_IsProgram.mono_l k
  ·intro y0 y1 y2 y3; unfold spec_IsProgram.l0; exact Lm3 ih0 spec_AreVars.mono spec_IsStmt.mono
theorem spec_IsProgram.mono : ∀ a0 a1 a2 k, LeO (spec_IsProgram.f k a0 a1 a2) (spec_IsProgram.f (k + 1) a0 a1 a2) := by
 intro a0 a1 a2 k
 have ih0 := spec_IsProgram.mono_l k
 unfold spec_IsProgram.f
 exact Lm3 ih0 spec_AreVars.mono spec_IsStmt.mono
theorem spec_IsProgram.calls (k : Nat) (A0_0 : Option Addr) (c0_0 : Nat) (l0_0 : List ByteArray) (a0_1 : Int) (A0_2 : Option Addr) (c0_2 : Nat) (l0_2 : List (S52)) (r : Bool) (w : World) (hr0_0 : Kd.C Qf w A0_0 l0_0.length l0_0) (hc0_0 : l0_0.length ≤ c0_0) (hr0_2 : Kd.C k52 w A0_2 l0_2.length l0_2) (hc0_2 : l0_2.length ≤ c0_2) (h : spec_IsProgram.f k l0_0 a0_1 l0_2 = some r) :
  Calls Tryz.prog 18 #[.agg #[.slice A0_0 l0_0.length c0_0, .int .i64 a0_1, .slice A0_2 l0_2.length c0_2]] w fun e w' => e = .returned (.bool r) ∧ Qv w.heap.size w w' := by
 have hu30 := Tryz.underlying30
 have hu52 := Tryz.underlying52
 have hu50 := Tryz.underlying50
 have HR0_0 := Qa hr0_0
 have HC0_0 := Qa hc0_0
 clear hr0_0 hc0_0
 have HR0_2 := Qa hr0_2
 have HC0_2 := Qa hc0_2
 clear hr0_2 hc0_2
 have HB := Qa (Below.refl w.heap.size w)
 have H : (spec_IsProgram.l0 k 0 l0_0 a0_1 l0_2) = some r := h
 clear h
 have H' := Qa H
 clear H
 go_enter Tryz.func18, Tryz.ntmps18
 go_wp2_with (first | ((with_reducible refine Ql (N := 1) rfl ?_); (try (refine gate_guard (by rfl) ?_; dsimp only)); refine Bx (N := 1) (cs := #[.slice A0_0 l0_0.length c0_0, .int .i64 a0_1, .slice A0_2 l0_2.length c0_2]) (t := 30) ?_; intro gb41 hg w2 hbox hb; have BK41 := Qa (hbox); have GW41 := Gs (w := w) hg (Bb0 HB.out); have GE41 := GW41; replace HB := Sb (Bb0 HB.out) hb; clear hb hbox hg))
 go_loopg [3] k (fun kq v3 w' => ∃ (x3_1 : Int), v3 = .int .i64 x3_1 ∧ Qe (spec_IsProgram.l0 kq x3_1 l0_0 a0_1 l0_2 = some r) ∧ Qe (kq ≤ k) ∧ Qe (w'.heap[gb41]? = some (.cells #[(.slice A0_0 l0_0.length c0_0), .int .i64 a0_1, (.slice A0_2 l0_2.length c0_2)] 30 (0, 0))) ∧ Qe (Qv w.heap.size w w'))
 case atStart => exact ⟨(0), Zf, H', ⟨Nat.le_refl _⟩, ⟨Ba BK41.out⟩, ⟨Bb1 HB.out GE41.out⟩⟩
 case round =>
  clear H'; (try clear c1)
  (try clear p2)
  obtain ⟨x3_1, rfl, HA, HK1, BK41, HB⟩ := hrel; cases gk with
  | zero => exact absurd HA.out (by simp [spec_IsProgram.l0])
  | succ k1 =>
   have H := HA.out; clear HA; simp only [spec_IsProgram.l0] at H; by_cases c3 : x3_1 < (l0_2.length : Int)
   ·rw [if_pos c3] at H; replace c3 := decide_eq_true c3; by_cases c4 : 0 ≤ x3_1
    ·rw [if_pos c4] at H; replace c4 := decide_eq_true c4; obtain ⟨t60, A5, H⟩ := Ob H; (try dsimp only at H)
     by_cases c6 : t60 = true
     ·subst c6; rw [if_pos rfl] at H; obtain ⟨t61, A7, H⟩ := Ob H; (try dsimp only at H)
      by_cases c8 : t61 = true
      ·subst c8; rw [if_pos rfl] at H; obtain ⟨t62, A9, H⟩ := Ob H; (try dsimp only at H)
       by_cases c10 : t62 = true
       ·subst c10; rw [if_pos rfl] at H; have H' := Qa H; clear H; obtain ⟨q11_0, q11_1, q11_2, u11_0, u11_1, u11_2⟩ := Cf3 BK41; have p40 : 0 ≤ (x3_1 : Int) := Da; have q40 : x3_1 < (l0_2.length : Int) := Da; obtain ⟨ad40, e40, hx40_0, hx40_1, hx40_2, hx40_3, hx40_4⟩ := at_T52 HR0_2.out x3_1 p40 q40; cases e40
        replace hx40_0 := Cx HB hx40_0; replace hx40_1 := Cx HB hx40_1; replace hx40_2 := Cx HB hx40_2; replace hx40_3 := Cx HB hx40_3; replace hx40_4 := Cx HB hx40_4; replace p40 := eq_true p40; replace q40 := eq_true q40; go_wp2_with (first | ((with_reducible refine Ql (N := 4) rfl ?_); (try (refine gate_guard (by rfl) ?_; dsimp only)); refine Bx (N := 4) (cs := #[.int .i64 0, .int .i64 0, .int .i64 0, .string (⟨#[]⟩ : ByteArray), .string (⟨#[]⟩ : ByteArray)]) (t := 52) ?_; intro gb42 hg w12 hbox hb; have BK42 := Qa (hbox); have GW42 := Gs (w := w) hg (Bb1 HB.out GE41.out); have GE42 := GW42; replace HB := Sb (Bb1 HB.out GE41.out) hb; have NB41_42 := Nl hg BK41; have NB42_41 := Ng hg BK41; replace BK41 := Kb BK41 hb; clear hb hbox hg; have hnb13 := NB42_41.out; have hnc13 := NB41_42.out; obtain ⟨q14_0, q14_1, q14_2, q14_3, q14_4, u14_0, u14_1, u14_2, u14_3, u14_4⟩ := Cf5 BK42; obtain ⟨q15_0, q15_1, q15_2, u15_0, u15_1, u15_2⟩ := Cf3 BK41) | ((with_reducible refine Qd (f := 57) rfl ?_); refine Gl 22 Tryz.func57 #[.int .i64 ((rd_T52 l0_2 x3_1).f0), .int .i64 0, .int .i64 (Qb (a0_1 - 1))] ?_; (with_reducible refine (spec_l1In.calls ((rd_T52 l0_2 x3_1).f0) 0 (Qb (a0_1 - 1)) true _ A5.out).mono ?_); rintro e w' ⟨rfl, ⟨nd, rfl⟩⟩; refine ⟨_, rfl, ?_⟩) | (go_at_call 57; (with_reducible refine (spec_l1In.calls ((rd_T52 l0_2 x3_1).f1) 0 (Qb (a0_1 - 1)) true _ A7.out).mono ?_); rintro e w' ⟨rfl, ⟨nd, rfl⟩⟩) | (go_at_call 58; (with_reducible refine (spec_IsStmt.calls k1 _ _ l0_0 ((rd_T52 l0_2 x3_1).f2.f0) ((rd_T52 l0_2 x3_1).f2.f1) ((rd_T52 l0_2 x3_1).f2.f2) true _ ?side1 ?side2 A9.out).mono ?_); (case side1 => exact Qk HR0_0.out (Bb2 HB.out GE41.out GE42.out)); (case side2 => exact HC0_0.out); rintro e w16 ⟨rfl, hb⟩; replace BK41 := Kf BK41 NB41_42.out hb; replace BK42 := Kx0 (.cells #[.int .i64 ((rd_T52 l0_2 x3_1).f0), .int .i64 ((rd_T52 l0_2 x3_1).f1), .int .i64 ((rd_T52 l0_2 x3_1).f2.f0), .string ((rd_T52 l0_2 x3_1).f2.f1), .string ((rd_T52 l0_2 x3_1).f2.f2)] 52 (0, 0)) BK42 hb; replace HB := Sb (Bb2 HB.out GE41.out GE42.out) hb; clear hb)); go_roundg k1
        case measure => have := HK1.out; omega
        case rel => exact ⟨(Qb (x3_1 + 1)), Zf, H', ⟨by have := HK1.out; omega⟩, ⟨Ba BK41.out⟩, ⟨Bb2 HB.out GE41.out GE42.out⟩⟩
       ·replace c10 := Bool.eq_false_iff.mpr c10; subst c10; rw [if_neg (show ¬ (false = true) by decide)] at H; obtain rfl := Option.some.inj H; obtain ⟨q17_0, q17_1, q17_2, u17_0, u17_1, u17_2⟩ := Cf3 BK41; have p40 : 0 ≤ (x3_1 : Int) := Da; have q40 : x3_1 < (l0_2.length : Int) := Da; obtain ⟨ad40, e40, hx40_0, hx40_1, hx40_2, hx40_3, hx40_4⟩ := at_T52 HR0_2.out x3_1 p40 q40; cases e40
        replace hx40_0 := Cx HB hx40_0; replace hx40_1 := Cx HB hx40_1; replace hx40_2 := Cx HB hx40_2; replace hx40_3 := Cx HB hx40_3; replace hx40_4 := Cx HB hx40_4; replace p40 := eq_true p40; replace q40 := eq_true q40; go_wp2_with (first | ((with_reducible refine Ql (N := 4) rfl ?_); (try (refine gate_guard (by rfl) ?_; dsimp only)); refine Bx (N := 4) (cs := #[.int .i64 0, .int .i64 0, .int .i64 0, .string (⟨#[]⟩ : ByteArray), .string (⟨#[]⟩ : ByteArray)]) (t := 52) ?_; intro gb42 hg w18 hbox hb; have BK42 := Qa (hbox); have GW42 := Gs (w := w) hg (Bb1 HB.out GE41.out); have GE42 := GW42; replace HB := Sb (Bb1 HB.out GE41.out) hb; have NB41_42 := Nl hg BK41; have NB42_41 := Ng hg BK41; replace BK41 := Kb BK41 hb; clear hb hbox hg; have hnb19 := NB42_41.out; have hnc19 := NB41_42.out; obtain ⟨q20_0, q20_1, q20_2, q20_3, q20_4, u20_0, u20_1, u20_2, u20_3, u20_4⟩ := Cf5 BK42; obtain ⟨q21_0, q21_1, q21_2, u21_0, u21_1, u21_2⟩ := Cf3 BK41) | ((with_reducible refine Qd (f := 57) rfl ?_); refine Gl 22 Tryz.func57 #[.int .i64 ((rd_T52 l0_2 x3_1).f0), .int .i64 0, .int .i64 (Qb (a0_1 - 1))] ?_; (with_reducible refine (spec_l1In.calls ((rd_T52 l0_2 x3_1).f0) 0 (Qb (a0_1 - 1)) true _ A5.out).mono ?_); rintro e w' ⟨rfl, ⟨nd, rfl⟩⟩; refine ⟨_, rfl, ?_⟩) | (go_at_call 57; (with_reducible refine (spec_l1In.calls ((rd_T52 l0_2 x3_1).f1) 0 (Qb (a0_1 - 1)) true _ A7.out).mono ?_); rintro e w' ⟨rfl, ⟨nd, rfl⟩⟩) | (go_at_call 58; (with_reducible refine (spec_IsStmt.calls k1 _ _ l0_0 ((rd_T52 l0_2 x3_1).f2.f0) ((rd_T52 l0_2 x3_1).f2.f1) ((rd_T52 l0_2 x3_1).f2.f2) false _ ?side1 ?side2 A9.out).mono ?_); (case side1 => exact Qk HR0_0.out (Bb2 HB.out GE41.out GE42.out)); (case side2 => exact HC0_0.out); rintro e w22 ⟨rfl, hb⟩; replace BK41 := Kf BK41 NB41_42.out hb; replace BK42 := Kx0 (.cells #[.int .i64 ((rd_T52 l0_2 x3_1).f0), .int .i64 ((rd_T52 l0_2 x3_1).f1), .int .i64 ((rd_T52 l0_2 x3_1).f2.f0), .string ((rd_T52 l0_2 x3_1).f2.f1), .string ((rd_T52 l0_2 x3_1).f2.f2)] 52 (0, 0)) BK42 hb; replace HB := Sb (Bb2 HB.out GE41.out GE42.out) hb; clear hb)); go_ret; exact ⟨Ze, Bb2 HB.out GE41.out GE42.out⟩
      ·replace c8 := Bool.eq_false_iff.mpr c8; subst c8; rw [if_neg (show ¬ (false = true) by decide)] at H; obtain rfl := Option.some.inj H; obtain ⟨q23_0, q23_1, q23_2, u23_0, u23_1, u23_2⟩ := Cf3 BK41; have p40 : 0 ≤ (x3_1 : Int) := Da; have q40 : x3_1 < (l0_2.length : Int) := Da; obtain ⟨ad40, e40, hx40_0, hx40_1, hx40_2, hx40_3, hx40_4⟩ := at_T52 HR0_2.out x3_1 p40 q40; cases e40
       replace hx40_0 := Cx HB hx40_0; replace hx40_1 := Cx HB hx40_1; replace hx40_2 := Cx HB hx40_2; replace hx40_3 := Cx HB hx40_3; replace hx40_4 := Cx HB hx40_4; replace p40 := eq_true p40; replace q40 := eq_true q40; go_wp2_with (first | ((with_reducible refine Ql (N := 4) rfl ?_); (try (refine gate_guard (by rfl) ?_; dsimp only)); refine Bx (N := 4) (cs := #[.int .i64 0, .int .i64 0, .int .i64 0, .string (⟨#[]⟩ : ByteArray), .string (⟨#[]⟩ : ByteArray)]) (t := 52) ?_; intro gb42 hg w24 hbox hb; have BK42 := Qa (hbox); have GW42 := Gs (w := w) hg (Bb1 HB.out GE41.out); have GE42 := GW42; replace HB := Sb (Bb1 HB.out GE41.out) hb; have NB41_42 := Nl hg BK41; have NB42_41 := Ng hg BK41; replace BK41 := Kb BK41 hb; clear hb hbox hg; have hnb25 := NB42_41.out; have hnc25 := NB41_42.out; obtain ⟨q26_0, q26_1, q26_2, q26_3, q26_4, u26_0, u26_1, u26_2, u26_3, u26_4⟩ := Cf5 BK42; obtain ⟨q27_0, q27_1, q27_2, u27_0, u27_1, u27_2⟩ := Cf3 BK41) | ((with_reducible refine Qd (f := 57) rfl ?_); refine Gl 22 Tryz.func57 #[.int .i64 ((rd_T52 l0_2 x3_1).f0), .int .i64 0, .int .i64 (Qb (a0_1 - 1))] ?_; (with_reducible refine (spec_l1In.calls ((rd_T52 l0_2 x3_1).f0) 0 (Qb (a0_1 - 1)) true _ A5.out).mono ?_); rintro e w' ⟨rfl, ⟨nd, rfl⟩⟩; refine ⟨_, rfl, ?_⟩) | (go_at_call 57; (with_reducible refine (spec_l1In.calls ((rd_T52 l0_2 x3_1).f1) 0 (Qb (a0_1 - 1)) false _ A7.out).mono ?_); rintro e w' ⟨rfl, ⟨nd, rfl⟩⟩)); go_ret; exact ⟨Ze, Bb2 HB.out GE41.out GE42.out⟩
     ·replace c6 := Bool.eq_false_iff.mpr c6; subst c6; rw [if_neg (show ¬ (false = true) by decide)] at H; obtain rfl := Option.some.inj H; obtain ⟨q28_0, q28_1, q28_2, u28_0, u28_1, u28_2⟩ := Cf3 BK41; have p40 : 0 ≤ (x3_1 : Int) := Da; have q40 : x3_1 < (l0_2.length : Int) := Da; obtain ⟨ad40, e40, hx40_0, hx40_1, hx40_2, hx40_3, hx40_4⟩ := at_T52 HR0_2.out x3_1 p40 q40; cases e40
      replace hx40_0 := Cx HB hx40_0; replace hx40_1 := Cx HB hx40_1; replace hx40_2 := Cx HB hx40_2; replace hx40_3 := Cx HB hx40_3; replace hx40_4 := Cx HB hx40_4; replace p40 := eq_true p40; replace q40 := eq_true q40; go_wp2_with (first | ((with_reducible refine Ql (N := 4) rfl ?_); (try (refine gate_guard (by rfl) ?_; dsimp only)); refine Bx (N := 4) (cs := #[.int .i64 0, .int .i64 0, .int .i64 0, .string (⟨#[]⟩ : ByteArray), .string (⟨#[]⟩ : ByteArray)]) (t := 52) ?_; intro gb42 hg w29 hbox hb; have BK42 := Qa (hbox); have GW42 := Gs (w := w) hg (Bb1 HB.out GE41.out); have GE42 := GW42; replace HB := Sb (Bb1 HB.out GE41.out) hb; have NB41_42 := Nl hg BK41; have NB42_41 := Ng hg BK41; replace BK41 := Kb BK41 hb; clear hb hbox hg; have hnb30 := NB42_41.out; have hnc30 := NB41_42.out; obtain ⟨q31_0, q31_1, q31_2, q31_3, q31_4, u31_0, u31_1, u31_2, u31_3, u31_4⟩ := Cf5 BK42; obtain ⟨q32_0, q32_1, q32_2, u32_0, u32_1, u32_2⟩ := Cf3 BK41) | ((with_reducible refine Qd (f := 57) rfl ?_); refine Gl 22 Tryz.func57 #[.int .i64 ((rd_T52 l0_2 x3_1).f0), .int .i64 0, .int .i64 (Qb (a0_1 - 1))] ?_; (with_reducible refine (spec_l1In.calls ((rd_T52 l0_2 x3_1).f0) 0 (Qb (a0_1 - 1)) false _ A5.out).mono ?_); rintro e w' ⟨rfl, ⟨nd, rfl⟩⟩; refine ⟨_, rfl, ?_⟩)); go_ret; exact ⟨Ze, Bb2 HB.out GE41.out GE42.out⟩
    ·rw [if_neg c4] at H; exact absurd H (by simp)
   ·rw [if_neg c3] at H; replace c3 := decide_eq_false c3; obtain ⟨t63, A33, H⟩ := Ob H; (try dsimp only at H)
    by_cases c34 : t63 = true
    ·subst c34; rw [if_pos rfl] at H; obtain ⟨t65, A35, H⟩ := Ob H; (try dsimp only at H)
     by_cases c36 : t65 = true
     ·subst c36; rw [if_pos rfl] at H; obtain rfl := Option.some.inj H; obtain ⟨q37_0, q37_1, q37_2, u37_0, u37_1, u37_2⟩ := Cf3 BK41; go_wp2_with (first | ((with_reducible refine Qd (f := 59) rfl ?_); refine Gl 43 Tryz.func59 #[.slice A0_0 l0_0.length c0_0] ?_; (with_reducible refine (spec_AreVars.calls k1 _ _ l0_0 true _ ?side1 ?side2 A33.out).mono ?_); (case side1 => exact Bc (Qk HR0_0.out HB.out)); (case side2 => exact HC0_0.out); rintro e w' ⟨rfl, ⟨nd, rfl⟩⟩; refine ⟨_, rfl, ?_⟩) | (go_at_call 57; (with_reducible refine (spec_l1In.calls a0_1 1 12 true _ A35.out).mono ?_); rintro e w' ⟨rfl, ⟨nd, rfl⟩⟩)); go_ret; exact ⟨Ze, Bb1 HB.out GE41.out⟩
     ·replace c36 := Bool.eq_false_iff.mpr c36; subst c36; rw [if_neg (show ¬ (false = true) by decide)] at H; obtain rfl := Option.some.inj H; obtain ⟨q38_0, q38_1, q38_2, u38_0, u38_1, u38_2⟩ := Cf3 BK41; go_wp2_with (first | ((with_reducible refine Qd (f := 59) rfl ?_); refine Gl 43 Tryz.func59 #[.slice A0_0 l0_0.length c0_0] ?_; (with_reducible refine (spec_AreVars.calls k1 _ _ l0_0 true _ ?side1 ?side2 A33.out).mono ?_); (case side1 => exact Bc (Qk HR0_0.out HB.out)); (case side2 => exact HC0_0.out); rintro e w' ⟨rfl, ⟨nd, rfl⟩⟩; refine ⟨_, rfl, ?_⟩) | (go_at_call 57; (with_reducible refine (spec_l1In.calls a0_1 1 12 false _ A35.out).mono ?_); rintro e w' ⟨rfl, ⟨nd, rfl⟩⟩)); go_ret; exact ⟨Ze, Bb1 HB.out GE41.out⟩
    ·replace c34 := Bool.eq_false_iff.mpr c34; subst c34; rw [if_neg (show ¬ (false = true) by decide)] at H; obtain rfl := Option.some.inj H; obtain ⟨q39_0, q39_1, q39_2, u39_0, u39_1, u39_2⟩ := Cf3 BK41; go_wp2_with (first | ((with_reducible refine Qd (f := 59) rfl ?_); refine Gl 43 Tryz.func59 #[.slice A0_0 l0_0.length c0_0] ?_; (with_reducible refine (spec_AreVars.calls k1 _ _ l0_0 false _ ?side1 ?side2 A33.out).mono ?_); (case side1 => exact Bc (Qk HR0_0.out HB.out)); (case side2 => exact HC0_0.out); rintro e w' ⟨rfl, ⟨nd, rfl⟩⟩; refine ⟨_, rfl, ?_⟩)); go_ret; exact ⟨Ze, Bb1 HB.out GE41.out⟩
def spec_Join.l0 : Nat → List ByteArray → ByteArray → List Int → Int → Option (ByteArray)
 | 0, _, _, _, _ => none
 | k + 1, x0, x1, x5, x6 => if x6 < (x0.length : Int) then (if x6 > 0 then (if x5.length + x1.size < 140737488355328 then ((some (x5 ++ bytesOf x1 : List Int)).bind fun y45 => (if 0 ≤ x6 then (if y45.length + (rdOf ByteArray.empty x0 x6).size < 140737488355328 then (spec_Join.l0 k x0 x1 (y45 ++ bytesOf (rdOf ByteArray.empty x0 x6)) (Qb (x6 + 1))) else (none)) else (none))) else (none)) else (if 0 ≤ x6 then (if x5.length + (rdOf ByteArray.empty x0 x6).size < 140737488355328 then (spec_Join.l0 k x0 x1 (x5 ++ bytesOf (rdOf ByteArray.empty x0 x6)) (Qb (x6 + 1))) else (none)) else (none))) else (some (strOfNums x5))
def spec_Join.f (k : Nat) (l0 : List ByteArray) (a1 : ByteArray) : Option (ByteArray) := spec_Join.l0 k l0 a1 (([] : List Int)) 0
theorem spec_Join.mono_l : ∀ k, (∀ y0 y1 y2 y3, LeO (spec_Join.l0 k y0 y1 y2 y3) (spec_Join.l0 (k + 1) y0 y1 y2 y3))
 | 0 => fun _ _ _ _ r h => by simp [spec_Join.l0] at h
 | k + 1 => by
  have ih0 := spec_Join.mono_l k
  ·intro y0 y1 y2 y3; unfold spec_Join.l0; exact Lm1 ih0
theorem spec_Join.mono : ∀ a0 a1 k, LeO (spec_Join.f k a0 a1) (spec_Join.f (k + 1) a0 a1) := by
 intro a0 a1 k
 have ih0 := spec_Join.mono_l k
 unfold spec_Join.f
 exact Lm1 ih0
theorem spec_Join.calls (k : Nat) (A0 : Option Addr) (c0 : Nat) (l0 : List ByteArray) (a1 : ByteArray) (r : ByteArray) (w : World) (hr0 : Kd.C Qf w A0 l0.length l0) (hc0 : l0.length ≤ c0) (h : spec_Join.f k l0 a1 = some r) :
  Calls Tryz.prog 29 #[.slice A0 l0.length c0, .string a1] w fun e w' => e = .returned (.string r) ∧ Qv w.heap.size w w' := by
 have HR0 := Qa hr0
 have HC0 := Qa hc0
 clear hr0 hc0
 have HB := Qa (Below.refl w.heap.size w)
 have H : (spec_Join.l0 k l0 a1 (([] : List Int)) 0) = some r := h
 clear h
 obtain ⟨y48, hy48⟩ : ∃ y_ : List Int, y_ = (([] : List Int)) := ⟨_, rfl⟩
 replace H : (spec_Join.l0 k l0 a1 y48 0) = some r := Zh hy48 H
 have Ny48 := Qa hy48
 clear hy48
 have H' := Qa H
 clear H
 go_enter Tryz.func29, Tryz.ntmps29
 go_wp2_with (first | ((with_reducible refine Ql (N := 7) rfl ?_); refine Kd.R_lit (Kd.int .u8) _ 5 ?hg (N := 7) ?hd (xs := ([] : List Int)) (inner := []) (ok := fun _ => True) (okp := fun _ => True) ?hr ?hp (fun _ hk => hk) trivial (Below.refl _ _) (Nat.le_refl _) (by simp) ?_; (case hd => rfl); (case hg => rfl); (case hr => first | (go_simp; done) | (go_simp; rfl)); (case hp => exact (Reps.none _ _)); intro v76 w3 ho4 hb hg_ hnew_; clear hg_ hnew_; (first | rw [← Ny48.out] at ho4 | (simp only [Int.reduceToNat] at ho4; rw [← Ny48.out] at ho4)); have HO70 := Lw ho4 (Bb0 HB.out); replace HB := Sb (Bb0 HB.out) hb; clear hb ho4))
 go_loopg [5, 6] k (fun kq v5 v6 w' => ∃ (x5_1 : List Int) (x6_1 : Int), v6 = .int .i64 x6_1 ∧ Qe (spec_Join.l0 kq l0 a1 x5_1 x6_1 = some r) ∧ Qe (kq ≤ k) ∧ Qe (Kd.R (Kd.int .u8) 5 w' w.heap.size (fun _ => True) v5 x5_1) ∧ Qe (Qv w.heap.size w w'))
 case atStart => exact ⟨(y48), (0), Zf, H', ⟨Nat.le_refl _⟩, ⟨Br HO70.out⟩, ⟨Bb0 HB.out⟩⟩
 case round =>
  clear H'; (try clear c2)
  (try clear p2)
  obtain ⟨x5_1, x6_1, rfl, HA, HK1, HO_5, HB⟩ := hrel; cases gk with
  | zero => exact absurd HA.out (by simp [spec_Join.l0])
  | succ k1 =>
   have H := HA.out; clear HA; simp only [spec_Join.l0] at H; by_cases c5 : x6_1 < (l0.length : Int)
   ·rw [if_pos c5] at H; replace c5 := decide_eq_true c5; by_cases c6 : x6_1 > 0
    ·rw [if_pos c6] at H; replace c6 := decide_eq_true c6; by_cases c7 : x5_1.length + a1.size < 140737488355328
     ·rw [if_pos c7] at H; have LMc7 := Qa c7; clear c7; obtain ⟨y45, hy45⟩ : ∃ y_ : List Int, y_ = (x5_1 ++ bytesOf a1) := ⟨_, rfl⟩; replace H : (if 0 ≤ x6_1 then (if y45.length + (rdOf ByteArray.empty l0 x6_1).size < 140737488355328 then (spec_Join.l0 k1 l0 a1 (y45 ++ bytesOf (rdOf ByteArray.empty l0 x6_1)) (Qb (x6_1 + 1))) else (none)) else (none)) = some r := Zh hy45 H; have Ny45 := Qa hy45; clear hy45; by_cases c8 : 0 ≤ x6_1
      ·rw [if_pos c8] at H; replace c8 := decide_eq_true c8; by_cases c9 : y45.length + (rdOf ByteArray.empty l0 x6_1).size < 140737488355328
       ·rw [if_pos c9] at H; have LMc9 := Qa c9; clear c9; obtain ⟨y49, hy49⟩ : ∃ y_ : List Int, y_ = (y45 ++ bytesOf (rdOf ByteArray.empty l0 x6_1)) := ⟨_, rfl⟩; replace H : (spec_Join.l0 k1 l0 a1 y49 (Qb (x6_1 + 1))) = some r := Zh hy49 H; have Ny49 := Qa hy49; clear hy49; have H' := Qa H; clear H; go_wp2_with (first | (at_builtin; refine print_append_str (w0 := w) w.heap.size rfl (.tmp 16) _ 38 9 5 rfl Tryz.underlying38 Tryz.underlying9 info5 u5 x5_1 a1 rfl rfl ?aO ?aB ?aS ?aL ?_; (case aB => exact (Bb0 HB.out)); (case aO => exact (Kd.own_of_R (Br HO_5.out))); (case aS => exact (below_size (Bb0 HB.out))); (case aL => have := LMc7.out; omega); intro v67 w10 ho0 hb hg; have ho := Kd.R_of_own (h1 := fun _ => rfl) (ok := fun _ => True) ho0 (fun _ _ => trivial); clear ho0; have hat := True.intro; rw [← Ny45.out] at ho; change Kd.R (Kd.int .u8) 5 w10 w.heap.size (fun _ => True) v67 y45 at ho; replace HB := Qa (hb); have HO68 := Qa (ho); clear HO_5; clear ho hb hg hat; have p46 : 0 ≤ (x6_1 : Int) := Da; have q46 : x6_1 < (l0.length : Int) := Da; obtain ⟨ad46, e46, hx46_0⟩ := Qg HR0.out x6_1 p46 q46; cases e46; replace hx46_0 := Cx HB hx46_0; replace p46 := eq_true p46; replace q46 := eq_true q46) | (at_builtin; refine print_append_str (w0 := w) w.heap.size rfl (.tmp 19) _ 38 9 5 rfl Tryz.underlying38 Tryz.underlying9 info5 v67 y45 (rdOf ByteArray.empty l0 x6_1) rfl rfl ?aO ?aB ?aS ?aL ?_; (case aB => exact (Bb0 HB.out)); (case aO => exact (Kd.own_of_R (Br HO68.out))); (case aS => exact (below_size (Bb0 HB.out))); (case aL => have := LMc9.out; omega); intro v71 w11 ho0 hb hg; have ho := Kd.R_of_own (h1 := fun _ => rfl) (ok := fun _ => True) ho0 (fun _ _ => trivial); clear ho0; have hat := True.intro; rw [← Ny49.out] at ho; change Kd.R (Kd.int .u8) 5 w11 w.heap.size (fun _ => True) v71 y49 at ho; replace HB := Qa (hb); have HO72 := Qa (ho); clear HO68; clear ho hb hg hat)); go_roundg k1
        case measure => have := HK1.out; omega
        case rel => exact ⟨(y49), (Qb (x6_1 + 1)), Zf, H', ⟨by have := HK1.out; omega⟩, ⟨Br HO72.out⟩, ⟨Bb0 HB.out⟩⟩
       ·rw [if_neg c9] at H; exact absurd H (by simp)
      ·rw [if_neg c8] at H; exact absurd H (by simp)
     ·rw [if_neg c7] at H; exact absurd H (by simp)
    ·rw [if_neg c6] at H; replace c6 := decide_eq_false c6; by_cases c12 : 0 ≤ x6_1
     ·rw [if_pos c12] at H; replace c12 := decide_eq_true c12; by_cases c13 : x5_1.length + (rdOf ByteArray.empty l0 x6_1).size < 140737488355328
      ·rw [if_pos c13] at H; have LMc13 := Qa c13; clear c13; obtain ⟨y51, hy51⟩ : ∃ y_ : List Int, y_ = (x5_1 ++ bytesOf (rdOf ByteArray.empty l0 x6_1)) := ⟨_, rfl⟩; replace H : (spec_Join.l0 k1 l0 a1 y51 (Qb (x6_1 + 1))) = some r := Zh hy51 H; have Ny51 := Qa hy51; clear hy51; have H' := Qa H; clear H; have p47 : 0 ≤ (x6_1 : Int) := Da; have q47 : x6_1 < (l0.length : Int) := Da; obtain ⟨ad47, e47, hx47_0⟩ := Qg HR0.out x6_1 p47 q47; cases e47
       replace hx47_0 := Cx HB hx47_0; replace p47 := eq_true p47; replace q47 := eq_true q47; go_wp2_with (first | (at_builtin; refine print_append_str (w0 := w) w.heap.size rfl (.tmp 19) _ 38 9 5 rfl Tryz.underlying38 Tryz.underlying9 info5 u5 x5_1 (rdOf ByteArray.empty l0 x6_1) rfl rfl ?aO ?aB ?aS ?aL ?_; (case aB => exact (Bb0 HB.out)); (case aO => exact (Kd.own_of_R (Br HO_5.out))); (case aS => exact (below_size (Bb0 HB.out))); (case aL => have := LMc13.out; omega); intro v73 w14 ho0 hb hg; have ho := Kd.R_of_own (h1 := fun _ => rfl) (ok := fun _ => True) ho0 (fun _ _ => trivial); clear ho0; have hat := True.intro; rw [← Ny51.out] at ho; change Kd.R (Kd.int .u8) 5 w14 w.heap.size (fun _ => True) v73 y51 at ho; replace HB := Qa (hb); have HO74 := Qa (ho); clear HO_5; clear ho hb hg hat)); go_roundg k1
       case measure => have := HK1.out; omega
       case rel => exact ⟨(y51), (Qb (x6_1 + 1)), Zf, H', ⟨by have := HK1.out; omega⟩, ⟨Br HO74.out⟩, ⟨Bb0 HB.out⟩⟩
      ·rw [if_neg c13] at H; exact absurd H (by simp)
     ·rw [if_neg c12] at H; exact absurd H (by simp)
   ·rw [if_neg c5] at H; replace c5 := decide_eq_false c5; obtain rfl := Option.some.inj H; have hcv15 := own_string (P := Tryz.prog) Tryz.underlying38 Tryz.underlying5 Tryz.underlying9 (Kd.own_of_R HO_5.out); go_wp2; go_ret; exact ⟨Ze, Bb0 HB.out⟩
end Go.Proofs.YtndkkpjofddfjaaGreatDoor.PFnExactParseProgram
