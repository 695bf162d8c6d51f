/- A part of the walk through the printed functions; no condition. -/
import Derived.Test.YtoljagpjejpmpaaXAuto
import Derived.Test.YtoljagpjejpmpaaPFnExactParseFormulax0
import Derived.Test.YtoljagpjejpmpaaPFnExactParseFormulax3
import Derived.Test.YtoljagpjejpmpaaPFnExactParseFormulax4
import Derived.Test.YtoljagpjejpmpaaPFnExactParseFormulax5
namespace Go.Proofs.Ytoljagpjejpmpaa.PFnExactParseFormula
open Go.RowKit Go.Proofs.YtoljagpjejpmpaaW.PrintWords Go.Proofs.YtoljagpjejpmpaaW.PrintLast Go.Proofs.YtoljagpjejpmpaaW.PrintMore
attribute [local go_sem] max2_int min2_int max_two min_two max_three min_three max_four min_four
set_option maxHeartbeats 32000000
set_option maxRecDepth 100000
attribute [local irreducible] Go.World.setCell
set_option linter.unusedVariables false
set_option linter.unusedSimpArgs false
open Go.Proofs.YtoljagpjejpmpaaW.PrintWords.Aside0 renaming mk → Qa
open Go.Proofs.YtoljagpjejpmpaaW.PrintWords renaming gate_callee → Qc, blk_cell → Qd, blk_frozen → Qe, Aside0 → Qf, gate_dst → Qp, KeepBut → Qu
open Go.Proofs.Try renaming prog → Qk
open Go renaming World → Qm, Value → Qs, Calls → Qz
def impl_FormulaText.f (k : Nat) (l0 : List ByteArray) (a1_0 : Int) (a1_1 : Int) (a1_2 : Int) (a1_3 : Int) (l1_4 : List (S32)) : Option (ByteArray) := (impl_AreVars.f k l0).bind fun t26 => (if t26 = true then ((impl_IsFormula.f k (l0.length : Int) a1_0 a1_1 a1_2 a1_3 l1_4).bind fun t27 => (if t27 = true then ((impl_Formula_text.f k a1_0 a1_1 a1_2 a1_3 l1_4 l0).bind fun t28 => (some t28)) else (some (⟨#[]⟩ : ByteArray)))) else (some (⟨#[]⟩ : ByteArray)))
theorem impl_FormulaText.mono : ∀ a0 a1 a2 a3 a4 a5 k, LeO (impl_FormulaText.f k a0 a1 a2 a3 a4 a5) (impl_FormulaText.f (k + 1) a0 a1 a2 a3 a4 a5) := by
 intro a0 a1 a2 a3 a4 a5 k
 unfold impl_FormulaText.f
 exact Lm3 impl_AreVars.mono impl_Formula_text.mono impl_IsFormula.mono
theorem impl_FormulaText.calls (k : Nat) (A0 : Option Addr) (c0 : Nat) (l0 : List ByteArray) (a1_0 : Int) (a1_1 : Int) (a1_2 : Int) (a1_3 : Int) (A1_4 : Option Addr) (c1_4 : Nat) (l1_4 : List (S32)) (r : ByteArray) (w : Qm) (hr0 : Kd.C Kd.string w A0 l0.length l0) (hc0 : l0.length ≤ c0) (hr1_4 : Kd.C k32 w A1_4 l1_4.length l1_4) (hc1_4 : l1_4.length ≤ c1_4) (h : impl_FormulaText.f k l0 a1_0 a1_1 a1_2 a1_3 l1_4 = some r) :
  Qz Qk 13 #[.slice A0 l0.length c0, .agg #[.int .i64 a1_0, .int .i64 a1_1, .int .i64 a1_2, .int .i64 a1_3, .slice A1_4 l1_4.length c1_4]] w fun e w' => e = .returned (.string r) ∧ Below w.heap.size w w' := by
 have hu32 := Try.underlying32
 have HR0 := Qa hr0
 have HC0 := Qa hc0
 clear hr0 hc0
 have HR1_4 := Qa hr1_4
 have HC1_4 := Qa hc1_4
 clear hr1_4 hc1_4
 have HB := Qa (Below.refl w.heap.size w)
 have H : ((impl_AreVars.f k l0).bind fun t26 => (if t26 = true then ((impl_IsFormula.f k (l0.length : Int) a1_0 a1_1 a1_2 a1_3 l1_4).bind fun t27 => (if t27 = true then ((impl_Formula_text.f k a1_0 a1_1 a1_2 a1_3 l1_4 l0).bind fun t28 => (some t28)) else (some (⟨#[]⟩ : ByteArray)))) else (some (⟨#[]⟩ : ByteArray)))) = some r := h
 clear h
 obtain ⟨t26, A3, H⟩ := Ob H
 (try dsimp only at H)
 by_cases c4 : t26 = true
 ·subst c4
  rw [if_pos rfl] at H; obtain ⟨t27, A5, H⟩ := Ob H; (try dsimp only at H)
  by_cases c6 : t27 = true
  ·subst c6; rw [if_pos rfl] at H; obtain ⟨t28, A7, H⟩ := Ob H; (try dsimp only at H)
   obtain rfl := Option.some.inj H; go_enter Try.func13, Try.ntmps13; go_wp2_with (first | ((with_reducible refine Qp (N := 3) rfl ?_); (try (refine gate_guard (by rfl) ?_; dsimp only)); refine Bx (N := 3) (cs := #[.int .i64 a1_0, .int .i64 a1_1, .int .i64 a1_2, .int .i64 a1_3, .slice A1_4 l1_4.length c1_4]) (t := 32) ?_; intro gb17 hg w8 hbox hb; have BK17 := Qa (hbox); have GW17 := Gs (w := w) hg (Bb0 HB.out); have GE17 := GW17; replace HB := Sb (Bb0 HB.out) hb; clear hb hbox hg) | ((with_reducible refine Qc (f := 46) rfl ?_); refine Gl 6 Try.func46 #[.slice A0 l0.length c0] ?_; (with_reducible refine (impl_AreVars.calls k _ _ l0 true _ ?_ ?_ A3.out).mono ?_); exact Bc (Kd.C_below HR0.out HB.out); exact HC0.out; rintro e w' ⟨rfl, ⟨nd, rfl⟩⟩; refine ⟨_, rfl, ?_⟩; obtain ⟨q9_0, q9_1, q9_2, q9_3, q9_4, u9_0, u9_1, u9_2, u9_3, u9_4⟩ := Cf5 BK17) | (go_at_call 36; (with_reducible refine (impl_IsFormula.calls k (l0.length : Int) a1_0 a1_1 a1_2 a1_3 _ _ l1_4 true _ ?_ ?_ A5.out).mono ?_); exact Bc (Kd.C_below HR1_4.out (Bb1 HB.out GE17.out)); exact HC1_4.out; rintro e w10 ⟨rfl, hb⟩; replace BK17 := Kb BK17 hb; replace HB := Sb (Bb1 HB.out GE17.out) hb; clear hb; obtain ⟨q11_0, q11_1, q11_2, q11_3, q11_4, u11_0, u11_1, u11_2, u11_3, u11_4⟩ := Cf5 BK17) | ((with_reducible refine Qc (f := 47) rfl ?_); refine Gl 17 Try.func47 #[.agg #[.int .i64 a1_0, .int .i64 a1_1, .int .i64 a1_2, .int .i64 a1_3, .slice A1_4 l1_4.length c1_4], .slice A0 l0.length c0] ?_; (with_reducible refine (impl_Formula_text.calls k a1_0 a1_1 a1_2 a1_3 _ _ l1_4 _ _ l0 t28 _ ?side1 ?side2 ?side3 ?side4 A7.out).mono ?_); (case side1 => exact Bc (Kd.C_below HR1_4.out HB.out)); (case side2 => exact HC1_4.out); (case side3 => exact Bc (Kd.C_below HR0.out HB.out)); (case side4 => exact HC0.out); rintro e w12 ⟨rfl, hb⟩; refine ⟨_, rfl, ?_⟩; replace BK17 := Kb BK17 hb; replace HB := Sb (Bb1 HB.out GE17.out) hb; clear hb)); go_ret; exact ⟨Ze, Bb1 HB.out GE17.out⟩
  ·replace c6 := Bool.eq_false_iff.mpr c6; subst c6; rw [if_neg (show ¬ (false = true) by decide)] at H; obtain rfl := Option.some.inj H; go_enter Try.func13, Try.ntmps13; go_wp2_with (first | ((with_reducible refine Qp (N := 3) rfl ?_); (try (refine gate_guard (by rfl) ?_; dsimp only)); refine Bx (N := 3) (cs := #[.int .i64 a1_0, .int .i64 a1_1, .int .i64 a1_2, .int .i64 a1_3, .slice A1_4 l1_4.length c1_4]) (t := 32) ?_; intro gb17 hg w13 hbox hb; have BK17 := Qa (hbox); have GW17 := Gs (w := w) hg (Bb0 HB.out); have GE17 := GW17; replace HB := Sb (Bb0 HB.out) hb; clear hb hbox hg) | ((with_reducible refine Qc (f := 46) rfl ?_); refine Gl 6 Try.func46 #[.slice A0 l0.length c0] ?_; (with_reducible refine (impl_AreVars.calls k _ _ l0 true _ ?_ ?_ A3.out).mono ?_); exact Bc (Kd.C_below HR0.out HB.out); exact HC0.out; rintro e w' ⟨rfl, ⟨nd, rfl⟩⟩; refine ⟨_, rfl, ?_⟩; obtain ⟨q14_0, q14_1, q14_2, q14_3, q14_4, u14_0, u14_1, u14_2, u14_3, u14_4⟩ := Cf5 BK17) | (go_at_call 36; (with_reducible refine (impl_IsFormula.calls k (l0.length : Int) a1_0 a1_1 a1_2 a1_3 _ _ l1_4 false _ ?_ ?_ A5.out).mono ?_); exact Bc (Kd.C_below HR1_4.out (Bb1 HB.out GE17.out)); exact HC1_4.out; rintro e w15 ⟨rfl, hb⟩; replace BK17 := Kb BK17 hb; replace HB := Sb (Bb1 HB.out GE17.out) hb; clear hb)); go_ret; exact ⟨Ze, Bb1 HB.out GE17.out⟩
 ·replace c4 := Bool.eq_false_iff.mpr c4
  subst c4; rw [if_neg (show ¬ (false = true) by decide)] at H; obtain rfl := Option.some.inj H; go_enter Try.func13, Try.ntmps13; go_wp2_with (first | ((with_reducible refine Qp (N := 3) rfl ?_); (try (refine gate_guard (by rfl) ?_; dsimp only)); refine Bx (N := 3) (cs := #[.int .i64 a1_0, .int .i64 a1_1, .int .i64 a1_2, .int .i64 a1_3, .slice A1_4 l1_4.length c1_4]) (t := 32) ?_; intro gb17 hg w16 hbox hb; have BK17 := Qa (hbox); have GW17 := Gs (w := w) hg (Bb0 HB.out); have GE17 := GW17; replace HB := Sb (Bb0 HB.out) hb; clear hb hbox hg) | ((with_reducible refine Qc (f := 46) rfl ?_); refine Gl 6 Try.func46 #[.slice A0 l0.length c0] ?_; (with_reducible refine (impl_AreVars.calls k _ _ l0 false _ ?_ ?_ A3.out).mono ?_); exact Bc (Kd.C_below HR0.out HB.out); exact HC0.out; rintro e w' ⟨rfl, ⟨nd, rfl⟩⟩; refine ⟨_, rfl, ?_⟩)); go_ret; exact ⟨Ze, Bb1 HB.out GE17.out⟩
def stringslite_HasPrefix.f (a0 : ByteArray) (a1 : ByteArray) : Option (Bool) := if (a0.size : Int) ≥ (a1.size : Int) then (if 0 ≤ (a1.size : Int) then (if (a1.size : Int) ≤ (a0.size : Int) then (some ((a0.extract 0 ((a1.size : Int) : Int).toNat).toList == a1.toList)) else (none)) else (none)) else (some false)
theorem stringslite_HasPrefix.calls (a0 : ByteArray) (a1 : ByteArray) (r : Bool) (w : Qm) (h : stringslite_HasPrefix.f a0 a1 = some r) :
  Qz Qk 133 #[.string a0, .string a1] w fun e w' => e = .returned (.bool r) ∧ Drawn0 w w' := by
 have H : (if (a0.size : Int) ≥ (a1.size : Int) then (if 0 ≤ (a1.size : Int) then (if (a1.size : Int) ≤ (a0.size : Int) then (some ((a0.extract 0 ((a1.size : Int) : Int).toNat).toList == a1.toList)) else (none)) else (none)) else (some false)) = some r := h
 clear h
 by_cases c3 : (a0.size : Int) ≥ (a1.size : Int)
 ·rw [if_pos c3] at H
  have c3b0 := decide_eq_true c3; have c3b1 : decide (a1.size ≤ a0.size) = true := decide_eq_true (Int.ofNat_le.mp c3); clear c3; by_cases c4 : 0 ≤ (a1.size : Int)
  ·rw [if_pos c4] at H; have c4b0 := eq_true c4; have c4b1 := decide_eq_true c4; clear c4; by_cases c5 : (a1.size : Int) ≤ (a0.size : Int)
   ·rw [if_pos c5] at H; have c5b0 := eq_true c5; have c5b1 := decide_eq_true c5; clear c5; obtain rfl := Option.some.inj H; go_enter Try.func133, Try.ntmps133; go_wp2; go_ret; exact ⟨by first | rfl | (simp; done) | (simp [*]; done), by repeat (first | exact Drawn0.refl _ | apply Drawn0.step)⟩
   ·rw [if_neg c5] at H; exact absurd H (by simp)
  ·rw [if_neg c4] at H; exact absurd H (by simp)
 ·rw [if_neg c3] at H
  have c3b0 := decide_eq_false c3; have c3b1 : decide (a1.size ≤ a0.size) = false := decide_eq_false (fun h => c3 (Int.ofNat_le.mpr h)); clear c3; obtain rfl := Option.some.inj H; go_enter Try.func133, Try.ntmps133; go_wp2; go_ret; exact ⟨by first | rfl | (simp; done) | (simp [*]; done), by repeat (first | exact Drawn0.refl _ | apply Drawn0.step)⟩
def stringslite_CutPrefix.f (a0 : ByteArray) (a1 : ByteArray) : Option (ByteArray × Bool) := (stringslite_HasPrefix.f a0 a1).bind fun t29 => (if t29 = true then (if 0 ≤ (a1.size : Int) then (if (a1.size : Int) ≤ (a0.size : Int) then (some (a0.extract ((a1.size : Int) : Int).toNat a0.size, true)) else (none)) else (none)) else (some (a0, false)))
theorem stringslite_CutPrefix.calls (a0 : ByteArray) (a1 : ByteArray) (r1 : ByteArray) (r2 : Bool) (w : Qm) (h : stringslite_CutPrefix.f a0 a1 = some (r1, r2)) :
  Qz Qk 126 #[.string a0, .string a1] w fun e w' => e = .returned (.tuple #[.string r1, .bool r2]) ∧ Drawn0 w w' := by
 have H : ((stringslite_HasPrefix.f a0 a1).bind fun t29 => (if t29 = true then (if 0 ≤ (a1.size : Int) then (if (a1.size : Int) ≤ (a0.size : Int) then (some (a0.extract ((a1.size : Int) : Int).toNat a0.size, true)) else (none)) else (none)) else (some (a0, false)))) = some (r1, r2) := h
 clear h
 obtain ⟨t29, A3, H⟩ := Ob H
 (try dsimp only at H)
 by_cases c4 : t29 = true
 ·subst c4
  rw [if_pos rfl] at H; by_cases c5 : 0 ≤ (a1.size : Int)
  ·rw [if_pos c5] at H; have c5b0 := eq_true c5; have c5b1 := decide_eq_true c5; clear c5; by_cases c6 : (a1.size : Int) ≤ (a0.size : Int)
   ·rw [if_pos c6] at H; have c6b0 := eq_true c6; have c6b1 := decide_eq_true c6; clear c6; simp only [Option.some.injEq, Prod.mk.injEq] at H; obtain ⟨rfl, rfl⟩ := H; go_enter Try.func126, Try.ntmps126; go_wp2_with (first | ((with_reducible refine Qc (f := 133) rfl ?_); refine Gl 8 Try.func133 #[.string a0, .string a1] ?_; (with_reducible refine (stringslite_HasPrefix.calls a0 a1 true _ A3.out).mono ?_); rintro e w' ⟨rfl, ⟨nd, rfl⟩⟩; refine ⟨_, rfl, ?_⟩)); go_ret2; exact ⟨by first | rfl | (simp; done) | (simp [*]; done), by repeat (first | exact Drawn0.refl _ | apply Drawn0.step)⟩
   ·rw [if_neg c6] at H; exact absurd H (by simp)
  ·rw [if_neg c5] at H; exact absurd H (by simp)
 ·replace c4 := Bool.eq_false_iff.mpr c4
  subst c4; rw [if_neg (show ¬ (false = true) by decide)] at H; simp only [Option.some.injEq, Prod.mk.injEq] at H; obtain ⟨rfl, rfl⟩ := H; go_enter Try.func126, Try.ntmps126; go_wp2_with (first | ((with_reducible refine Qc (f := 133) rfl ?_); refine Gl 8 Try.func133 #[.string a0, .string a1] ?_; (with_reducible refine (stringslite_HasPrefix.calls a0 a1 false _ A3.out).mono ?_); rintro e w' ⟨rfl, ⟨nd, rfl⟩⟩; refine ⟨_, rfl, ?_⟩)); go_ret2; exact ⟨by first | rfl | (simp; done) | (simp [*]; done), by repeat (first | exact Drawn0.refl _ | apply Drawn0.step)⟩
def strings_CutPrefix.f (a0 : ByteArray) (a1 : ByteArray) : Option (ByteArray × Bool) := (stringslite_CutPrefix.f a0 a1).bind fun bt22 => (some (bt22.1, bt22.2))
theorem strings_CutPrefix.calls (a0 : ByteArray) (a1 : ByteArray) (r1 : ByteArray) (r2 : Bool) (w : Qm) (h : strings_CutPrefix.f a0 a1 = some (r1, r2)) :
  Qz Qk 110 #[.string a0, .string a1] w fun e w' => e = .returned (.tuple #[.string r1, .bool r2]) ∧ Drawn0 w w' := by
 have H : ((stringslite_CutPrefix.f a0 a1).bind fun bt22 => (some (bt22.1, bt22.2))) = some (r1, r2) := h
 clear h
 obtain ⟨⟨t22, t36⟩, A3, H⟩ := Ob H
 (try dsimp only at H)
 simp only [Option.some.injEq, Prod.mk.injEq] at H
 obtain ⟨rfl, rfl⟩ := H
 go_enter Try.func110, Try.ntmps110
 go_wp2_with (first | ((with_reducible refine Qc (f := 126) rfl ?_); refine Gl 8 Try.func126 #[.string a0, .string a1] ?_; (with_reducible refine (stringslite_CutPrefix.calls a0 a1 t22 t36 _ A3.out).mono ?_); rintro e w' ⟨rfl, ⟨nd, rfl⟩⟩; refine ⟨_, rfl, ?_⟩))
 go_ret2
 exact ⟨by first | rfl | (simp; done) | (simp [*]; done), by repeat (first | exact Drawn0.refl _ | apply Drawn0.step)⟩
def IsS72 (w0 W : Qm) (g : Nat) (f0 : List ByteArray) (f1 : ByteArray) (f2 : Int) : Prop := ∃ A0 c0, W.heap[g]? = some (.cells #[.slice A0 f0.length c0, .string f1, .int .i64 f2] 72 (0, 0)) ∧ w0.heap.size ≤ g ∧ (Kd.C Kd.string w0 A0 f0.length f0 ∧ f0.length ≤ c0)
theorem IsS72.grown {w0 W : Qm} {g : Nat} {f0 : List ByteArray} {f1 : ByteArray} {f2 : Int} {W1 : Qm} {row : Option Nat} (h : IsS72 w0 W g f0 f1 f2) (hw : W.grownBy W1 row) (hne : some g ≠ row) : IsS72 w0 W1 g f0 f1 f2 := by
 obtain ⟨A0, c0, hb, hg, hr0⟩ := h
 exact ⟨A0, c0, blk_grown hb hw hne, hg, hr0⟩
theorem IsS72.own_neN {w0 W : Qm} {g : Nat} {f0 : List ByteArray} {f1 : ByteArray} {f2 : Int} {α : Type} {d : Kd α} {e : Nat} {base : Nat} {ok : Nat → Prop} {v : Qs} {xs : List α} (h : IsS72 w0 W g f0 f1 f2) (ho : Kd.N d e W base ok v xs) (ht : e ≠ 72) : some g ≠ v.ownBlock := by
 obtain ⟨A0, c0, hb, hg, hr0⟩ := h
 exact Kd.N_ne ho hb ht
theorem IsS72.fresh {w0 W : Qm} {g : Nat} {f0 : List ByteArray} {f1 : ByteArray} {f2 : Int} (h : IsS72 w0 W g f0 f1 f2) : ∀ k, W.heap.size ≤ k → k ≠ g := by
 obtain ⟨A0, c0, hb, hg, hr0⟩ := h
 exact Kd.freshB hb
theorem IsS72.kept {w0 W : Qm} {g : Nat} {f0 : List ByteArray} {f1 : ByteArray} {f2 : Int} {W1 : Qm} {S : Nat → Prop} (h : IsS72 w0 W g f0 f1 f2) (hk : Kept W W1 S) (hne : ¬ S g) : IsS72 w0 W1 g f0 f1 f2 := by
 obtain ⟨A0, c0, hb, hg, hr0⟩ := h
 exact ⟨A0, c0, blk_kept hb hk hne, hg, hr0⟩
theorem IsS72.below {w0 W : Qm} {g : Nat} {f0 : List ByteArray} {f1 : ByteArray} {f2 : Int} {W1 : Qm} (h : IsS72 w0 W g f0 f1 f2) (hw : Below W.heap.size W W1) : IsS72 w0 W1 g f0 f1 f2 := h.grown (grown_of_below hw none) (by simp)
theorem IsS72.alloc {w0 W : Qm} {g : Nat} {f0 : List ByteArray} {f1 : ByteArray} {f2 : Int} (h : IsS72 w0 W g f0 f1 f2) (o : Obj) : IsS72 w0 (W.alloc o) g f0 f1 f2 := h.below (below_alloc (Below.refl _ _) o)
theorem IsS72.drewN {w0 W : Qm} {g : Nat} {f0 : List ByteArray} {f1 : ByteArray} {f2 : Int} (h : IsS72 w0 W g f0 f1 f2) (m : Nat) : IsS72 w0 (W.drewN m) g f0 f1 f2 := h
theorem IsS72.drew {w0 W : Qm} {g : Nat} {f0 : List ByteArray} {f1 : ByteArray} {f2 : Int} (h : IsS72 w0 W g f0 f1 f2) : IsS72 w0 W.drew g f0 f1 f2 := h
theorem IsS72.at_ {w0 W : Qm} {g : Nat} {f0 : List ByteArray} {f1 : ByteArray} {f2 : Int} {w' : Qm} {m : Nat} (hq : W.drewN m = w') (h : IsS72 w0 W g f0 f1 f2) : IsS72 w0 w' g f0 f1 f2 := by subst hq; exact IsS72.drewN h m
theorem IsS72.apart {w0 W : Qm} {g : Nat} {f0 : List ByteArray} {f1 : ByteArray} {f2 : Int} {α : Type} {d : Kd α} {e : Nat} {base : Nat} {ok : Nat → Prop} {v : Qs} {xs : List α} (h : IsS72 w0 W g f0 f1 f2) (ho : d.R e W base ok v xs) (ht : ∀ q, q ∈ e :: d.E → q ≠ 72) : d.R e W base (fun k => ok k ∧ k ≠ g) v xs := by
 obtain ⟨A0, c0, hb, hg, hr0⟩ := h
 exact Kd.R_types ho hb ht
theorem IsS72.own_ne {w0 W : Qm} {g : Nat} {f0 : List ByteArray} {f1 : ByteArray} {f2 : Int} {α : Type} {d : Kd α} {e : Nat} {base : Nat} {ok : Nat → Prop} {v : Qs} {xs : List α} (h : IsS72 w0 W g f0 f1 f2) (ho : d.R e W base ok v xs) (ht : e ≠ 72) : some g ≠ v.ownBlock := by
 obtain ⟨A0, c0, hb, hg, hr0⟩ := h
 exact Kd.R_ne ho hb ht
theorem IsS72.apartQ {w0 W : Qm} {g : Nat} {f0 : List ByteArray} {f1 : ByteArray} {f2 : Int} {α : Type} {d : Kd α} {e : Nat} {base : Nat} {ok : Nat → Prop} {v : Qs} {xs : List α} (h : IsS72 w0 W g f0 f1 f2) (ho : d.Q e W base ok v xs) (ht : ∀ q, q ∈ e :: d.E → q ≠ 72) : d.Q e W base (fun k => ok k ∧ k ≠ g) v xs := by
 obtain ⟨A0, c0, hb, hg, hr0⟩ := h
 exact Kd.Q_types ho hb ht
theorem IsS72.own_neQ {w0 W : Qm} {g : Nat} {f0 : List ByteArray} {f1 : ByteArray} {f2 : Int} {α : Type} {d : Kd α} {e : Nat} {base : Nat} {ok : Nat → Prop} {v : Qs} {xs : List α} (h : IsS72 w0 W g f0 f1 f2) (ho : d.Q e W base ok v xs) (ht : e ≠ 72) : some g ≠ v.ownBlock := by
 obtain ⟨A0, c0, hb, hg, hr0⟩ := h
 exact Kd.Q_ne ho hb ht
theorem IsS72.apartS {w0 W : Qm} {g : Nat} {f0 : List ByteArray} {f1 : ByteArray} {f2 : Int} {α : Type} {d : Kd α} {e : Nat} {base : Nat} {ok : Nat → Prop} {v : Qs} {xs : List α} (h : IsS72 w0 W g f0 f1 f2) (ho : d.S e W base ok v xs) (ht : ∀ q, q ∈ e :: d.E → q ≠ 72) : d.S e W base (fun k => ok k ∧ k ≠ g) v xs := by
 obtain ⟨A0, c0, hb, hg, hr0⟩ := h
 exact Kd.S_types ho hb ht
theorem IsS72.own_neS {w0 W : Qm} {g : Nat} {f0 : List ByteArray} {f1 : ByteArray} {f2 : Int} {α : Type} {d : Kd α} {e : Nat} {base : Nat} {ok : Nat → Prop} {v : Qs} {xs : List α} (h : IsS72 w0 W g f0 f1 f2) (ho : d.S e W base ok v xs) (ht : e ≠ 72) : some g ≠ v.ownBlock := by
 obtain ⟨A0, c0, hb, hg, hr0⟩ := h
 exact Kd.S_ne ho hb ht
theorem IsS72.lt {w0 W : Qm} {g : Nat} {f0 : List ByteArray} {f1 : ByteArray} {f2 : Int} (h : IsS72 w0 W g f0 f1 f2) : g < W.heap.size := by
 obtain ⟨A0, c0, hb, hg, hr0⟩ := h
 exact blk_lt hb
theorem IsS72.ge {w0 W : Qm} {g : Nat} {f0 : List ByteArray} {f1 : ByteArray} {f2 : Int} (h : IsS72 w0 W g f0 f1 f2) : w0.heap.size ≤ g := by
 obtain ⟨A0, c0, hb, hg, hr0⟩ := h
 exact hg
theorem IsS72.ne_blk {w0 W : Qm} {g : Nat} {f0 : List ByteArray} {f1 : ByteArray} {f2 : Int} {a : Nat} {cs : Array Qs} {t : TypeId} {fr : Nat × Nat} (h : IsS72 w0 W g f0 f1 f2) (hb2 : W.heap[a]? = some (.cells cs t fr)) (ht : t ≠ 72) : g ≠ a := by
 obtain ⟨A0, c0, hb, hg, hr0⟩ := h
 rintro rfl
 rw [hb] at hb2
 injection hb2 with hb2
 injection hb2 with _ ht2
 exact ht ht2.symm
theorem IsS72.far {w0 W : Qm} {g : Nat} {f0 : List ByteArray} {f1 : ByteArray} {f2 : Int} {p : Addr} (h : IsS72 w0 W g f0 f1 f2) (hne : g ≠ p.block) (u : Qs) : IsS72 w0 (W.setCell p u) g f0 f1 f2 := by
 obtain ⟨A0, c0, hb, hg, hr0⟩ := h
 exact ⟨A0, c0, blk_far hb hne u, hg, hr0⟩
theorem cellS72_0 {W : Qm} {g : Nat} {A0 : Option Addr} {c0 : Nat} {f0 : List ByteArray} {f1 : ByteArray} {f2 : Int} (h : W.heap[g]? = some (.cells #[.slice A0 f0.length c0, .string f1, .int .i64 f2] 72 (0, 0))) : W.cell? ⟨g, 0, none⟩ = some (.slice A0 f0.length c0) := (Qd h 0).trans rfl
theorem cellS72_1 {W : Qm} {g : Nat} {A0 : Option Addr} {c0 : Nat} {f0 : List ByteArray} {f1 : ByteArray} {f2 : Int} (h : W.heap[g]? = some (.cells #[.slice A0 f0.length c0, .string f1, .int .i64 f2] 72 (0, 0))) : W.cell? ⟨g, 1, none⟩ = some (.string f1) := (Qd h 1).trans rfl
theorem IsS72.set_1 {w0 W : Qm} {g : Nat} {f0 : List ByteArray} {f1 : ByteArray} {f2 : Int} (h : IsS72 w0 W g f0 f1 f2) (x : ByteArray) : IsS72 w0 (W.setCell ⟨g, 1, none⟩ (.string x)) g f0 x f2 := by
 obtain ⟨A0, c0, hb, hg, hr0⟩ := h
 exact ⟨A0, c0, by simpa using blk_set hb 1 (.string x), hg, hr0⟩
theorem cellS72_2 {W : Qm} {g : Nat} {A0 : Option Addr} {c0 : Nat} {f0 : List ByteArray} {f1 : ByteArray} {f2 : Int} (h : W.heap[g]? = some (.cells #[.slice A0 f0.length c0, .string f1, .int .i64 f2] 72 (0, 0))) : W.cell? ⟨g, 2, none⟩ = some (.int .i64 f2) := (Qd h 2).trans rfl
theorem IsS72.set_2 {w0 W : Qm} {g : Nat} {f0 : List ByteArray} {f1 : ByteArray} {f2 : Int} (h : IsS72 w0 W g f0 f1 f2) (x : Int) : IsS72 w0 (W.setCell ⟨g, 2, none⟩ (.int .i64 x)) g f0 f1 x := by
 obtain ⟨A0, c0, hb, hg, hr0⟩ := h
 exact ⟨A0, c0, by simpa using blk_set hb 2 (.int .i64 x), hg, hr0⟩
theorem I72 {p q0 : Prop} (h0 : q0) (f : q0 → p := by intro h0_; repeat (first | (with_reducible first | exact h0_ | apply IsS72.alloc | apply IsS72.drewN | apply IsS72.drew | apply IsS72.set_1 | apply IsS72.set_2) | exact h0_)) : p := f h0
theorem I72x1 {p q0 q1 : Prop} (h0 : q0) (h1 : q1) (f : q0 → q1 → p := by intro h0_ h1_; repeat (first | (with_reducible first | exact h0_ | apply IsS72.alloc | apply IsS72.drewN | apply IsS72.drew | apply IsS72.set_1 | apply IsS72.set_2 | refine IsS72.far ?_ h1_ _) | exact h0_)) : p := f h0 h1
theorem I72x2 {p q0 q1 q2 : Prop} (h0 : q0) (h1 : q1) (h2 : q2) (f : q0 → q1 → q2 → p := by intro h0_ h1_ h2_; repeat (first | (with_reducible first | exact h0_ | apply IsS72.alloc | apply IsS72.drewN | apply IsS72.drew | apply IsS72.set_1 | apply IsS72.set_2 | refine IsS72.far ?_ h1_ _ | refine IsS72.far ?_ h2_ _) | exact h0_)) : p := f h0 h1 h2
theorem I72x3 {p q0 q1 q2 q3 : Prop} (h0 : q0) (h1 : q1) (h2 : q2) (h3 : q3) (f : q0 → q1 → q2 → q3 → p := by intro h0_ h1_ h2_ h3_; repeat (first | (with_reducible first | exact h0_ | apply IsS72.alloc | apply IsS72.drewN | apply IsS72.drew | apply IsS72.set_1 | apply IsS72.set_2 | refine IsS72.far ?_ h1_ _ | refine IsS72.far ?_ h2_ _ | refine IsS72.far ?_ h3_ _) | exact h0_)) : p := f h0 h1 h2 h3
theorem IsS72.new (w0 W : Qm) (A0 : Option Addr) (c0 : Nat) (f0 : List ByteArray) (f1 : ByteArray) (f2 : Int) (hB : Below w0.heap.size w0 W) (hr0 : Kd.C Kd.string w0 A0 f0.length f0 ∧ f0.length ≤ c0) : IsS72 w0 (W.alloc (.cells #[.slice A0 f0.length c0, .string f1, .int .i64 f2] 72)) W.heap.size f0 f1 f2 := ⟨A0, c0, by simpa using heap_alloc_new W _, hB.size, hr0⟩
def impl_formulaReader_cut.f (s0_0 : List ByteArray) (s0_1 : ByteArray) (s0_2 : Int) (a1 : ByteArray) : Option (Bool × ByteArray × Int) := (strings_CutPrefix.f s0_1 a1).bind fun bt23 => (some (bt23.2, bt23.1, s0_2))
theorem impl_formulaReader_cut.calls (g : Nat) (s0_0 : List ByteArray) (s0_1 : ByteArray) (s0_2 : Int) (a1 : ByteArray) (r1 : Bool) (r2 : ByteArray) (r3 : Int) (w0 w : Qm) (hI : IsS72 w0 w g s0_0 s0_1 s0_2) (hB : Below w0.heap.size w0 w) (h : impl_formulaReader_cut.f s0_0 s0_1 s0_2 a1 = some (r1, r2, r3)) :
  Qz Qk 87 #[.pointer (some ⟨g, 0, none⟩), .string a1] w fun e w' => e = .returned (.bool r1) ∧ IsS72 w0 w' g s0_0 r2 r3 ∧ Below w0.heap.size w0 w' ∧ Qu w w' g none := by
 have HI0 := Qa hI
 have HK := Qa (KeepBut.refl w g none)
 have HL := Qa hB.size
 clear hI
 have HW0 := Qa hB.size
 have HB := Qa hB
 clear hB
 have H : ((strings_CutPrefix.f s0_1 a1).bind fun bt23 => (some (bt23.2, bt23.1, s0_2))) = some (r1, r2, r3) := h
 clear h
 obtain ⟨⟨t23, t37⟩, A3, H⟩ := Ob H
 (try dsimp only at H)
 simp only [Option.some.injEq, Prod.mk.injEq] at H
 obtain ⟨rfl, rfl, rfl⟩ := H
 obtain ⟨ASz4_0, cSz4_0, HGz4, hgz4, ⟨HSz4_0, HQz4_0⟩⟩ := HI0.out
 have q4_0 := cellS72_0 HGz4
 have q4_1 := cellS72_1 HGz4
 have q4_2 := cellS72_2 HGz4
 have u4_1 := Qe HGz4 1
 have u4_2 := Qe HGz4 2
 clear HGz4 hgz4
 go_enter Try.func87, Try.ntmps87
 go_wp2_with (first | ((with_reducible refine Qc (f := 110) rfl ?_); refine Gl 13 Try.func110 #[.string s0_1, .string a1] ?_; (with_reducible refine (strings_CutPrefix.calls s0_1 a1 t23 t37 _ A3.out).mono ?_); rintro e w' ⟨rfl, ⟨nd, rfl⟩⟩; refine ⟨_, rfl, ?_⟩))
 go_ret
 exact ⟨Ze, I72 HI0.out, Bb1 HB.out (IsS72.ge HI0.out), Kp HK.out⟩
def impl_formulaReader_variable.l0 : Nat → List ByteArray → Int → Int → List ByteArray → ByteArray → Int → Option (Int × Bool × ByteArray × Int)
 | 0, _, _, _, _, _, _ => none
 | k + 1, x9, x10, x11, x30, x19, x20 => if x11 < x10 then (if 0 ≤ x11 then (if x11 < (x9.length : Int) then (if (rdOf ByteArray.empty x9 x11).size + 1 ≤ 9223372036854775807 then ((impl_formulaReader_cut.f x30 x19 x20 ((rdOf ByteArray.empty x9 x11) ++ (⟨#[58]⟩ : ByteArray))).bind fun bt24 => (if bt24.1 = true then (some (x11, true, bt24.2.1, bt24.2.2)) else (impl_formulaReader_variable.l0 k x9 x10 (wrap64 (x11 + 1)) x30 bt24.2.1 bt24.2.2))) else (none)) else (none)) else (none)) else (some (0, false, x19, x20))
def impl_formulaReader_variable.f (k : Nat) (s0_0 : List ByteArray) (s0_1 : ByteArray) (s0_2 : Int) : Option (Int × Bool × ByteArray × Int) := impl_formulaReader_variable.l0 k s0_0 (s0_0.length : Int) 0 s0_0 s0_1 s0_2
theorem impl_formulaReader_variable.mono_l : ∀ k, (∀ y0 y1 y2 y3 y4 y5, LeO (impl_formulaReader_variable.l0 k y0 y1 y2 y3 y4 y5) (impl_formulaReader_variable.l0 (k + 1) y0 y1 y2 y3 y4 y5))
 | 0 => fun _ _ _ _ _ _ r h => by simp [impl_formulaReader_variable.l0] at h
 | k + 1 => by
  have ih0 := impl_formulaReader_variable.mono_l k
  ·intro y0 y1 y2 y3 y4 y5; unfold impl_formulaReader_variable.l0; exact Lm1 ih0
theorem impl_formulaReader_variable.mono : ∀ a0 a1 a2 k, LeO (impl_formulaReader_variable.f k a0 a1 a2) (impl_formulaReader_variable.f (k + 1) a0 a1 a2) := by
 intro a0 a1 a2 k
 have ih0 := impl_formulaReader_variable.mono_l k
 unfold impl_formulaReader_variable.f
 exact Lm1 ih0
theorem impl_formulaReader_variable.calls (k : Nat) (g : Nat) (s0_0 : List ByteArray) (s0_1 : ByteArray) (s0_2 : Int) (r1 : Int) (r2 : Bool) (r3 : ByteArray) (r4 : Int) (w0 w : Qm) (hI : IsS72 w0 w g s0_0 s0_1 s0_2) (hB : Below w0.heap.size w0 w) (h : impl_formulaReader_variable.f k s0_0 s0_1 s0_2 = some (r1, r2, r3, r4)) :
  Qz Qk 111 #[.pointer (some ⟨g, 0, none⟩)] w fun e w' => e = .returned (.tuple #[.int .i64 r1, .bool r2]) ∧ IsS72 w0 w' g s0_0 r3 r4 ∧ Below w0.heap.size w0 w' ∧ Qu w w' g none := by
 have HI0 := Qa hI
 have HK := Qa (KeepBut.refl w g none)
 have HL := Qa hB.size
 clear hI
 have HW0 := Qa hB.size
 have HB := Qa hB
 clear hB
 have H : (impl_formulaReader_variable.l0 k s0_0 (s0_0.length : Int) 0 s0_0 s0_1 s0_2) = some (r1, r2, r3, r4) := h
 clear h
 have H' := Qa H
 clear H
 obtain ⟨ASz2_0, cSz2_0, HGz2, hgz2, ⟨HSz2_0, HQz2_0⟩⟩ := HI0.out
 have q2_0 := cellS72_0 HGz2
 have q2_1 := cellS72_1 HGz2
 have q2_2 := cellS72_2 HGz2
 have u2_1 := Qe HGz2 1
 have u2_2 := Qe HGz2 2
 clear HGz2 hgz2
 go_enter Try.func111, Try.ntmps111
 go_wp2
 go_loopg [11] k (fun kq v11 w' => ∃ (x11_1 : Int) (x19_1 : ByteArray) (x20_1 : Int), v11 = .int .i64 x11_1 ∧ Qf (impl_formulaReader_variable.l0 kq s0_0 (s0_0.length : Int) x11_1 s0_0 x19_1 x20_1 = some (r1, r2, r3, r4)) ∧ Qf (kq ≤ k) ∧ Qf (IsS72 w0 w' g s0_0 x19_1 x20_1) ∧ Qf (Qu w w' g none) ∧ Qf (Below w0.heap.size w0 w'))
 case atStart => exact ⟨(0), (s0_1), (s0_2), Zf, H', ⟨Nat.le_refl _⟩, ⟨I72 HI0.out⟩, ⟨Kp HK.out⟩, ⟨Bb1 HB.out (IsS72.ge HI0.out)⟩⟩
 case round =>
  clear H'; (try clear c1)
  (try clear p2)
  (try clear q2_0)
  (try clear q2_1)
  (try clear q2_2)
  (try clear u2_1)
  (try clear u2_2)
  obtain ⟨x11_1, x19_1, x20_1, rfl, HA, HK1, HI0, HK, HB⟩ := hrel; cases gk with
  | zero => exact absurd HA.out (by simp [impl_formulaReader_variable.l0])
  | succ k1 =>
   have H := HA.out; clear HA; simp only [impl_formulaReader_variable.l0] at H; by_cases c3 : x11_1 < (s0_0.length : Int)
   ·rw [if_pos c3] at H; replace c3 := decide_eq_true c3; by_cases c4 : 0 ≤ x11_1
    ·rw [if_pos c4] at H; replace c4 := decide_eq_true c4; by_cases c5 : x11_1 < (s0_0.length : Int)
     ·rw [if_pos c5] at H; replace c5 := decide_eq_true c5; by_cases c6 : (rdOf ByteArray.empty s0_0 x11_1).size + 1 ≤ 9223372036854775807
      ·rw [if_pos c6] at H; have c6b0 := eq_true c6; have c6b1 := decide_eq_true c6; try have c6b2 : (9223372036854775807 < (rdOf ByteArray.empty s0_0 x11_1).size + 1) = False := eq_false (Nat.not_lt.2 c6)
       obtain ⟨⟨t24, t31, t33⟩, A7, H⟩ := Ob H; (try dsimp only at H)
       by_cases c8 : t24 = true
       ·subst c8; rw [if_pos rfl] at H; simp only [Option.some.injEq, Prod.mk.injEq] at H; obtain ⟨rfl, rfl, rfl, rfl⟩ := H; obtain ⟨ASz9_0, cSz9_0, HGz9, hgz9, ⟨HSz9_0, HQz9_0⟩⟩ := HI0.out; have q9_0 := cellS72_0 HGz9; have q9_1 := cellS72_1 HGz9; have q9_2 := cellS72_2 HGz9; have u9_1 := Qe HGz9 1; have u9_2 := Qe HGz9 2; clear HGz9 hgz9; have p18 : 0 ≤ (x11_1 : Int) := Da; have q18 : x11_1 < (s0_0.length : Int) := Da; obtain ⟨ad18, e18, hx18_0⟩ := Kd.at_string HSz2_0 x11_1 p18 q18; cases e18
        replace hx18_0 := pw_cell_below HB.out hx18_0; replace p18 := eq_true p18; replace q18 := eq_true q18; go_wp2_with (first | ((with_reducible refine Qc (f := 87) rfl ?_); refine Gl 19 Try.func87 #[.pointer (some ⟨g, 0, none⟩), .string ((rdOf ByteArray.empty s0_0 x11_1) ++ (⟨#[58]⟩ : ByteArray))] ?_; (with_reducible refine (impl_formulaReader_cut.calls g s0_0 x19_1 x20_1 ((rdOf ByteArray.empty s0_0 x11_1) ++ (⟨#[58]⟩ : ByteArray)) true t31 t33 w0 _ ?_ ?_ A7.out).mono ?_); exact I72 HI0.out; exact Bb1 HB.out (IsS72.ge HI0.out); rintro e w10 ⟨rfl, hi, hb, hk⟩; refine ⟨_, rfl, ?_⟩; replace HK := Kk (Kp HK.out) hk; replace HB := Qa (hb); replace HI0 := Qa (hi); clear hb hk hi)); go_ret2; exact ⟨Ze, I72 HI0.out, Bb1 HB.out (IsS72.ge HI0.out), Kp HK.out⟩
       ·replace c8 := Bool.eq_false_iff.mpr c8; subst c8; rw [if_neg (show ¬ (false = true) by decide)] at H; have H' := Qa H; clear H; obtain ⟨ASz11_0, cSz11_0, HGz11, hgz11, ⟨HSz11_0, HQz11_0⟩⟩ := HI0.out; have q11_0 := cellS72_0 HGz11; have q11_1 := cellS72_1 HGz11; have q11_2 := cellS72_2 HGz11; have u11_1 := Qe HGz11 1; have u11_2 := Qe HGz11 2; clear HGz11 hgz11; have p18 : 0 ≤ (x11_1 : Int) := Da; have q18 : x11_1 < (s0_0.length : Int) := Da; obtain ⟨ad18, e18, hx18_0⟩ := Kd.at_string HSz2_0 x11_1 p18 q18; cases e18
        replace hx18_0 := pw_cell_below HB.out hx18_0; replace p18 := eq_true p18; replace q18 := eq_true q18; go_wp2_with (first | ((with_reducible refine Qc (f := 87) rfl ?_); refine Gl 19 Try.func87 #[.pointer (some ⟨g, 0, none⟩), .string ((rdOf ByteArray.empty s0_0 x11_1) ++ (⟨#[58]⟩ : ByteArray))] ?_; (with_reducible refine (impl_formulaReader_cut.calls g s0_0 x19_1 x20_1 ((rdOf ByteArray.empty s0_0 x11_1) ++ (⟨#[58]⟩ : ByteArray)) false t31 t33 w0 _ ?_ ?_ A7.out).mono ?_); exact I72 HI0.out; exact Bb1 HB.out (IsS72.ge HI0.out); rintro e w12 ⟨rfl, hi, hb, hk⟩; refine ⟨_, rfl, ?_⟩; replace HK := Kk (Kp HK.out) hk; replace HB := Qa (hb); replace HI0 := Qa (hi); clear hb hk hi)); go_roundg k1
        case measure => have := HK1.out; omega
        case rel => exact ⟨(wrap64 (x11_1 + 1)), (t31), (t33), Zf, H', ⟨by have := HK1.out; omega⟩, ⟨I72 HI0.out⟩, ⟨Kp HK.out⟩, ⟨Bb1 HB.out (IsS72.ge HI0.out)⟩⟩
      ·rw [if_neg c6] at H; exact absurd H (by simp)
     ·rw [if_neg c5] at H; exact absurd H (by simp)
    ·rw [if_neg c4] at H; exact absurd H (by simp)
   ·rw [if_neg c3] at H; replace c3 := decide_eq_false c3; simp only [Option.some.injEq, Prod.mk.injEq] at H; obtain ⟨rfl, rfl, rfl, rfl⟩ := H; go_wp2; go_ret2; exact ⟨Ze, I72 HI0.out, Bb1 HB.out (IsS72.ge HI0.out), Kp HK.out⟩
def impl_formulaReader_logic.l0 : Nat → Int → List ByteArray → ByteArray → Int → Option (Int × Bool × ByteArray × Int)
 | 0, _, _, _, _ => none
 | k + 1, x5, x30, x19, x20 => if x5 < 4 then ((impl_logicName.f x5).bind fun t21 => ((impl_formulaReader_cut.f x30 x19 x20 t21).bind fun bt25 => (if bt25.1 = true then (some (x5, true, bt25.2.1, bt25.2.2)) else (impl_formulaReader_logic.l0 k (wrap64 (x5 + 1)) x30 bt25.2.1 bt25.2.2)))) else (some (0, false, x19, x20))
def impl_formulaReader_logic.f (k : Nat) (s0_0 : List ByteArray) (s0_1 : ByteArray) (s0_2 : Int) : Option (Int × Bool × ByteArray × Int) := impl_formulaReader_logic.l0 k 0 s0_0 s0_1 s0_2
theorem impl_formulaReader_logic.mono_l : ∀ k, (∀ y0 y1 y2 y3, LeO (impl_formulaReader_logic.l0 k y0 y1 y2 y3) (impl_formulaReader_logic.l0 (k + 1) y0 y1 y2 y3))
 | 0 => fun _ _ _ _ r h => by simp [impl_formulaReader_logic.l0] at h
 | k + 1 => by
  have ih0 := impl_formulaReader_logic.mono_l k
  ·intro y0 y1 y2 y3; unfold impl_formulaReader_logic.l0; exact Lm1 ih0
theorem impl_formulaReader_logic.mono : ∀ a0 a1 a2 k, LeO (impl_formulaReader_logic.f k a0 a1 a2) (impl_formulaReader_logic.f (k + 1) a0 a1 a2) := by
 intro a0 a1 a2 k
 have ih0 := impl_formulaReader_logic.mono_l k
 unfold impl_formulaReader_logic.f
 exact Lm1 ih0
theorem impl_formulaReader_logic.calls (k : Nat) (g : Nat) (s0_0 : List ByteArray) (s0_1 : ByteArray) (s0_2 : Int) (r1 : Int) (r2 : Bool) (r3 : ByteArray) (r4 : Int) (w0 w : Qm) (hI : IsS72 w0 w g s0_0 s0_1 s0_2) (hB : Below w0.heap.size w0 w) (h : impl_formulaReader_logic.f k s0_0 s0_1 s0_2 = some (r1, r2, r3, r4)) :
  Qz Qk 112 #[.pointer (some ⟨g, 0, none⟩)] w fun e w' => e = .returned (.tuple #[.int .i64 r1, .bool r2]) ∧ IsS72 w0 w' g s0_0 r3 r4 ∧ Below w0.heap.size w0 w' ∧ Qu w w' g none := by
 have HI0 := Qa hI
 have HK := Qa (KeepBut.refl w g none)
 have HL := Qa hB.size
 clear hI
 have HW0 := Qa hB.size
 have HB := Qa hB
 clear hB
 have H : (impl_formulaReader_logic.l0 k 0 s0_0 s0_1 s0_2) = some (r1, r2, r3, r4) := h
 clear h
 have H' := Qa H
 clear H
 go_enter Try.func112, Try.ntmps112
 go_wp2
 go_loopg [5] k (fun kq v5 w' => ∃ (x5_1 : Int) (x19_1 : ByteArray) (x20_1 : Int), v5 = .int .i64 x5_1 ∧ Qf (impl_formulaReader_logic.l0 kq x5_1 s0_0 x19_1 x20_1 = some (r1, r2, r3, r4)) ∧ Qf (kq ≤ k) ∧ Qf (IsS72 w0 w' g s0_0 x19_1 x20_1) ∧ Qf (Qu w w' g none) ∧ Qf (Below w0.heap.size w0 w'))
 case atStart => exact ⟨(0), (s0_1), (s0_2), Zf, H', ⟨Nat.le_refl _⟩, ⟨I72 HI0.out⟩, ⟨Kp HK.out⟩, ⟨Bb1 HB.out (IsS72.ge HI0.out)⟩⟩
 case round =>
  clear H'; (try clear c1)
  obtain ⟨x5_1, x19_1, x20_1, rfl, HA, HK1, HI0, HK, HB⟩ := hrel; cases gk with
  | zero => exact absurd HA.out (by simp [impl_formulaReader_logic.l0])
  | succ k1 =>
   have H := HA.out; clear HA; simp only [impl_formulaReader_logic.l0] at H; by_cases c2 : x5_1 < 4
   ·rw [if_pos c2] at H; replace c2 := decide_eq_true c2; obtain ⟨t21, A3, H⟩ := Ob H; (try dsimp only at H)
    obtain ⟨⟨t25, t34, t35⟩, A4, H⟩ := Ob H; (try dsimp only at H)
    by_cases c5 : t25 = true
    ·subst c5; rw [if_pos rfl] at H; simp only [Option.some.injEq, Prod.mk.injEq] at H; obtain ⟨rfl, rfl, rfl, rfl⟩ := H; go_wp2_with (first | ((with_reducible refine Qc (f := 84) rfl ?_); refine Gl 10 Try.func84 #[.int .i64 x5_1] ?_; (with_reducible refine (impl_logicName.calls x5_1 t21 _ A3.out).mono ?_); rintro e w' ⟨rfl, ⟨nd, rfl⟩⟩; refine ⟨_, rfl, ?_⟩) | ((with_reducible refine Qc (f := 87) rfl ?_); refine Gl 11 Try.func87 #[.pointer (some ⟨g, 0, none⟩), .string t21] ?_; (with_reducible refine (impl_formulaReader_cut.calls g s0_0 x19_1 x20_1 t21 true t34 t35 w0 _ ?_ ?_ A4.out).mono ?_); exact I72 HI0.out; exact Bb1 HB.out (IsS72.ge HI0.out); rintro e w6 ⟨rfl, hi, hb, hk⟩; refine ⟨_, rfl, ?_⟩; replace HK := Kk (Kp HK.out) hk; replace HB := Qa (hb); replace HI0 := Qa (hi); clear hb hk hi)); go_ret2; exact ⟨Ze, I72 HI0.out, Bb1 HB.out (IsS72.ge HI0.out), Kp HK.out⟩
    ·replace c5 := Bool.eq_false_iff.mpr c5; subst c5; rw [if_neg (show ¬ (false = true) by decide)] at H; have H' := Qa H; clear H; go_wp2_with (first | ((with_reducible refine Qc (f := 84) rfl ?_); refine Gl 10 Try.func84 #[.int .i64 x5_1] ?_; (with_reducible refine (impl_logicName.calls x5_1 t21 _ A3.out).mono ?_); rintro e w' ⟨rfl, ⟨nd, rfl⟩⟩; refine ⟨_, rfl, ?_⟩) | ((with_reducible refine Qc (f := 87) rfl ?_); refine Gl 11 Try.func87 #[.pointer (some ⟨g, 0, none⟩), .string t21] ?_; (with_reducible refine (impl_formulaReader_cut.calls g s0_0 x19_1 x20_1 t21 false t34 t35 w0 _ ?_ ?_ A4.out).mono ?_); exact I72 HI0.out; exact Bb1 HB.out (IsS72.ge HI0.out); rintro e w7 ⟨rfl, hi, hb, hk⟩; refine ⟨_, rfl, ?_⟩; replace HK := Kk (Kp HK.out) hk; replace HB := Qa (hb); replace HI0 := Qa (hi); clear hb hk hi)); go_roundg k1
     case measure => have := HK1.out; omega
     case rel => exact ⟨(wrap64 (x5_1 + 1)), (t34), (t35), Zf, H', ⟨by have := HK1.out; omega⟩, ⟨I72 HI0.out⟩, ⟨Kp HK.out⟩, ⟨Bb1 HB.out (IsS72.ge HI0.out)⟩⟩
   ·rw [if_neg c2] at H; replace c2 := decide_eq_false c2; simp only [Option.some.injEq, Prod.mk.injEq] at H; obtain ⟨rfl, rfl, rfl, rfl⟩ := H; go_wp2; go_ret2; exact ⟨Ze, I72 HI0.out, Bb1 HB.out (IsS72.ge HI0.out), Kp HK.out⟩
end Go.Proofs.Ytoljagpjejpmpaa.PFnExactParseFormula
