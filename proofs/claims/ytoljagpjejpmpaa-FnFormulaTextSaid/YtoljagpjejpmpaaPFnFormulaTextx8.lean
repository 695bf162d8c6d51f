/- A part of the walk through the printed functions; no condition. -/
import Derived.Test.YtoljagpjejpmpaaXAuto
import Derived.Test.YtoljagpjejpmpaaPFnFormulaTextx0
import Derived.Test.YtoljagpjejpmpaaPFnFormulaTextx6
import Derived.Test.YtoljagpjejpmpaaPFnFormulaTextx7
namespace Go.Proofs.Ytoljagpjejpmpaa.PFnFormulaText
open Go.RowKit Go.Proofs.YtoljagpjejpmpaaW.PrintWords Go.Proofs.YtoljagpjejpmpaaW.PrintLast Go.Proofs.YtoljagpjejpmpaaW.PrintMore
attribute [local go_sem] max2_int min2_int max_two min_two max_three min_three max_four min_four
set_option maxHeartbeats 32000000
set_option maxRecDepth 100000
attribute [local irreducible] Go.World.setCell
set_option linter.unusedVariables false
set_option linter.unusedSimpArgs false
open Go.Proofs.YtoljagpjejpmpaaW.PrintWords.Aside0 renaming mk → Qa
open Go.Proofs.YtoljagpjejpmpaaW.PrintWords renaming gate_callee → Qb, blk_cell → Qd, blk_frozen → Qe, gate_dst → Qk, KeepBut → Qx
open Go.RowKit renaming wrap64 → Qg, Below → Qs
open Go.Proofs.Try renaming prog → Qi, func70 → Zq
open Go renaming World → Qn, Value → Qv, Calls → Zj
def impl_FormulaText.f (k : Nat) (l0 : List ByteArray) (a1_0 : Int) (a1_1 : Int) (a1_2 : Int) (a1_3 : Int) (l1_4 : List (S32)) : Option (ByteArray) := (impl_AreVars.f k l0).bind fun t28 => (if t28 = true then ((impl_IsFormula.f k (l0.length : Int) a1_0 a1_1 a1_2 a1_3 l1_4).bind fun t29 => (if t29 = true then ((impl_Formula_text.f k a1_0 a1_1 a1_2 a1_3 l1_4 l0).bind fun t30 => (some t30)) else (some (⟨#[]⟩ : ByteArray)))) else (some (⟨#[]⟩ : ByteArray)))
theorem impl_FormulaText.mono : ∀ a0 a1 a2 a3 a4 a5 k, LeO (impl_FormulaText.f k a0 a1 a2 a3 a4 a5) (impl_FormulaText.f (k + 1) a0 a1 a2 a3 a4 a5) := by
 intro a0 a1 a2 a3 a4 a5 k
 unfold impl_FormulaText.f
 exact Lm3 impl_AreVars.mono impl_Formula_text.mono impl_IsFormula.mono
theorem impl_FormulaText.calls (k : Nat) (A0 : Option Addr) (c0 : Nat) (l0 : List ByteArray) (a1_0 : Int) (a1_1 : Int) (a1_2 : Int) (a1_3 : Int) (A1_4 : Option Addr) (c1_4 : Nat) (l1_4 : List (S32)) (r : ByteArray) (w : Qn) (hr0 : Kd.C Kd.string w A0 l0.length l0) (hc0 : l0.length ≤ c0) (hr1_4 : Kd.C k32 w A1_4 l1_4.length l1_4) (hc1_4 : l1_4.length ≤ c1_4) (h : impl_FormulaText.f k l0 a1_0 a1_1 a1_2 a1_3 l1_4 = some r) :
  Zj Qi 13 #[.slice A0 l0.length c0, .agg #[.int .i64 a1_0, .int .i64 a1_1, .int .i64 a1_2, .int .i64 a1_3, .slice A1_4 l1_4.length c1_4]] w fun e w' => e = .returned (.string r) ∧ Qs w.heap.size w w' := by
 have hu32 := Try.underlying32
 have HR0 := Qa hr0
 have HC0 := Qa hc0
 clear hr0 hc0
 have HR1_4 := Qa hr1_4
 have HC1_4 := Qa hc1_4
 clear hr1_4 hc1_4
 have HB := Qa (Below.refl w.heap.size w)
 have H : ((impl_AreVars.f k l0).bind fun t28 => (if t28 = true then ((impl_IsFormula.f k (l0.length : Int) a1_0 a1_1 a1_2 a1_3 l1_4).bind fun t29 => (if t29 = true then ((impl_Formula_text.f k a1_0 a1_1 a1_2 a1_3 l1_4 l0).bind fun t30 => (some t30)) else (some (⟨#[]⟩ : ByteArray)))) else (some (⟨#[]⟩ : ByteArray)))) = some r := h
 clear h
 obtain ⟨t28, A3, H⟩ := Ob H
 (try dsimp only at H)
 by_cases c4 : t28 = true
 ·subst c4
  rw [if_pos rfl] at H; obtain ⟨t29, A5, H⟩ := Ob H; (try dsimp only at H)
  by_cases c6 : t29 = true
  ·subst c6; rw [if_pos rfl] at H; obtain ⟨t30, A7, H⟩ := Ob H; (try dsimp only at H)
   obtain rfl := Option.some.inj H; go_enter Try.func13, Try.ntmps13; go_wp2_with (first | ((with_reducible refine Qk (N := 3) rfl ?_); (try (refine gate_guard (by rfl) ?_; dsimp only)); refine Bx (N := 3) (cs := #[.int .i64 a1_0, .int .i64 a1_1, .int .i64 a1_2, .int .i64 a1_3, .slice A1_4 l1_4.length c1_4]) (t := 32) ?_; intro gb17 hg w8 hbox hb; have BK17 := Qa (hbox); have GW17 := Gs (w := w) hg (Bb0 HB.out); have GE17 := GW17; replace HB := Sb (Bb0 HB.out) hb; clear hb hbox hg) | ((with_reducible refine Qb (f := 46) rfl ?_); refine Gl 6 Try.func46 #[.slice A0 l0.length c0] ?_; (with_reducible refine (impl_AreVars.calls k _ _ l0 true _ ?_ ?_ A3.out).mono ?_); exact Bc (Kd.C_below HR0.out HB.out); exact HC0.out; rintro e w' ⟨rfl, ⟨nd, rfl⟩⟩; refine ⟨_, rfl, ?_⟩; obtain ⟨q9_0, q9_1, q9_2, q9_3, q9_4, u9_0, u9_1, u9_2, u9_3, u9_4⟩ := Cf5 BK17) | (go_at_call 36; (with_reducible refine (impl_IsFormula.calls k (l0.length : Int) a1_0 a1_1 a1_2 a1_3 _ _ l1_4 true _ ?_ ?_ A5.out).mono ?_); exact Bc (Kd.C_below HR1_4.out (Bb1 HB.out GE17.out)); exact HC1_4.out; rintro e w10 ⟨rfl, hb⟩; replace BK17 := Kb BK17 hb; replace HB := Sb (Bb1 HB.out GE17.out) hb; clear hb; obtain ⟨q11_0, q11_1, q11_2, q11_3, q11_4, u11_0, u11_1, u11_2, u11_3, u11_4⟩ := Cf5 BK17) | ((with_reducible refine Qb (f := 47) rfl ?_); refine Gl 17 Try.func47 #[.agg #[.int .i64 a1_0, .int .i64 a1_1, .int .i64 a1_2, .int .i64 a1_3, .slice A1_4 l1_4.length c1_4], .slice A0 l0.length c0] ?_; (with_reducible refine (impl_Formula_text.calls k a1_0 a1_1 a1_2 a1_3 _ _ l1_4 _ _ l0 t30 _ ?side1 ?side2 ?side3 ?side4 A7.out).mono ?_); (case side1 => exact Bc (Kd.C_below HR1_4.out HB.out)); (case side2 => exact HC1_4.out); (case side3 => exact Bc (Kd.C_below HR0.out HB.out)); (case side4 => exact HC0.out); rintro e w12 ⟨rfl, hb⟩; refine ⟨_, rfl, ?_⟩; replace BK17 := Kb BK17 hb; replace HB := Sb (Bb1 HB.out GE17.out) hb; clear hb)); go_ret; exact ⟨Ze, Bb1 HB.out GE17.out⟩
  ·replace c6 := Bool.eq_false_iff.mpr c6; subst c6; rw [if_neg (show ¬ (false = true) by decide)] at H; obtain rfl := Option.some.inj H; go_enter Try.func13, Try.ntmps13; go_wp2_with (first | ((with_reducible refine Qk (N := 3) rfl ?_); (try (refine gate_guard (by rfl) ?_; dsimp only)); refine Bx (N := 3) (cs := #[.int .i64 a1_0, .int .i64 a1_1, .int .i64 a1_2, .int .i64 a1_3, .slice A1_4 l1_4.length c1_4]) (t := 32) ?_; intro gb17 hg w13 hbox hb; have BK17 := Qa (hbox); have GW17 := Gs (w := w) hg (Bb0 HB.out); have GE17 := GW17; replace HB := Sb (Bb0 HB.out) hb; clear hb hbox hg) | ((with_reducible refine Qb (f := 46) rfl ?_); refine Gl 6 Try.func46 #[.slice A0 l0.length c0] ?_; (with_reducible refine (impl_AreVars.calls k _ _ l0 true _ ?_ ?_ A3.out).mono ?_); exact Bc (Kd.C_below HR0.out HB.out); exact HC0.out; rintro e w' ⟨rfl, ⟨nd, rfl⟩⟩; refine ⟨_, rfl, ?_⟩; obtain ⟨q14_0, q14_1, q14_2, q14_3, q14_4, u14_0, u14_1, u14_2, u14_3, u14_4⟩ := Cf5 BK17) | (go_at_call 36; (with_reducible refine (impl_IsFormula.calls k (l0.length : Int) a1_0 a1_1 a1_2 a1_3 _ _ l1_4 false _ ?_ ?_ A5.out).mono ?_); exact Bc (Kd.C_below HR1_4.out (Bb1 HB.out GE17.out)); exact HC1_4.out; rintro e w15 ⟨rfl, hb⟩; replace BK17 := Kb BK17 hb; replace HB := Sb (Bb1 HB.out GE17.out) hb; clear hb)); go_ret; exact ⟨Ze, Bb1 HB.out GE17.out⟩
 ·replace c4 := Bool.eq_false_iff.mpr c4
  subst c4; rw [if_neg (show ¬ (false = true) by decide)] at H; obtain rfl := Option.some.inj H; go_enter Try.func13, Try.ntmps13; go_wp2_with (first | ((with_reducible refine Qk (N := 3) rfl ?_); (try (refine gate_guard (by rfl) ?_; dsimp only)); refine Bx (N := 3) (cs := #[.int .i64 a1_0, .int .i64 a1_1, .int .i64 a1_2, .int .i64 a1_3, .slice A1_4 l1_4.length c1_4]) (t := 32) ?_; intro gb17 hg w16 hbox hb; have BK17 := Qa (hbox); have GW17 := Gs (w := w) hg (Bb0 HB.out); have GE17 := GW17; replace HB := Sb (Bb0 HB.out) hb; clear hb hbox hg) | ((with_reducible refine Qb (f := 46) rfl ?_); refine Gl 6 Try.func46 #[.slice A0 l0.length c0] ?_; (with_reducible refine (impl_AreVars.calls k _ _ l0 false _ ?_ ?_ A3.out).mono ?_); exact Bc (Kd.C_below HR0.out HB.out); exact HC0.out; rintro e w' ⟨rfl, ⟨nd, rfl⟩⟩; refine ⟨_, rfl, ?_⟩)); go_ret; exact ⟨Ze, Bb1 HB.out GE17.out⟩
def laws_big.f (l0 : List Int) : Option (Bool) := some (decide ((l0.length : Int) > 1048576))
theorem laws_big.calls (A0 : Option Addr) (c0 : Nat) (l0 : List Int) (r : Bool) (w : Qn) (hr0 : Kd.C (Kd.int .u8) w A0 l0.length l0) (hc0 : l0.length ≤ c0) (h : laws_big.f l0 = some r) :
  Zj Qi 16 #[.slice A0 l0.length c0] w fun e w' => e = .returned (.bool r) ∧ Drawn0 w w' := by
 have HR0 := Qa hr0
 have HC0 := Qa hc0
 clear hr0 hc0
 have H : (some (decide ((l0.length : Int) > 1048576))) = some r := h
 clear h
 obtain rfl := Option.some.inj H
 go_enter Try.func16, Try.ntmps16
 go_wp2
 go_ret
 exact ⟨by first | rfl | (simp; done) | (simp [*]; done), by repeat (first | exact Drawn0.refl _ | apply Drawn0.step)⟩
def spec_l2Vars.f  : Option (List ByteArray) := some (([(⟨#[120]⟩ : ByteArray), (⟨#[121]⟩ : ByteArray), (⟨#[116]⟩ : ByteArray)] : List ByteArray))
theorem spec_l2Vars.calls  (r : List ByteArray) (w : Qn) (h : spec_l2Vars.f  = some r) :
  Zj Qi 49 #[] w fun e w' => ∃ v0_ : Qv, e = .returned (v0_) ∧ Kd.R Kd.string 9 w' w.heap.size (fun _ => True) v0_ r ∧ Qs w.heap.size w w' := by
 have HB := Qa (Below.refl w.heap.size w)
 have H : (some (([(⟨#[120]⟩ : ByteArray), (⟨#[121]⟩ : ByteArray), (⟨#[116]⟩ : ByteArray)] : List ByteArray))) = some r := h
 clear h
 obtain ⟨y27, hy27⟩ : ∃ y_ : List ByteArray, y_ = (([(⟨#[120]⟩ : ByteArray), (⟨#[121]⟩ : ByteArray), (⟨#[116]⟩ : ByteArray)] : List ByteArray)) := ⟨_, rfl⟩
 replace H : (some y27) = some r := Zh hy27 H
 have Ny27 := Qa hy27
 clear hy27
 obtain rfl := Option.some.inj H
 go_enter Try.func49, Try.ntmps49
 go_wp2_with (first | ((with_reducible refine Qk (N := 1) rfl ?_); refine Kd.R_lit Kd.string _ 9 ?hg (N := 1) ?hd (xs := ([(⟨#[120]⟩ : ByteArray), (⟨#[121]⟩ : ByteArray), (⟨#[116]⟩ : ByteArray)] : List ByteArray)) (inner := [.string (⟨#[120]⟩ : ByteArray), .string (⟨#[121]⟩ : ByteArray), .string (⟨#[116]⟩ : ByteArray)]) (ok := fun _ => True) (okp := fun _ => True) ?hr ?hp (fun _ hk => hk) trivial (Below.refl _ _) (Nat.le_refl _) (by simp) ?_; (case hd => rfl); (case hg => rfl); (case hr => first | (go_simp; done) | (go_simp; rfl)); (case hp => exact (Reps.one (show Kd.M Kd.string _ _ _ (⟨#[120]⟩ : ByteArray) [.string (⟨#[120]⟩ : ByteArray)] from rfl) (Reps.one (show Kd.M Kd.string _ _ _ (⟨#[121]⟩ : ByteArray) [.string (⟨#[121]⟩ : ByteArray)] from rfl) (Reps.one (show Kd.M Kd.string _ _ _ (⟨#[116]⟩ : ByteArray) [.string (⟨#[116]⟩ : ByteArray)] from rfl) (Reps.none _ _))))); intro v47 w1 ho2 hb hg_ hnew_; clear hg_ hnew_; (first | rw [← Ny27.out] at ho2 | (simp only [Int.reduceToNat] at ho2; rw [← Ny27.out] at ho2)); have HO38 := Lw ho2 (Bb0 HB.out); replace HB := Sb (Bb0 HB.out) hb; clear hb ho2))
 go_ret
 exact ⟨_, Ze, Br HO38.out, Bb0 HB.out⟩
def IsS99 (w0 W : Qn) (g : Nat) (f0 : List Int) (f1 : Int) (f2 : Int) : Prop := ∃ A0 c0, W.heap[g]? = some (.cells #[.slice A0 f0.length c0, .int .i64 f1, .int .i64 f2] 99 (0, 0)) ∧ w0.heap.size ≤ g ∧ (Kd.C (Kd.int .u8) w0 A0 f0.length f0 ∧ f0.length ≤ c0)
theorem IsS99.grown {w0 W : Qn} {g : Nat} {f0 : List Int} {f1 : Int} {f2 : Int} {W1 : Qn} {row : Option Nat} (h : IsS99 w0 W g f0 f1 f2) (hw : W.grownBy W1 row) (hne : some g ≠ row) : IsS99 w0 W1 g f0 f1 f2 := by
 obtain ⟨A0, c0, hb, hg, hr0⟩ := h
 exact ⟨A0, c0, blk_grown hb hw hne, hg, hr0⟩
theorem IsS99.own_neN {w0 W : Qn} {g : Nat} {f0 : List Int} {f1 : Int} {f2 : Int} {α : Type} {d : Kd α} {e : Nat} {base : Nat} {ok : Nat → Prop} {v : Qv} {xs : List α} (h : IsS99 w0 W g f0 f1 f2) (ho : Kd.N d e W base ok v xs) (ht : e ≠ 99) : some g ≠ v.ownBlock := by
 obtain ⟨A0, c0, hb, hg, hr0⟩ := h
 exact Kd.N_ne ho hb ht
theorem IsS99.fresh {w0 W : Qn} {g : Nat} {f0 : List Int} {f1 : Int} {f2 : Int} (h : IsS99 w0 W g f0 f1 f2) : ∀ k, W.heap.size ≤ k → k ≠ g := by
 obtain ⟨A0, c0, hb, hg, hr0⟩ := h
 exact Kd.freshB hb
theorem IsS99.kept {w0 W : Qn} {g : Nat} {f0 : List Int} {f1 : Int} {f2 : Int} {W1 : Qn} {S : Nat → Prop} (h : IsS99 w0 W g f0 f1 f2) (hk : Kept W W1 S) (hne : ¬ S g) : IsS99 w0 W1 g f0 f1 f2 := by
 obtain ⟨A0, c0, hb, hg, hr0⟩ := h
 exact ⟨A0, c0, blk_kept hb hk hne, hg, hr0⟩
theorem IsS99.below {w0 W : Qn} {g : Nat} {f0 : List Int} {f1 : Int} {f2 : Int} {W1 : Qn} (h : IsS99 w0 W g f0 f1 f2) (hw : Qs W.heap.size W W1) : IsS99 w0 W1 g f0 f1 f2 := h.grown (grown_of_below hw none) (by simp)
theorem IsS99.alloc {w0 W : Qn} {g : Nat} {f0 : List Int} {f1 : Int} {f2 : Int} (h : IsS99 w0 W g f0 f1 f2) (o : Obj) : IsS99 w0 (W.alloc o) g f0 f1 f2 := h.below (below_alloc (Below.refl _ _) o)
theorem IsS99.drewN {w0 W : Qn} {g : Nat} {f0 : List Int} {f1 : Int} {f2 : Int} (h : IsS99 w0 W g f0 f1 f2) (m : Nat) : IsS99 w0 (W.drewN m) g f0 f1 f2 := h
theorem IsS99.drew {w0 W : Qn} {g : Nat} {f0 : List Int} {f1 : Int} {f2 : Int} (h : IsS99 w0 W g f0 f1 f2) : IsS99 w0 W.drew g f0 f1 f2 := h
theorem IsS99.at_ {w0 W : Qn} {g : Nat} {f0 : List Int} {f1 : Int} {f2 : Int} {w' : Qn} {m : Nat} (hq : W.drewN m = w') (h : IsS99 w0 W g f0 f1 f2) : IsS99 w0 w' g f0 f1 f2 := by subst hq; exact IsS99.drewN h m
theorem IsS99.apart {w0 W : Qn} {g : Nat} {f0 : List Int} {f1 : Int} {f2 : Int} {α : Type} {d : Kd α} {e : Nat} {base : Nat} {ok : Nat → Prop} {v : Qv} {xs : List α} (h : IsS99 w0 W g f0 f1 f2) (ho : d.R e W base ok v xs) (ht : ∀ q, q ∈ e :: d.E → q ≠ 99) : d.R e W base (fun k => ok k ∧ k ≠ g) v xs := by
 obtain ⟨A0, c0, hb, hg, hr0⟩ := h
 exact Kd.R_types ho hb ht
theorem IsS99.own_ne {w0 W : Qn} {g : Nat} {f0 : List Int} {f1 : Int} {f2 : Int} {α : Type} {d : Kd α} {e : Nat} {base : Nat} {ok : Nat → Prop} {v : Qv} {xs : List α} (h : IsS99 w0 W g f0 f1 f2) (ho : d.R e W base ok v xs) (ht : e ≠ 99) : some g ≠ v.ownBlock := by
 obtain ⟨A0, c0, hb, hg, hr0⟩ := h
 exact Kd.R_ne ho hb ht
theorem IsS99.apartQ {w0 W : Qn} {g : Nat} {f0 : List Int} {f1 : Int} {f2 : Int} {α : Type} {d : Kd α} {e : Nat} {base : Nat} {ok : Nat → Prop} {v : Qv} {xs : List α} (h : IsS99 w0 W g f0 f1 f2) (ho : d.Q e W base ok v xs) (ht : ∀ q, q ∈ e :: d.E → q ≠ 99) : d.Q e W base (fun k => ok k ∧ k ≠ g) v xs := by
 obtain ⟨A0, c0, hb, hg, hr0⟩ := h
 exact Kd.Q_types ho hb ht
theorem IsS99.own_neQ {w0 W : Qn} {g : Nat} {f0 : List Int} {f1 : Int} {f2 : Int} {α : Type} {d : Kd α} {e : Nat} {base : Nat} {ok : Nat → Prop} {v : Qv} {xs : List α} (h : IsS99 w0 W g f0 f1 f2) (ho : d.Q e W base ok v xs) (ht : e ≠ 99) : some g ≠ v.ownBlock := by
 obtain ⟨A0, c0, hb, hg, hr0⟩ := h
 exact Kd.Q_ne ho hb ht
theorem IsS99.apartS {w0 W : Qn} {g : Nat} {f0 : List Int} {f1 : Int} {f2 : Int} {α : Type} {d : Kd α} {e : Nat} {base : Nat} {ok : Nat → Prop} {v : Qv} {xs : List α} (h : IsS99 w0 W g f0 f1 f2) (ho : d.S e W base ok v xs) (ht : ∀ q, q ∈ e :: d.E → q ≠ 99) : d.S e W base (fun k => ok k ∧ k ≠ g) v xs := by
 obtain ⟨A0, c0, hb, hg, hr0⟩ := h
 exact Kd.S_types ho hb ht
theorem IsS99.own_neS {w0 W : Qn} {g : Nat} {f0 : List Int} {f1 : Int} {f2 : Int} {α : Type} {d : Kd α} {e : Nat} {base : Nat} {ok : Nat → Prop} {v : Qv} {xs : List α} (h : IsS99 w0 W g f0 f1 f2) (ho : d.S e W base ok v xs) (ht : e ≠ 99) : some g ≠ v.ownBlock := by
 obtain ⟨A0, c0, hb, hg, hr0⟩ := h
 exact Kd.S_ne ho hb ht
theorem IsS99.lt {w0 W : Qn} {g : Nat} {f0 : List Int} {f1 : Int} {f2 : Int} (h : IsS99 w0 W g f0 f1 f2) : g < W.heap.size := by
 obtain ⟨A0, c0, hb, hg, hr0⟩ := h
 exact blk_lt hb
theorem IsS99.ge {w0 W : Qn} {g : Nat} {f0 : List Int} {f1 : Int} {f2 : Int} (h : IsS99 w0 W g f0 f1 f2) : w0.heap.size ≤ g := by
 obtain ⟨A0, c0, hb, hg, hr0⟩ := h
 exact hg
theorem IsS99.ne_blk {w0 W : Qn} {g : Nat} {f0 : List Int} {f1 : Int} {f2 : Int} {a : Nat} {cs : Array Qv} {t : TypeId} {fr : Nat × Nat} (h : IsS99 w0 W g f0 f1 f2) (hb2 : W.heap[a]? = some (.cells cs t fr)) (ht : t ≠ 99) : g ≠ a := by
 obtain ⟨A0, c0, hb, hg, hr0⟩ := h
 rintro rfl
 rw [hb] at hb2
 injection hb2 with hb2
 injection hb2 with _ ht2
 exact ht ht2.symm
theorem IsS99.far {w0 W : Qn} {g : Nat} {f0 : List Int} {f1 : Int} {f2 : Int} {p : Addr} (h : IsS99 w0 W g f0 f1 f2) (hne : g ≠ p.block) (u : Qv) : IsS99 w0 (W.setCell p u) g f0 f1 f2 := by
 obtain ⟨A0, c0, hb, hg, hr0⟩ := h
 exact ⟨A0, c0, blk_far hb hne u, hg, hr0⟩
theorem cellS99_0 {W : Qn} {g : Nat} {A0 : Option Addr} {c0 : Nat} {f0 : List Int} {f1 : Int} {f2 : Int} (h : W.heap[g]? = some (.cells #[.slice A0 f0.length c0, .int .i64 f1, .int .i64 f2] 99 (0, 0))) : W.cell? ⟨g, 0, none⟩ = some (.slice A0 f0.length c0) := (Qd h 0).trans rfl
theorem cellS99_1 {W : Qn} {g : Nat} {A0 : Option Addr} {c0 : Nat} {f0 : List Int} {f1 : Int} {f2 : Int} (h : W.heap[g]? = some (.cells #[.slice A0 f0.length c0, .int .i64 f1, .int .i64 f2] 99 (0, 0))) : W.cell? ⟨g, 1, none⟩ = some (.int .i64 f1) := (Qd h 1).trans rfl
theorem IsS99.set_1 {w0 W : Qn} {g : Nat} {f0 : List Int} {f1 : Int} {f2 : Int} (h : IsS99 w0 W g f0 f1 f2) (x : Int) : IsS99 w0 (W.setCell ⟨g, 1, none⟩ (.int .i64 x)) g f0 x f2 := by
 obtain ⟨A0, c0, hb, hg, hr0⟩ := h
 exact ⟨A0, c0, by simpa using blk_set hb 1 (.int .i64 x), hg, hr0⟩
theorem cellS99_2 {W : Qn} {g : Nat} {A0 : Option Addr} {c0 : Nat} {f0 : List Int} {f1 : Int} {f2 : Int} (h : W.heap[g]? = some (.cells #[.slice A0 f0.length c0, .int .i64 f1, .int .i64 f2] 99 (0, 0))) : W.cell? ⟨g, 2, none⟩ = some (.int .i64 f2) := (Qd h 2).trans rfl
theorem IsS99.set_2 {w0 W : Qn} {g : Nat} {f0 : List Int} {f1 : Int} {f2 : Int} (h : IsS99 w0 W g f0 f1 f2) (x : Int) : IsS99 w0 (W.setCell ⟨g, 2, none⟩ (.int .i64 x)) g f0 f1 x := by
 obtain ⟨A0, c0, hb, hg, hr0⟩ := h
 exact ⟨A0, c0, by simpa using blk_set hb 2 (.int .i64 x), hg, hr0⟩
theorem I99 {p q0 : Prop} (h0 : q0) (f : q0 → p := by intro h0_; repeat (first | (with_reducible first | exact h0_ | apply IsS99.alloc | apply IsS99.drewN | apply IsS99.drew | apply IsS99.set_1 | apply IsS99.set_2) | exact h0_)) : p := f h0
theorem Ik99 {w0 w W w1 : Qn} {g : Nat} {f0 : List Int} {f1 : Int} {f2 : Int} {α : Type} {d : Kd α} {e : Nat} {base : Nat} {ok : Nat → Prop} {v : Qv} {xs : List α} (h : IsS99 w0 W g f0 f1 f2) (ho : Aside0 (Kd.R d e w base ok v xs)) (hk : Qx W w1 g none) (ht : ∀ q, q ∈ e :: d.E → q ≠ 99 := by decide) (f : Kd.R d e w base ok v xs → Kd.R d e W base ok v xs := by intro h0_; (with_reducible repeat (first | apply Kd.R_alloc | apply Kd.R_drewN | apply Kd.R_drew)); exact h0_) : Aside0 (Kd.R d e w1 base ok v xs) := ⟨Kd.R_mono (Kd.R_keep (IsS99.apart h (f ho.out) ht) hk (fun _ h => h.2)) (fun _ h => h.1)⟩
theorem I99x1 {p q0 q1 : Prop} (h0 : q0) (h1 : q1) (f : q0 → q1 → p := by intro h0_ h1_; repeat (first | (with_reducible first | exact h0_ | apply IsS99.alloc | apply IsS99.drewN | apply IsS99.drew | apply IsS99.set_1 | apply IsS99.set_2 | refine IsS99.far ?_ h1_ _) | exact h0_)) : p := f h0 h1
theorem I99x2 {p q0 q1 q2 : Prop} (h0 : q0) (h1 : q1) (h2 : q2) (f : q0 → q1 → q2 → p := by intro h0_ h1_ h2_; repeat (first | (with_reducible first | exact h0_ | apply IsS99.alloc | apply IsS99.drewN | apply IsS99.drew | apply IsS99.set_1 | apply IsS99.set_2 | refine IsS99.far ?_ h1_ _ | refine IsS99.far ?_ h2_ _) | exact h0_)) : p := f h0 h1 h2
theorem I99x3 {p q0 q1 q2 q3 : Prop} (h0 : q0) (h1 : q1) (h2 : q2) (h3 : q3) (f : q0 → q1 → q2 → q3 → p := by intro h0_ h1_ h2_ h3_; repeat (first | (with_reducible first | exact h0_ | apply IsS99.alloc | apply IsS99.drewN | apply IsS99.drew | apply IsS99.set_1 | apply IsS99.set_2 | refine IsS99.far ?_ h1_ _ | refine IsS99.far ?_ h2_ _ | refine IsS99.far ?_ h3_ _) | exact h0_)) : p := f h0 h1 h2 h3
theorem I99x4 {p q0 q1 q2 q3 q4 : Prop} (h0 : q0) (h1 : q1) (h2 : q2) (h3 : q3) (h4 : q4) (f : q0 → q1 → q2 → q3 → q4 → p := by intro h0_ h1_ h2_ h3_ h4_; repeat (first | (with_reducible first | exact h0_ | apply IsS99.alloc | apply IsS99.drewN | apply IsS99.drew | apply IsS99.set_1 | apply IsS99.set_2 | refine IsS99.far ?_ h1_ _ | refine IsS99.far ?_ h2_ _ | refine IsS99.far ?_ h3_ _ | refine IsS99.far ?_ h4_ _) | exact h0_)) : p := f h0 h1 h2 h3 h4
theorem IsS99.new (w0 W : Qn) (A0 : Option Addr) (c0 : Nat) (f0 : List Int) (f1 : Int) (f2 : Int) (hB : Qs w0.heap.size w0 W) (hr0 : Kd.C (Kd.int .u8) w0 A0 f0.length f0 ∧ f0.length ≤ c0) : IsS99 w0 (W.alloc (.cells #[.slice A0 f0.length c0, .int .i64 f1, .int .i64 f2] 99)) W.heap.size f0 f1 f2 := ⟨A0, c0, by simpa using heap_alloc_new W _, hB.size, hr0⟩
def spec_l1Byte.f (s0_0 : List Int) (s0_1 : Int) (s0_2 : Int) : Option (Int × Int × Int) := if s0_1 < (s0_0.length : Int) then (if 0 ≤ s0_1 then (some (Go.bits .and .i64 (Qg ((Go.bits .and .i64 (Go.bits .xor .i64 ((Qg ((Qg (s0_2 * 6364136223846793005)) + 1442695040888963407)) / 8589934592) ((Qg ((Qg (s0_2 * 6364136223846793005)) + 1442695040888963407)) / 35184372088832)) 255) + (Qg (rd s0_0 s0_1)))) 255, Qg (s0_1 + 1), Qg ((Qg (s0_2 * 6364136223846793005)) + 1442695040888963407))) else (none)) else (some (Go.bits .and .i64 (Go.bits .xor .i64 ((Qg ((Qg (s0_2 * 6364136223846793005)) + 1442695040888963407)) / 8589934592) ((Qg ((Qg (s0_2 * 6364136223846793005)) + 1442695040888963407)) / 35184372088832)) 255, s0_1, Qg ((Qg (s0_2 * 6364136223846793005)) + 1442695040888963407)))
theorem spec_l1Byte.calls (g : Nat) (s0_0 : List Int) (s0_1 : Int) (s0_2 : Int) (r1 : Int) (r2 : Int) (r3 : Int) (w0 w : Qn) (hI : IsS99 w0 w g s0_0 s0_1 s0_2) (hB : Qs w0.heap.size w0 w) (h : spec_l1Byte.f s0_0 s0_1 s0_2 = some (r1, r2, r3)) :
  Zj Qi 103 #[.pointer (some ⟨g, 0, none⟩)] w fun e w' => e = .returned (.int .i64 r1) ∧ IsS99 w0 w' g s0_0 r2 r3 ∧ Qs w0.heap.size w0 w' ∧ Qx w w' g none := by
 have HI0 := Qa hI
 have HK := Qa (KeepBut.refl w g none)
 have HL := Qa hB.size
 clear hI
 have HW0 := Qa hB.size
 have HB := Qa hB
 clear hB
 have H : (if s0_1 < (s0_0.length : Int) then (if 0 ≤ s0_1 then (some (Go.bits .and .i64 (Qg ((Go.bits .and .i64 (Go.bits .xor .i64 ((Qg ((Qg (s0_2 * 6364136223846793005)) + 1442695040888963407)) / 8589934592) ((Qg ((Qg (s0_2 * 6364136223846793005)) + 1442695040888963407)) / 35184372088832)) 255) + (Qg (rd s0_0 s0_1)))) 255, Qg (s0_1 + 1), Qg ((Qg (s0_2 * 6364136223846793005)) + 1442695040888963407))) else (none)) else (some (Go.bits .and .i64 (Go.bits .xor .i64 ((Qg ((Qg (s0_2 * 6364136223846793005)) + 1442695040888963407)) / 8589934592) ((Qg ((Qg (s0_2 * 6364136223846793005)) + 1442695040888963407)) / 35184372088832)) 255, s0_1, Qg ((Qg (s0_2 * 6364136223846793005)) + 1442695040888963407)))) = some (r1, r2, r3) := h
 clear h
 by_cases c2 : s0_1 < (s0_0.length : Int)
 ·rw [if_pos c2] at H
  replace c2 := decide_eq_true c2; by_cases c3 : 0 ≤ s0_1
  ·rw [if_pos c3] at H; replace c3 := decide_eq_true c3; simp only [Option.some.injEq, Prod.mk.injEq] at H; obtain ⟨rfl, rfl, rfl⟩ := H; obtain ⟨ASz4_0, cSz4_0, HGz4, hgz4, ⟨HSz4_0, HQz4_0⟩⟩ := HI0.out; have q4_0 := cellS99_0 HGz4; have q4_1 := cellS99_1 HGz4; have q4_2 := cellS99_2 HGz4; have u4_1 := Qe HGz4 1; have u4_2 := Qe HGz4 2; clear HGz4 hgz4; have p18 : 0 ≤ (s0_1 : Int) := Da; have q18 : s0_1 < (s0_0.length : Int) := Da; obtain ⟨ad18, e18, hx18_0⟩ := Kd.at_int HSz4_0 s0_1 p18 q18; cases e18
   have hn211_0 : ad18.block ≠ g := Nat.ne_of_lt (Nat.lt_of_lt_of_le (by have := World.block_lt_of_cell? _ _ hx18_0; first | rwa [add_block] at this | exact this) (IsS99.ge HI0.out)); replace hx18_0 := pw_cell_below HB.out hx18_0; replace hx18_0 := (cell_far (p := ⟨g, 2, none⟩) (by first | (rw [add_block]; exact hn211_0) | (show (Addr.add _ _).block ≠ _; rw [add_block]; exact hn211_0) | exact hn211_0) (.int .i64 (Qg ((Qg (s0_2 * 6364136223846793005)) + 1442695040888963407)))).trans hx18_0; (try have hy18_0 := fun (n_ : Nat) => (show (((w.drewN n_).setCell ⟨g, 2, none⟩ (.int .i64 (Qg ((Qg (s0_2 * 6364136223846793005)) + 1442695040888963407))))).cell? _ = some _ from hx18_0))
   clear hn211_0; replace p18 := eq_true p18; replace q18 := eq_true q18; go_enter Try.func103, Try.ntmps103; go_wp2; repeat (go_quiet (fail); try go_wp2)
   go_ret; exact ⟨Ze, I99 HI0.out, Bb1 HB.out (IsS99.ge HI0.out), Kp HK.out⟩
  ·rw [if_neg c3] at H; exact absurd H (by simp)
 ·rw [if_neg c2] at H
  replace c2 := decide_eq_false c2; simp only [Option.some.injEq, Prod.mk.injEq] at H; obtain ⟨rfl, rfl, rfl⟩ := H; obtain ⟨ASz5_0, cSz5_0, HGz5, hgz5, ⟨HSz5_0, HQz5_0⟩⟩ := HI0.out; have q5_0 := cellS99_0 HGz5; have q5_1 := cellS99_1 HGz5; have q5_2 := cellS99_2 HGz5; have u5_1 := Qe HGz5 1; have u5_2 := Qe HGz5 2; clear HGz5 hgz5; go_enter Try.func103, Try.ntmps103; go_wp2; repeat (go_quiet (fail); try go_wp2)
  go_ret; exact ⟨Ze, I99 HI0.out, Bb1 HB.out (IsS99.ge HI0.out), Kp HK.out⟩
def spec_l1Below.f (s0_0 : List Int) (s0_1 : Int) (s0_2 : Int) (a1 : Int) : Option (Int × Int × Int) := if a1 ≤ 0 then (some (0, s0_1, s0_2)) else (if a1 ≤ 256 then ((spec_l1Byte.f s0_0 s0_1 s0_2).bind fun bt21 => (if a1 = 0 then (none) else (some (Int.tmod bt21.1 a1, bt21.2.1, bt21.2.2)))) else ((spec_l1Byte.f s0_0 s0_1 s0_2).bind fun bt22 => ((spec_l1Byte.f s0_0 bt22.2.1 bt22.2.2).bind fun bt23 => ((spec_l1Byte.f s0_0 bt23.2.1 bt23.2.2).bind fun bt24 => ((spec_l1Byte.f s0_0 bt24.2.1 bt24.2.2).bind fun bt25 => (if a1 = 0 then (none) else (some (Int.tmod (Qg ((Qg ((Qg ((Qg (bt22.1 * 16777216)) + (Qg (bt23.1 * 65536)))) + (Qg (bt24.1 * 256)))) + bt25.1)) a1, bt25.2.1, bt25.2.2))))))))
theorem spec_l1Below.calls (g : Nat) (s0_0 : List Int) (s0_1 : Int) (s0_2 : Int) (a1 : Int) (r1 : Int) (r2 : Int) (r3 : Int) (w0 w : Qn) (hI : IsS99 w0 w g s0_0 s0_1 s0_2) (hB : Qs w0.heap.size w0 w) (h : spec_l1Below.f s0_0 s0_1 s0_2 a1 = some (r1, r2, r3)) :
  Zj Qi 70 #[.pointer (some ⟨g, 0, none⟩), .int .i64 a1] w fun e w' => e = .returned (.int .i64 r1) ∧ IsS99 w0 w' g s0_0 r2 r3 ∧ Qs w0.heap.size w0 w' ∧ Qx w w' g none := by
 have HI0 := Qa hI
 have HK := Qa (KeepBut.refl w g none)
 have HL := Qa hB.size
 clear hI
 have HW0 := Qa hB.size
 have HB := Qa hB
 clear hB
 have H : (if a1 ≤ 0 then (some (0, s0_1, s0_2)) else (if a1 ≤ 256 then ((spec_l1Byte.f s0_0 s0_1 s0_2).bind fun bt21 => (if a1 = 0 then (none) else (some (Int.tmod bt21.1 a1, bt21.2.1, bt21.2.2)))) else ((spec_l1Byte.f s0_0 s0_1 s0_2).bind fun bt22 => ((spec_l1Byte.f s0_0 bt22.2.1 bt22.2.2).bind fun bt23 => ((spec_l1Byte.f s0_0 bt23.2.1 bt23.2.2).bind fun bt24 => ((spec_l1Byte.f s0_0 bt24.2.1 bt24.2.2).bind fun bt25 => (if a1 = 0 then (none) else (some (Int.tmod (Qg ((Qg ((Qg ((Qg (bt22.1 * 16777216)) + (Qg (bt23.1 * 65536)))) + (Qg (bt24.1 * 256)))) + bt25.1)) a1, bt25.2.1, bt25.2.2))))))))) = some (r1, r2, r3) := h
 clear h
 by_cases c3 : a1 ≤ 0
 ·rw [if_pos c3] at H
  replace c3 := decide_eq_true c3; simp only [Option.some.injEq, Prod.mk.injEq] at H; obtain ⟨rfl, rfl, rfl⟩ := H; go_enter Zq, Try.ntmps70; go_wp2; go_ret; exact ⟨Ze, I99 HI0.out, Bb1 HB.out (IsS99.ge HI0.out), Kp HK.out⟩
 ·rw [if_neg c3] at H
  replace c3 := decide_eq_false c3; by_cases c4 : a1 ≤ 256
  ·rw [if_pos c4] at H; replace c4 := decide_eq_true c4; obtain ⟨⟨t21, t39, t40⟩, A5, H⟩ := Ob H; (try dsimp only at H)
   by_cases c6 : a1 = 0
   ·rw [if_pos c6] at H; exact absurd H (by simp)
   ·rw [if_neg c6] at H; have c6b0 := beq_eq_false_iff_ne.mpr c6; have c6b1 := bne_iff_ne.mpr c6; simp only [Option.some.injEq, Prod.mk.injEq] at H; obtain ⟨rfl, rfl, rfl⟩ := H; go_enter Zq, Try.ntmps70; go_wp2_with (first | ((with_reducible refine Qb (f := 103) rfl ?_); refine Gl 14 Try.func103 #[.pointer (some ⟨g, 0, none⟩)] ?_; (with_reducible refine (spec_l1Byte.calls g s0_0 s0_1 s0_2 t21 t39 t40 w0 _ ?_ ?_ A5.out).mono ?_); exact I99 HI0.out; exact Bb1 HB.out (IsS99.ge HI0.out); rintro e w7 ⟨rfl, hi, hb, hk⟩; refine ⟨_, rfl, ?_⟩; replace HK := Kk (Kp HK.out) hk; replace HB := Qa (hb); replace HI0 := Qa (hi); clear hb hk hi)); go_ret; exact ⟨Ze, I99 HI0.out, Bb1 HB.out (IsS99.ge HI0.out), Kp HK.out⟩
  ·rw [if_neg c4] at H; replace c4 := decide_eq_false c4; obtain ⟨⟨t22, t31, t33⟩, A8, H⟩ := Ob H; (try dsimp only at H)
   obtain ⟨⟨t23, t34, t35⟩, A9, H⟩ := Ob H; (try dsimp only at H)
   obtain ⟨⟨t24, t36, t37⟩, A10, H⟩ := Ob H; (try dsimp only at H)
   obtain ⟨⟨t25, t41, t42⟩, A11, H⟩ := Ob H; (try dsimp only at H)
   by_cases c12 : a1 = 0
   ·rw [if_pos c12] at H; exact absurd H (by simp)
   ·rw [if_neg c12] at H; have c12b0 := beq_eq_false_iff_ne.mpr c12; have c12b1 := bne_iff_ne.mpr c12; simp only [Option.some.injEq, Prod.mk.injEq] at H; obtain ⟨rfl, rfl, rfl⟩ := H; go_enter Zq, Try.ntmps70; go_wp2_with (first | ((with_reducible refine Qb (f := 103) rfl ?_); refine Gl 18 Try.func103 #[.pointer (some ⟨g, 0, none⟩)] ?_; (with_reducible refine (spec_l1Byte.calls g s0_0 s0_1 s0_2 t22 t31 t33 w0 _ ?_ ?_ A8.out).mono ?_); exact I99 HI0.out; exact Bb1 HB.out (IsS99.ge HI0.out); rintro e w13 ⟨rfl, hi, hb, hk⟩; refine ⟨_, rfl, ?_⟩; replace HK := Kk (Kp HK.out) hk; replace HB := Qa (hb); replace HI0 := Qa (hi); clear hb hk hi) | ((with_reducible refine Qb (f := 103) rfl ?_); refine Gl 20 Try.func103 #[.pointer (some ⟨g, 0, none⟩)] ?_; (with_reducible refine (spec_l1Byte.calls g s0_0 t31 t33 t23 t34 t35 w0 _ ?_ ?_ A9.out).mono ?_); exact I99 HI0.out; exact Bb1 HB.out (IsS99.ge HI0.out); rintro e w14 ⟨rfl, hi, hb, hk⟩; refine ⟨_, rfl, ?_⟩; replace HK := Kk (Kp HK.out) hk; replace HB := Qa (hb); replace HI0 := Qa (hi); clear hb hk hi) | ((with_reducible refine Qb (f := 103) rfl ?_); refine Gl 22 Try.func103 #[.pointer (some ⟨g, 0, none⟩)] ?_; (with_reducible refine (spec_l1Byte.calls g s0_0 t34 t35 t24 t36 t37 w0 _ ?_ ?_ A10.out).mono ?_); exact I99 HI0.out; exact Bb1 HB.out (IsS99.ge HI0.out); rintro e w15 ⟨rfl, hi, hb, hk⟩; refine ⟨_, rfl, ?_⟩; replace HK := Kk (Kp HK.out) hk; replace HB := Qa (hb); replace HI0 := Qa (hi); clear hb hk hi) | ((with_reducible refine Qb (f := 103) rfl ?_); refine Gl 24 Try.func103 #[.pointer (some ⟨g, 0, none⟩)] ?_; (with_reducible refine (spec_l1Byte.calls g s0_0 t36 t37 t25 t41 t42 w0 _ ?_ ?_ A11.out).mono ?_); exact I99 HI0.out; exact Bb1 HB.out (IsS99.ge HI0.out); rintro e w16 ⟨rfl, hi, hb, hk⟩; refine ⟨_, rfl, ?_⟩; replace HK := Kk (Kp HK.out) hk; replace HB := Qa (hb); replace HI0 := Qa (hi); clear hb hk hi)); go_ret; exact ⟨Ze, I99 HI0.out, Bb1 HB.out (IsS99.ge HI0.out), Kp HK.out⟩
def spec_l1PickInt.f (s0_0 : List Int) (s0_1 : Int) (s0_2 : Int) (l1 : List Int) : Option (Int × Int × Int) := (spec_l1Below.f s0_0 s0_1 s0_2 (l1.length : Int)).bind fun bt19 => (if 0 ≤ bt19.1 then (if bt19.1 < (l1.length : Int) then (some (rd l1 bt19.1, bt19.2.1, bt19.2.2)) else (none)) else (none))
theorem spec_l1PickInt.calls (g : Nat) (s0_0 : List Int) (s0_1 : Int) (s0_2 : Int) (A1 : Option Addr) (c1 : Nat) (l1 : List Int) (r1 : Int) (r2 : Int) (r3 : Int) (w0 w : Qn) (hI : IsS99 w0 w g s0_0 s0_1 s0_2) (hB : Qs w0.heap.size w0 w) (hr1 : Kd.C (Kd.int .i64) w A1 l1.length l1) (hc1 : l1.length ≤ c1) (hf1 : ∀ ad, A1 = some ad → 0 < l1.length → ad.block ≠ g) (h : spec_l1PickInt.f s0_0 s0_1 s0_2 l1 = some (r1, r2, r3)) :
  Zj Qi 71 #[.pointer (some ⟨g, 0, none⟩), .slice A1 l1.length c1] w fun e w' => e = .returned (.int .i64 r1) ∧ IsS99 w0 w' g s0_0 r2 r3 ∧ Qs w0.heap.size w0 w' ∧ Qx w w' g none := by
 have HR1 := Qa hr1
 have HC1 := Qa hc1
 clear hr1 hc1
 have HI0 := Qa hI
 have HK := Qa (KeepBut.refl w g none)
 have HL := Qa hB.size
 clear hI
 have HW0 := Qa hB.size
 have HB := Qa hB
 clear hB
 have H : ((spec_l1Below.f s0_0 s0_1 s0_2 (l1.length : Int)).bind fun bt19 => (if 0 ≤ bt19.1 then (if bt19.1 < (l1.length : Int) then (some (rd l1 bt19.1, bt19.2.1, bt19.2.2)) else (none)) else (none))) = some (r1, r2, r3) := h
 clear h
 obtain ⟨⟨t19, t43, t44⟩, A3, H⟩ := Ob H
 (try dsimp only at H)
 by_cases c4 : 0 ≤ t19
 ·rw [if_pos c4] at H
  replace c4 := decide_eq_true c4; by_cases c5 : t19 < (l1.length : Int)
  ·rw [if_pos c5] at H; replace c5 := decide_eq_true c5; simp only [Option.some.injEq, Prod.mk.injEq] at H; obtain ⟨rfl, rfl, rfl⟩ := H; go_enter Try.func71, Try.ntmps71; go_wp2_with (first | ((with_reducible refine Qb (f := 70) rfl ?_); refine Gl 9 Zq #[.pointer (some ⟨g, 0, none⟩), .int .i64 (l1.length : Int)] ?_; (with_reducible refine (spec_l1Below.calls g s0_0 s0_1 s0_2 (l1.length : Int) t19 t43 t44 w0 _ ?_ ?_ A3.out).mono ?_); exact I99 HI0.out; exact Bb1 HB.out (IsS99.ge HI0.out); rintro e w6 ⟨rfl, hi, hb, hk⟩; refine ⟨_, rfl, ?_⟩; replace HK := Kk (Kp HK.out) hk; replace HB := Qa (hb); replace HI0 := Qa (hi); clear hb hk hi; have p20 : 0 ≤ (t19 : Int) := Da; have q20 : t19 < (l1.length : Int) := Da; obtain ⟨ad20, e20, hx20_0⟩ := Kd.at_int HR1.out t19 p20 q20; cases e20; replace hx20_0 := keep_cell HK.out hx20_0 (by first | (rw [add_block]; exact hf1 _ rfl (by omega)) | exact hf1 _ rfl (by omega) | exact hf1 ad20 rfl (by omega)); replace p20 := eq_true p20; replace q20 := eq_true q20)); go_ret; exact ⟨Ze, I99 HI0.out, Bb1 HB.out (IsS99.ge HI0.out), Kp HK.out⟩
  ·rw [if_neg c5] at H; exact absurd H (by simp)
 ·rw [if_neg c4] at H
  exact absurd H (by simp)
def spec_l1Once.f (s0_0 : List Int) (s0_1 : Int) (s0_2 : Int) (a1 : Int) : Option (Bool × Int × Int) := (spec_l1Below.f s0_0 s0_1 s0_2 a1).bind fun bt26 => (some ((bt26.1 == 0), bt26.2.1, bt26.2.2))
theorem spec_l1Once.calls (g : Nat) (s0_0 : List Int) (s0_1 : Int) (s0_2 : Int) (a1 : Int) (r1 : Bool) (r2 : Int) (r3 : Int) (w0 w : Qn) (hI : IsS99 w0 w g s0_0 s0_1 s0_2) (hB : Qs w0.heap.size w0 w) (h : spec_l1Once.f s0_0 s0_1 s0_2 a1 = some (r1, r2, r3)) :
  Zj Qi 69 #[.pointer (some ⟨g, 0, none⟩), .int .i64 a1] w fun e w' => e = .returned (.bool r1) ∧ IsS99 w0 w' g s0_0 r2 r3 ∧ Qs w0.heap.size w0 w' ∧ Qx w w' g none := by
 have HI0 := Qa hI
 have HK := Qa (KeepBut.refl w g none)
 have HL := Qa hB.size
 clear hI
 have HW0 := Qa hB.size
 have HB := Qa hB
 clear hB
 have H : ((spec_l1Below.f s0_0 s0_1 s0_2 a1).bind fun bt26 => (some ((bt26.1 == 0), bt26.2.1, bt26.2.2))) = some (r1, r2, r3) := h
 clear h
 obtain ⟨⟨t26, t45, t46⟩, A3, H⟩ := Ob H
 (try dsimp only at H)
 simp only [Option.some.injEq, Prod.mk.injEq] at H
 obtain ⟨rfl, rfl, rfl⟩ := H
 go_enter Try.func69, Try.ntmps69
 go_wp2_with (first | ((with_reducible refine Qb (f := 70) rfl ?_); refine Gl 7 Zq #[.pointer (some ⟨g, 0, none⟩), .int .i64 a1] ?_; (with_reducible refine (spec_l1Below.calls g s0_0 s0_1 s0_2 a1 t26 t45 t46 w0 _ ?_ ?_ A3.out).mono ?_); exact I99 HI0.out; exact Bb1 HB.out (IsS99.ge HI0.out); rintro e w4 ⟨rfl, hi, hb, hk⟩; refine ⟨_, rfl, ?_⟩; replace HK := Kk (Kp HK.out) hk; replace HB := Qa (hb); replace HI0 := Qa (hi); clear hb hk hi))
 go_ret
 exact ⟨Ze, I99 HI0.out, Bb1 HB.out (IsS99.ge HI0.out), Kp HK.out⟩
end Go.Proofs.Ytoljagpjejpmpaa.PFnFormulaText
