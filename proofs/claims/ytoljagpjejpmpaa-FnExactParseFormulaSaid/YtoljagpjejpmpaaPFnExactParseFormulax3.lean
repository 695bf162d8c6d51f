/- A part of the walk through the printed functions; no condition. -/
import Derived.Test.YtoljagpjejpmpaaXAuto
import Derived.Test.YtoljagpjejpmpaaPFnExactParseFormulax0
import Derived.Test.YtoljagpjejpmpaaPFnExactParseFormulax2
namespace Go.Proofs.Ytoljagpjejpmpaa.PFnExactParseFormula
open Go.RowKit Go.Proofs.YtoljagpjejpmpaaW.PrintWords Go.Proofs.YtoljagpjejpmpaaW.PrintLast Go.Proofs.YtoljagpjejpmpaaW.PrintMore
attribute [local go_sem] max2_int min2_int max_two min_two max_three min_three max_four min_four
set_option maxHeartbeats 32000000
set_option maxRecDepth 100000
attribute [local irreducible] Go.World.setCell
set_option linter.unusedVariables false
set_option linter.unusedSimpArgs false
open Go.Proofs.YtoljagpjejpmpaaW.PrintWords.Aside0 renaming mk → Qa
open Go.Proofs.YtoljagpjejpmpaaW.PrintWords renaming gate_callee → Qc, blk_cell → Qd, Aside0 → Qf, gate_dst → Qp
open Go.RowKit renaming wrap64 → Qg, Below → Qq
open Go.Proofs.Try renaming underlying32 → Qh, prog → Qk
open Go.Proofs.YtoljagpjejpmpaaW.PrintWords.Drawn0 renaming refl → Qi, step → Qj
open Go.Proofs.YtoljagpjejpmpaaW.PrintWords.Kd renaming C_below → Ql, at_string → Qw
open Go renaming World → Qm, Calls → Qz
def impl_ArityOf.j0 : Nat → Int → Bool → Option (Int)
 | 0, _, _ => none
 | k + 1, x0, x6 => if x6 = true then (some 1) else (if x0 = 9 then (some 2) else (if x0 = 10 then (some 2) else (some (-1))))
def impl_ArityOf.f (k : Nat) (a0 : Int) : Option (Int) := (impl_within.f a0 1 7).bind fun t30 => (if t30 = true then (some 0) else (if a0 = 8 then (impl_ArityOf.j0 k a0 true) else (if a0 = 11 then (impl_ArityOf.j0 k a0 true) else (impl_ArityOf.j0 k a0 (a0 == 12)))))
theorem impl_ArityOf.mono_l : ∀ k, (∀ y0 y1, LeO (impl_ArityOf.j0 k y0 y1) (impl_ArityOf.j0 (k + 1) y0 y1))
 | 0 => fun _ _ r h => by simp [impl_ArityOf.j0] at h
 | k + 1 => by
  have ih0 := impl_ArityOf.mono_l k
  ·intro y0 y1; unfold impl_ArityOf.j0; exact Lm1 ih0
theorem impl_ArityOf.mono : ∀ a0 k, LeO (impl_ArityOf.f k a0) (impl_ArityOf.f (k + 1) a0) := by
 intro a0 k
 have ih0 := impl_ArityOf.mono_l k
 unfold impl_ArityOf.f
 exact Lm1 ih0
theorem impl_ArityOf.calls (k : Nat) (a0 : Int) (r : Int) (w : Qm) (h : impl_ArityOf.f k a0 = some r) :
  Qz Qk 40 #[.int .i64 a0] w fun e w' => e = .returned (.int .i64 r) ∧ Drawn0 w w' := by
 have H : ((impl_within.f a0 1 7).bind fun t30 => (if t30 = true then (some 0) else (if a0 = 8 then (impl_ArityOf.j0 k a0 true) else (if a0 = 11 then (impl_ArityOf.j0 k a0 true) else (impl_ArityOf.j0 k a0 (a0 == 12)))))) = some r := h
 clear h
 obtain ⟨t30, A2, H⟩ := Ob H
 (try dsimp only at H)
 by_cases c3 : t30 = true
 ·subst c3
  rw [if_pos rfl] at H; obtain rfl := Option.some.inj H; go_enter Try.func40, Try.ntmps40; go_wp2_with (first | ((with_reducible refine Qc (f := 66) rfl ?_); refine Gl 5 Try.func66 #[.int .i64 a0, .int .i64 1, .int .i64 7] ?_; (with_reducible refine (impl_within.calls a0 1 7 true _ A2.out).mono ?_); rintro e w' ⟨rfl, ⟨nd, rfl⟩⟩; refine ⟨_, rfl, ?_⟩)); go_ret; exact ⟨by first | rfl | (simp; done) | (simp [*]; done), by repeat (first | exact Qi _ | apply Qj)⟩
 ·replace c3 := Bool.eq_false_iff.mpr c3
  subst c3; rw [if_neg (show ¬ (false = true) by decide)] at H; have HC4 := Qa H; clear H; go_enter Try.func40, Try.ntmps40; go_upto_region 3 with (first | ((with_reducible refine Qc (f := 66) rfl ?_); refine Gl 5 Try.func66 #[.int .i64 a0, .int .i64 1, .int .i64 7] ?_; (with_reducible refine (impl_within.calls a0 1 7 false _ A2.out).mono ?_); rintro e w' ⟨rfl, ⟨nd, rfl⟩⟩; refine ⟨_, rfl, ?_⟩))
  (try simp only [Act.put, List.setIfInBounds_toArray, List.set_cons_zero, List.set_cons_succ])
  go_cut [6] (fun v6 wc => ∃ (kq : Nat) (x6_3 : Bool), v6 = .bool x6_3 ∧ Qf (impl_ArityOf.j0 kq a0 x6_3 = some r) ∧ Qf (kq ≤ k) ∧ Drawn0 w wc)
  case first =>
   have H := HC4.out; clear HC4; by_cases c5 : a0 = 8
   ·rw [if_pos c5] at H; have c5b0 := beq_iff_eq.mpr c5; have c5b1 := bne_eq_false_iff_eq.mpr c5; clear c5; (first | rw [c5b0] | (simp only [i64_w, i32_w]; rw [c5b0]) | skip)
    have H' := Qa H; clear H; go_wp2; go_meet
    case rel => exact ⟨_, (true), Zf, H', ⟨by first | omega | exact Nat.le_refl _⟩, by repeat (first | exact Qi _ | apply Qj)⟩
   ·rw [if_neg c5] at H; have c5b0 := beq_eq_false_iff_ne.mpr c5; have c5b1 := bne_iff_ne.mpr c5; (first | rw [c5b0] | (simp only [i64_w, i32_w]; rw [c5b0]) | skip)
    by_cases c6 : a0 = 11
    ·rw [if_pos c6] at H; have c6b0 := beq_iff_eq.mpr c6; have c6b1 := bne_eq_false_iff_eq.mpr c6; clear c6; have H' := Qa H; clear H; go_wp2; go_meet
     case rel => exact ⟨_, (true), Zf, H', ⟨by first | omega | exact Nat.le_refl _⟩, by repeat (first | exact Qi _ | apply Qj)⟩
    ·rw [if_neg c6] at H; have c6b0 := beq_eq_false_iff_ne.mpr c6; have c6b1 := bne_iff_ne.mpr c6; have H' := Qa H; clear H; go_wp2; go_meet
     case rel => exact ⟨_, ((a0 == 12)), Zf, H', ⟨by first | omega | exact Nat.le_refl _⟩, by repeat (first | exact Qi _ | apply Qj)⟩
  case rest =>
   clear HC4; (try clear p2)
   (try clear c3)
   (try clear c4)
   (try clear c5)
   (try clear c5b0)
   (try clear c5b1)
   (try clear c6)
   (try clear c6b0)
   (try clear c6b1)
   obtain ⟨kq, x6_3, rfl, HA, HJ3, ⟨mc3, rfl⟩⟩ := hcut; cases kq with
   | zero => exact absurd HA.out (by simp [impl_ArityOf.j0])
   | succ kj3 =>
    have H := HA.out; clear HA; simp only [impl_ArityOf.j0] at H; by_cases c7 : x6_3 = true
    ·subst c7; rw [if_pos rfl] at H; obtain rfl := Option.some.inj H; go_wp2; go_ret; exact ⟨by first | rfl | (simp; done) | (simp [*]; done), by repeat (first | exact Qi _ | apply Qj)⟩
    ·replace c7 := Bool.eq_false_iff.mpr c7; subst c7; rw [if_neg (show ¬ (false = true) by decide)] at H; by_cases c8 : a0 = 9
     ·rw [if_pos c8] at H; have c8b0 := beq_iff_eq.mpr c8; have c8b1 := bne_eq_false_iff_eq.mpr c8; clear c8; obtain rfl := Option.some.inj H; go_wp2; go_ret; exact ⟨by first | rfl | (simp; done) | (simp [*]; done), by repeat (first | exact Qi _ | apply Qj)⟩
     ·rw [if_neg c8] at H; have c8b0 := beq_eq_false_iff_ne.mpr c8; have c8b1 := bne_iff_ne.mpr c8; by_cases c9 : a0 = 10
      ·rw [if_pos c9] at H; have c9b0 := beq_iff_eq.mpr c9; have c9b1 := bne_eq_false_iff_eq.mpr c9; clear c9; obtain rfl := Option.some.inj H; go_wp2; go_ret; exact ⟨by first | rfl | (simp; done) | (simp [*]; done), by repeat (first | exact Qi _ | apply Qj)⟩
      ·rw [if_neg c9] at H; have c9b0 := beq_eq_false_iff_ne.mpr c9; have c9b1 := bne_iff_ne.mpr c9; obtain rfl := Option.some.inj H; go_wp2; go_ret; exact ⟨by first | rfl | (simp; done) | (simp [*]; done), by repeat (first | exact Qi _ | apply Qj)⟩
def impl_isField.f (a0 : Int) (a1 : Bool) (a2 : Int) : Option (Bool) := if a1 = true then ((impl_within.f a0 0 (Qg (a2 - 1))).bind fun t31 => (if t31 = true then (some true) else (some false))) else (some (a0 == 0))
theorem impl_isField.calls (a0 : Int) (a1 : Bool) (a2 : Int) (r : Bool) (w : Qm) (h : impl_isField.f a0 a1 a2 = some r) :
  Qz Qk 104 #[.int .i64 a0, .bool a1, .int .i64 a2] w fun e w' => e = .returned (.bool r) ∧ Drawn0 w w' := by
 have H : (if a1 = true then ((impl_within.f a0 0 (Qg (a2 - 1))).bind fun t31 => (if t31 = true then (some true) else (some false))) else (some (a0 == 0))) = some r := h
 clear h
 by_cases c4 : a1 = true
 ·subst c4
  rw [if_pos rfl] at H; obtain ⟨t31, A5, H⟩ := Ob H; (try dsimp only at H)
  by_cases c6 : t31 = true
  ·subst c6; rw [if_pos rfl] at H; obtain rfl := Option.some.inj H; go_enter Try.func104, Try.ntmps104; go_wp2_with (first | (go_at_call 66; (with_reducible refine (impl_within.calls a0 0 (Qg (a2 - 1)) true _ A5.out).mono ?_); rintro e w' ⟨rfl, ⟨nd, rfl⟩⟩)); go_ret; exact ⟨by first | rfl | (simp; done) | (simp [*]; done), by repeat (first | exact Qi _ | apply Qj)⟩
  ·replace c6 := Bool.eq_false_iff.mpr c6; subst c6; rw [if_neg (show ¬ (false = true) by decide)] at H; obtain rfl := Option.some.inj H; go_enter Try.func104, Try.ntmps104; go_wp2_with (first | (go_at_call 66; (with_reducible refine (impl_within.calls a0 0 (Qg (a2 - 1)) false _ A5.out).mono ?_); rintro e w' ⟨rfl, ⟨nd, rfl⟩⟩)); go_ret; exact ⟨by first | rfl | (simp; done) | (simp [*]; done), by repeat (first | exact Qi _ | apply Qj)⟩
 ·replace c4 := Bool.eq_false_iff.mpr c4
  subst c4; rw [if_neg (show ¬ (false = true) by decide)] at H; obtain rfl := Option.some.inj H; go_enter Try.func104, Try.ntmps104; go_wp2; go_ret; exact ⟨by first | rfl | (simp; done) | (simp [*]; done), by repeat (first | exact Qi _ | apply Qj)⟩
def impl_usesK.f (a0 : Int) : Option (Bool) := if a0 = 2 then (some true) else (some (a0 == 3))
theorem impl_usesK.calls (a0 : Int) (r : Bool) (w : Qm) (h : impl_usesK.f a0 = some r) :
  Qz Qk 105 #[.int .i64 a0] w fun e w' => e = .returned (.bool r) ∧ Drawn0 w w' := by
 have H : (if a0 = 2 then (some true) else (some (a0 == 3))) = some r := h
 clear h
 by_cases c2 : a0 = 2
 ·rw [if_pos c2] at H
  have c2b0 := beq_iff_eq.mpr c2; have c2b1 := bne_eq_false_iff_eq.mpr c2; clear c2; obtain rfl := Option.some.inj H; go_enter Try.func105, Try.ntmps105; go_wp2; go_ret; exact ⟨by first | rfl | (simp; done) | (simp [*]; done), by repeat (first | exact Qi _ | apply Qj)⟩
 ·rw [if_neg c2] at H
  have c2b0 := beq_eq_false_iff_ne.mpr c2; have c2b1 := bne_iff_ne.mpr c2; obtain rfl := Option.some.inj H; go_enter Try.func105, Try.ntmps105; go_wp2; go_ret; exact ⟨by first | rfl | (simp; done) | (simp [*]; done), by repeat (first | exact Qi _ | apply Qj)⟩
def impl_isBinder.f (a0 : Int) : Option (Bool) := if a0 = 11 then (some true) else (some (a0 == 12))
theorem impl_isBinder.calls (a0 : Int) (r : Bool) (w : Qm) (h : impl_isBinder.f a0 = some r) :
  Qz Qk 60 #[.int .i64 a0] w fun e w' => e = .returned (.bool r) ∧ Drawn0 w w' := by
 have H : (if a0 = 11 then (some true) else (some (a0 == 12))) = some r := h
 clear h
 by_cases c2 : a0 = 11
 ·rw [if_pos c2] at H
  have c2b0 := beq_iff_eq.mpr c2; have c2b1 := bne_eq_false_iff_eq.mpr c2; clear c2; obtain rfl := Option.some.inj H; go_enter Try.func60, Try.ntmps60; go_wp2; go_ret; exact ⟨by first | rfl | (simp; done) | (simp [*]; done), by repeat (first | exact Qi _ | apply Qj)⟩
 ·rw [if_neg c2] at H
  have c2b0 := beq_eq_false_iff_ne.mpr c2; have c2b1 := bne_iff_ne.mpr c2; obtain rfl := Option.some.inj H; go_enter Try.func60, Try.ntmps60; go_wp2; go_ret; exact ⟨by first | rfl | (simp; done) | (simp [*]; done), by repeat (first | exact Qi _ | apply Qj)⟩
def impl_usesU.f (a0 : Int) : Option (Bool) := (impl_within.f a0 2 7).bind fun t33 => (if t33 = true then (some true) else ((impl_isBinder.f a0).bind fun t34 => (some t34)))
theorem impl_usesU.calls (a0 : Int) (r : Bool) (w : Qm) (h : impl_usesU.f a0 = some r) :
  Qz Qk 63 #[.int .i64 a0] w fun e w' => e = .returned (.bool r) ∧ Drawn0 w w' := by
 have H : ((impl_within.f a0 2 7).bind fun t33 => (if t33 = true then (some true) else ((impl_isBinder.f a0).bind fun t34 => (some t34)))) = some r := h
 clear h
 obtain ⟨t33, A2, H⟩ := Ob H
 (try dsimp only at H)
 by_cases c3 : t33 = true
 ·subst c3
  rw [if_pos rfl] at H; obtain rfl := Option.some.inj H; go_enter Try.func63, Try.ntmps63; go_wp2_with (first | ((with_reducible refine Qc (f := 66) rfl ?_); refine Gl 4 Try.func66 #[.int .i64 a0, .int .i64 2, .int .i64 7] ?_; (with_reducible refine (impl_within.calls a0 2 7 true _ A2.out).mono ?_); rintro e w' ⟨rfl, ⟨nd, rfl⟩⟩; refine ⟨_, rfl, ?_⟩)); go_ret; exact ⟨by first | rfl | (simp; done) | (simp [*]; done), by repeat (first | exact Qi _ | apply Qj)⟩
 ·replace c3 := Bool.eq_false_iff.mpr c3
  subst c3; rw [if_neg (show ¬ (false = true) by decide)] at H; obtain ⟨t34, A4, H⟩ := Ob H; (try dsimp only at H)
  obtain rfl := Option.some.inj H; go_enter Try.func63, Try.ntmps63; go_wp2_with (first | ((with_reducible refine Qc (f := 66) rfl ?_); refine Gl 4 Try.func66 #[.int .i64 a0, .int .i64 2, .int .i64 7] ?_; (with_reducible refine (impl_within.calls a0 2 7 false _ A2.out).mono ?_); rintro e w' ⟨rfl, ⟨nd, rfl⟩⟩; refine ⟨_, rfl, ?_⟩) | (go_at_call 60; (with_reducible refine (impl_isBinder.calls a0 t34 _ A4.out).mono ?_); rintro e w' ⟨rfl, ⟨nd, rfl⟩⟩)); go_ret; exact ⟨by first | rfl | (simp; done) | (simp [*]; done), by repeat (first | exact Qi _ | apply Qj)⟩
def impl_usesV.f (a0 : Int) : Option (Bool) := (impl_within.f a0 5 7).bind fun t35 => (some t35)
theorem impl_usesV.calls (a0 : Int) (r : Bool) (w : Qm) (h : impl_usesV.f a0 = some r) :
  Qz Qk 64 #[.int .i64 a0] w fun e w' => e = .returned (.bool r) ∧ Drawn0 w w' := by
 have H : ((impl_within.f a0 5 7).bind fun t35 => (some t35)) = some r := h
 clear h
 obtain ⟨t35, A2, H⟩ := Ob H
 (try dsimp only at H)
 obtain rfl := Option.some.inj H
 go_enter Try.func64, Try.ntmps64
 go_wp2_with (first | ((with_reducible refine Qc (f := 66) rfl ?_); refine Gl 4 Try.func66 #[.int .i64 a0, .int .i64 5, .int .i64 7] ?_; (with_reducible refine (impl_within.calls a0 5 7 t35 _ A2.out).mono ?_); rintro e w' ⟨rfl, ⟨nd, rfl⟩⟩; refine ⟨_, rfl, ?_⟩))
 go_ret
 exact ⟨by first | rfl | (simp; done) | (simp [*]; done), by repeat (first | exact Qi _ | apply Qj)⟩
theorem quietD {f : FuncId} {args : Array Value} {w : Qm} {n : Nat} {v : Value} (h : ∀ w, Qz Qk f args w fun e w' => e = .returned v ∧ Drawn0 w w') : Qz Qk f args (w.drewN n) fun e w'' => e = .returned v ∧ ∃ m, w'' = w.drewN m :=
 Calls.quiet_of ((h _).mono fun _ _ he => ⟨he.1, he.2.out⟩)
def impl_Formula_isWell.bad (g : S32 → Option Bool) : List S32 → Option Bool
 | [] => some false
 | x :: r => (g x).bind fun b => if b = true then impl_Formula_isWell.bad g r else some true
def impl_Formula_isWell.f : Nat → Int → Int → Int → Int → List (S32) → Int → Option Bool
 | 0, _, _, _, _, _, _ => none
 | k + 1, a0, a1, a2, a3, l4, v => if l4.length < 9223372036854775807 then (impl_ArityOf.f k a0).bind fun t => (if (l4.length : Int) = t then ((impl_usesK.f a0).bind fun t25 => ((impl_isField.f a1 t25 v).bind fun t38 => (if t38 = true then ((impl_usesU.f a0).bind fun t26 => ((impl_isField.f a2 t26 4).bind fun t40 => (if t40 = true then ((impl_usesV.f a0).bind fun t29 => ((impl_isField.f a3 t29 4).bind fun t41 => (if t41 = true then ((impl_Formula_isWell.bad (fun x => impl_Formula_isWell.f k x.f0 x.f1 x.f2 x.f3 x.f4 v) l4).bind fun t36 => some (!t36)) else some false))) else some false))) else some false))) else some false) else none
theorem impl_Formula_isWell.bad_mono {g g' : S32 → Option Bool} (h : ∀ x, LeO (g x) (g' x)) : ∀ l, LeO (impl_Formula_isWell.bad g l) (impl_Formula_isWell.bad g' l)
 | [] => LeO.refl _
 | x :: r => LeO.bind (h x) (fun _ => LeO.ite (impl_Formula_isWell.bad_mono h r) (LeO.refl _))
theorem impl_Formula_isWell.mono : ∀ a0 a1 a2 a3 a4 a5 k, LeO (impl_Formula_isWell.f k a0 a1 a2 a3 a4 a5) (impl_Formula_isWell.f (k + 1) a0 a1 a2 a3 a4 a5) := by
 intro a0 a1 a2 a3 a4 a5 k
 induction k generalizing a0 a1 a2 a3 a4 a5 with
 | zero => intro r h; simp [impl_Formula_isWell.f] at h
 | succ k ih =>
  rw [impl_Formula_isWell.f, impl_Formula_isWell.f]; refine LeO.ite (LeO.bind (impl_ArityOf.mono _ _) (fun _ => LeO.ite (LeO.bind (LeO.refl _) (fun _ => LeO.bind (LeO.refl _) (fun _ => LeO.ite (LeO.bind (LeO.refl _) (fun _ => LeO.bind (LeO.refl _) (fun _ => LeO.ite (LeO.bind (LeO.refl _) (fun _ => LeO.bind (LeO.refl _) (fun _ => LeO.ite (LeO.bind (impl_Formula_isWell.bad_mono (fun x => ih _ _ _ _ _ _) _) (fun _ => LeO.refl _)) (LeO.refl _)))) (LeO.refl _)))) (LeO.refl _)))) (LeO.refl _))) (LeO.none _)
def WellC (g : S32 → Option Bool) (v : Int) : Prop := ∀ (x : S32) (A : Option Addr) (c : Nat) (w : Qm) (hr : Kd.C k32 w A x.f4.length x.f4) (hc : x.f4.length ≤ c) (r : Bool) (h : g x = some r),
 Qz Qk 73 #[.agg #[.int .i64 x.f0, .int .i64 x.f1, .int .i64 x.f2, .int .i64 x.f3, .slice A x.f4.length c], .int .i64 v] w fun e w' => e = .returned (.bool r) ∧ Qq w.heap.size w w'
theorem well_closure {g : S32 → Option Bool} {v : Int} (ih : WellC g v) (x : S32) (A : Option Addr) (c gv : Nat) (w : Qm) (hr : Kd.C k32 w A x.f4.length x.f4) (hc : x.f4.length ≤ c) (hq : w.cell? ⟨gv, 0, none⟩ = some (.int .i64 v)) (r : Bool) (h : g x = some r) :
  Qz Qk 107 #[.agg #[.int .i64 x.f0, .int .i64 x.f1, .int .i64 x.f2, .int .i64 x.f3, .slice A x.f4.length c], .pointer (some ⟨gv, 0, none⟩)] w fun e w' => e = .returned (.bool (!r)) ∧ Qq w.heap.size w w' := by
 have hu32 := Qh
 go_enter Try.func107, Try.ntmps107
 go_wp2_with (first
  | ((with_reducible refine Qp (N := 2) rfl ?_); refine Bx (N := 2) (cs := #[.int .i64 x.f0, .int .i64 x.f1, .int .i64 x.f2, .int .i64 x.f3, .slice A x.f4.length c]) (t := 32) ?_; intro gb hgb W1 hbox hb1; have q0 : W1.cell? ⟨gb, 0, none⟩ = some (.int .i64 x.f0) := (Qd hbox 0).trans rfl; have q1 : W1.cell? ⟨gb, 1, none⟩ = some (.int .i64 x.f1) := (Qd hbox 1).trans rfl; have q2 : W1.cell? ⟨gb, 2, none⟩ = some (.int .i64 x.f2) := (Qd hbox 2).trans rfl; have q3 : W1.cell? ⟨gb, 3, none⟩ = some (.int .i64 x.f3) := (Qd hbox 3).trans rfl; have q4 : W1.cell? ⟨gb, 4, none⟩ = some (.slice A x.f4.length c) := (Qd hbox 4).trans rfl; have qv : W1.cell? ⟨gv, 0, none⟩ = some (.int .i64 v) := (hb1.cell (World.block_lt_of_cell? w _ hq)).trans hq; have HR1 := Qa (Ql hr hb1); have HB1 := Qa hb1; clear hbox hb1 hgb)
  | (go_at_call 73; refine (ih x A c _ HR1.out hc r h).mono ?_; rintro e W2 ⟨rfl, hb2⟩; have HB2 := Qa (below_step HB1.out hb2); clear hb2))
 go_wp2
 go_ret
 exact ⟨rfl, HB2.out⟩
theorem well_index {g : S32 → Option Bool} {v : Int} (ih : WellC g v) (l : List S32) (A : Option Addr) (c gv : Nat) (w : Qm) (hr : Kd.C k32 w A l.length l) (hc : l.length ≤ c) (hq : w.cell? ⟨gv, 0, none⟩ = some (.int .i64 v)) (hl : l.length < 9223372036854775807) (t : Bool) (h : impl_Formula_isWell.bad g l = some t) :
  Qz Qk 125 #[.slice A l.length c, .func (.func 107) #[] #[.pointer (some ⟨gv, 0, none⟩)]] w fun e w' => ∃ i : Int, e = .returned (.int .i64 i) ∧ decide (0 ≤ i) = t ∧ Qq w.heap.size w w' := by
 have hu32 := Qh
 have H := Qa h
 clear h
 go_enter Try.func125, Try.ntmps125
 go_wp2
 go_loopg [8] l.length (fun kq v8 w' => ∃ i : Nat, v8 = .int .i64 (i : Int) ∧ i ≤ l.length ∧ l.length - i ≤ kq ∧ Qf (impl_Formula_isWell.bad g (l.drop i) = some t) ∧ Qf (Qq w.heap.size w w'))
 case atStart => exact ⟨0, rfl, by omega, by omega, ⟨by rw [List.drop_zero]; exact H.out⟩, ⟨Below.refl _ _⟩⟩
 case round =>
  clear H; obtain ⟨i, rfl, hi, hgk, H, HB⟩ := hrel; by_cases hlt' : i < l.length
  ·have hltz : (i : Int) < (l.length : Int) := by omega
   have h := H.out; rw [List.drop_eq_getElem_cons hlt'] at h; simp only [impl_Formula_isWell.bad] at h; obtain ⟨b, hb_, h⟩ := Option.bind_eq_some_iff.mp h; have H' := Qa h; have HG := Qa hb_; clear h hb_ H; obtain ⟨ad, A', c', e_, hx0, hx1, hx2, hx3, hx4, hl_, hi_⟩ := at_T32 hr (i : Int) (by omega) hltz; subst e_; have erd : rd_T32 l (i : Int) = l[i] := by
    unfold rd_T32; simp [List.getD, List.getElem?_eq_getElem hlt']
   rw [erd] at hx0 hx1 hx2 hx3 hx4 hl_ hi_; rw [Int.toNat_natCast] at hx0 hx1 hx2 hx3 hx4; replace hx0 := Cx HB hx0; replace hx1 := Cx HB hx1; replace hx2 := Cx HB hx2; replace hx3 := Cx HB hx3; replace hx4 := Cx HB hx4; have hqv : wr.cell? ⟨gv, 0, none⟩ = some (.int .i64 v) := Cx HB hq; have HR1 := Qa (Ql hi_ HB.out); generalize l[i] = x at *; have c0b : decide ((i : Int) < (l.length : Int)) = true := decide_eq_true hltz; have p1 : (0 ≤ (i : Int)) = True := eq_true (by omega); have p2 : ((i : Int) < (l.length : Int)) = True := eq_true hltz; have UP : Qf (Qg ((i : Int) + 1) = ((i + 1 : Nat) : Int)) := ⟨by unfold Qg; omega⟩; cases b with
   | true =>
    have hgo := H'.out; rw [if_pos rfl] at hgo; have H2 := Qa hgo; clear hgo H'; go_wp2_with (first
     | (go_at_call 107; refine (well_closure ih x A' c' gv _ HR1.out hl_ hqv true HG.out).mono ?_; rintro e W2 ⟨rfl, hb2⟩; have HB2 := Qa (below_step HB.out hb2); clear HB hb2; have HB := HB2; clear HB2))
    go_roundg (l.length - (i + 1))
    case measure => omega
    case rel => exact ⟨i + 1, by first | exact congrArg _ UP.out | (simp only [i64_w]; exact congrArg _ UP.out) | (simp; done), by omega, by omega, H2, ⟨by repeat (first | exact HB.out | apply below_drew1 | apply pw_below_drewN)⟩⟩
   | false =>
    have hgo := H'.out; rw [if_neg (by decide)] at hgo; obtain rfl := Option.some.inj hgo; go_wp2_with (first
     | (go_at_call 107; refine (well_closure ih x A' c' gv _ HR1.out hl_ hqv false HG.out).mono ?_; rintro e W2 ⟨rfl, hb2⟩; have HB2 := Qa (below_step HB.out hb2); clear HB hb2; have HB := HB2; clear HB2))
    go_wp2; go_ret; exact ⟨(i : Int), rfl, by simp, by repeat (first | exact HB.out | apply below_drew1 | apply pw_below_drewN)⟩
  ·have hltz : ¬ (i : Int) < (l.length : Int) := by omega
   have c0b : decide ((i : Int) < (l.length : Int)) = false := decide_eq_false hltz; have h := H.out; rw [List.drop_eq_nil_of_le (by omega)] at h; obtain rfl := Option.some.inj h; go_wp2; go_ret; exact ⟨-1, rfl, by decide, HB.out⟩
theorem well_contains {g : S32 → Option Bool} {v : Int} (ih : WellC g v) (l : List S32) (A : Option Addr) (c gv : Nat) (w : Qm) (hr : Kd.C k32 w A l.length l) (hc : l.length ≤ c) (hq : w.cell? ⟨gv, 0, none⟩ = some (.int .i64 v)) (hl : l.length < 9223372036854775807) (t : Bool) (h : impl_Formula_isWell.bad g l = some t) :
  Qz Qk 106 #[.slice A l.length c, .func (.func 107) #[] #[.pointer (some ⟨gv, 0, none⟩)]] w fun e w' => e = .returned (.bool t) ∧ Qq w.heap.size w w' := by
 go_enter Try.func106, Try.ntmps106
 go_wp2_with (first
  | (go_at_call 125; refine (well_index ih l A c gv _ hr hc hq hl t h).mono ?_; rintro e W2 ⟨i, rfl, hit, hb2⟩))
 go_wp2
 go_ret
 exact ⟨by first | (rw [hit]) | (simp [hit]; done) | (simp [← hit]; done), hb2⟩
structure WSt (w : Qm) (gf gv : Nat) (cs : Array Value) (v : Int) (W : Qm) : Prop where
 bel : Qq w.heap.size w W
 bf : W.heap[gf]? = some (.cells cs 32 (0, 0))
 bv : W.heap[gv]? = some (.cells #[.int .i64 v] 3 (0, 0))
theorem WSt.drewN {w W : Qm} {gf gv : Nat} {cs : Array Value} {v : Int} (h : WSt w gf gv cs v W) (n : Nat) : WSt w gf gv cs v (W.drewN n) := ⟨pw_below_drewN h.bel n, h.bf, h.bv⟩
theorem impl_Formula_isWell.calls (k : Nat) : ∀ (a0 : Int) (a1 : Int) (a2 : Int) (a3 : Int) (A4 : Option Addr) (c4 : Nat) (l4 : List (S32)) (v : Int) (r : Bool) (w : Qm) (hr : Kd.C k32 w A4 l4.length l4) (hc : l4.length ≤ c4) (h : impl_Formula_isWell.f k a0 a1 a2 a3 l4 v = some r),
  Qz Qk 73 #[.agg #[.int .i64 a0, .int .i64 a1, .int .i64 a2, .int .i64 a3, .slice A4 l4.length c4], .int .i64 v] w fun e w' => e = .returned (.bool r) ∧ Qq w.heap.size w w' := by
 induction k with
 | zero => intro a0 a1 a2 a3 A4 c4 l4 v r w hr hc h; exact absurd h (by simp [impl_Formula_isWell.f])
 | succ k ih =>
 intro a0 a1 a2 a3 A4 c4 l4 v r w hr hc h
 have hW : WellC (fun x => impl_Formula_isWell.f k x.f0 x.f1 x.f2 x.f3 x.f4 v) v := fun x A c w hr hc r h => ih x.f0 x.f1 x.f2 x.f3 A c x.f4 v r w hr hc h
 clear ih
 simp only [impl_Formula_isWell.f] at h
 have hu32 := Qh
 split at h
 case isFalse => cases h
 case isTrue hl =>
 generalize hbad : impl_Formula_isWell.bad (fun x => impl_Formula_isWell.f k x.f0 x.f1 x.f2 x.f3 x.f4 v) l4 = bad at h
 have HBAD := Qa hbad
 have HR := Qa hr
 clear hbad hr
 obtain ⟨t, ht, h⟩ := Option.bind_eq_some_iff.mp h
 have HT := Qa ht
 have H := Qa h
 clear ht h
 go_enter Try.func73, Try.ntmps73
 go_upto_region 1 with (first
  | ((with_reducible refine Qp (N := 2) rfl ?_); refine Bx (N := 2) (cs := #[.int .i64 a0, .int .i64 a1, .int .i64 a2, .int .i64 a3, .slice A4 l4.length c4]) (t := 32) ?_; intro gf hgf W1 hbox hb1; have BF := Qa hbox; have HB1 := Qa hb1; clear hbox hb1 hgf)
  | ((with_reducible refine Qp (N := 3) rfl ?_); refine Bx (N := 3) (cs := #[.int .i64 v]) (t := 3) ?_; intro gv hgv W2 hbox hb2; have ST : Qf (WSt w gf gv #[.int .i64 a0, .int .i64 a1, .int .i64 a2, .int .i64 a3, .slice A4 l4.length c4] v W2) := ⟨⟨below_step HB1.out hb2, blk_below BF.out hb2, hbox⟩⟩; clear hbox hb2 hgv))
 (try simp only [Act.put, List.setIfInBounds_toArray, List.set_cons_zero, List.set_cons_succ])
 go_cut [39] (fun v39 wc => ∃ b : Bool, v39 = .bool b ∧ Qf ((if b = true then some false else bad.bind fun t36 => some (!t36)) = some r) ∧ Qf (WSt w gf gv #[.int .i64 a0, .int .i64 a1, .int .i64 a2, .int .i64 a3, .slice A4 l4.length c4] v wc))
 case first =>
  have h := H.out; clear H; have q0 : World.cell? _ ⟨gf, 0, none⟩ = some (.int .i64 a0) := (Qd ST.out.bf 0).trans rfl; have q1 : World.cell? _ ⟨gf, 1, none⟩ = some (.int .i64 a1) := (Qd ST.out.bf 1).trans rfl; have q2 : World.cell? _ ⟨gf, 2, none⟩ = some (.int .i64 a2) := (Qd ST.out.bf 2).trans rfl; have q3 : World.cell? _ ⟨gf, 3, none⟩ = some (.int .i64 a3) := (Qd ST.out.bf 3).trans rfl; have q4 : World.cell? _ ⟨gf, 4, none⟩ = some (.slice A4 l4.length c4) := (Qd ST.out.bf 4).trans rfl; have qv : World.cell? _ ⟨gv, 0, none⟩ = some (.int .i64 v) := (Qd ST.out.bv 0).trans rfl; by_cases c1 : (l4.length : Int) = t
  ·rw [if_pos c1] at h; have d1 : ((l4.length : Int) != t) = false := bne_eq_false_iff_eq.mpr c1; have d1' : ((l4.length : Int) == t) = true := beq_iff_eq.mpr c1; clear c1; obtain ⟨t25, H400, h⟩ := Option.bind_eq_some_iff.mp h; obtain ⟨t38, H401, h⟩ := Option.bind_eq_some_iff.mp h; replace H400 := Qa H400; replace H401 := Qa H401; cases t38 with
   | false =>
    rw [if_neg (by decide)] at h; try go_wp2
    repeat (go_quiet (first | (go_at_call 40; (with_reducible exact quietD (fun w => impl_ArityOf.calls k a0 t w HT.out))) | (go_at_call 105; (with_reducible exact quietD (fun w => impl_usesK.calls a0 t25 w H400.out))) | (go_at_call 104; (with_reducible exact quietD (fun w => impl_isField.calls a1 t25 v false w H401.out)))); try go_wp2)
    go_meet
    case rel => exact ⟨true, rfl, ⟨by rw [if_pos rfl]; exact h⟩, ⟨by repeat (first | exact ST.out | refine WSt.drewN ?_ _)⟩⟩
   | true =>
    rw [if_pos rfl] at h; obtain ⟨t26, H402, h⟩ := Option.bind_eq_some_iff.mp h; obtain ⟨t40, H403, h⟩ := Option.bind_eq_some_iff.mp h; replace H402 := Qa H402; replace H403 := Qa H403; cases t40 with
    | false =>
     rw [if_neg (by decide)] at h; try go_wp2
     repeat (go_quiet (first | (go_at_call 40; (with_reducible exact quietD (fun w => impl_ArityOf.calls k a0 t w HT.out))) | (go_at_call 105; (with_reducible exact quietD (fun w => impl_usesK.calls a0 t25 w H400.out))) | (go_at_call 104; (with_reducible exact quietD (fun w => impl_isField.calls a1 t25 v true w H401.out))) | (go_at_call 63; (with_reducible exact quietD (fun w => impl_usesU.calls a0 t26 w H402.out))) | (go_at_call 104; (with_reducible exact quietD (fun w => impl_isField.calls a2 t26 4 false w H403.out)))); try go_wp2)
     go_meet
     case rel => exact ⟨true, rfl, ⟨by rw [if_pos rfl]; exact h⟩, ⟨by repeat (first | exact ST.out | refine WSt.drewN ?_ _)⟩⟩
    | true =>
     rw [if_pos rfl] at h; obtain ⟨t29, H404, h⟩ := Option.bind_eq_some_iff.mp h; obtain ⟨t41, H405, h⟩ := Option.bind_eq_some_iff.mp h; replace H404 := Qa H404; replace H405 := Qa H405; cases t41 with
     | false =>
      rw [if_neg (by decide)] at h; try go_wp2
      repeat (go_quiet (first | (go_at_call 40; (with_reducible exact quietD (fun w => impl_ArityOf.calls k a0 t w HT.out))) | (go_at_call 105; (with_reducible exact quietD (fun w => impl_usesK.calls a0 t25 w H400.out))) | (go_at_call 104; (with_reducible exact quietD (fun w => impl_isField.calls a1 t25 v true w H401.out))) | (go_at_call 63; (with_reducible exact quietD (fun w => impl_usesU.calls a0 t26 w H402.out))) | (go_at_call 104; (with_reducible exact quietD (fun w => impl_isField.calls a2 t26 4 true w H403.out))) | (go_at_call 64; (with_reducible exact quietD (fun w => impl_usesV.calls a0 t29 w H404.out))) | (go_at_call 104; (with_reducible exact quietD (fun w => impl_isField.calls a3 t29 4 false w H405.out)))); try go_wp2)
      go_meet
      case rel => exact ⟨true, rfl, ⟨by rw [if_pos rfl]; exact h⟩, ⟨by repeat (first | exact ST.out | refine WSt.drewN ?_ _)⟩⟩
     | true =>
      rw [if_pos rfl] at h; try go_wp2
      repeat (go_quiet (first | (go_at_call 40; (with_reducible exact quietD (fun w => impl_ArityOf.calls k a0 t w HT.out))) | (go_at_call 105; (with_reducible exact quietD (fun w => impl_usesK.calls a0 t25 w H400.out))) | (go_at_call 104; (with_reducible exact quietD (fun w => impl_isField.calls a1 t25 v true w H401.out))) | (go_at_call 63; (with_reducible exact quietD (fun w => impl_usesU.calls a0 t26 w H402.out))) | (go_at_call 104; (with_reducible exact quietD (fun w => impl_isField.calls a2 t26 4 true w H403.out))) | (go_at_call 64; (with_reducible exact quietD (fun w => impl_usesV.calls a0 t29 w H404.out))) | (go_at_call 104; (with_reducible exact quietD (fun w => impl_isField.calls a3 t29 4 true w H405.out)))); try go_wp2)
      go_meet
      case rel => exact ⟨false, rfl, ⟨by rw [if_neg (by decide)]; exact h⟩, ⟨by repeat (first | exact ST.out | refine WSt.drewN ?_ _)⟩⟩
  ·rw [if_neg c1] at h; have d1 : ((l4.length : Int) != t) = true := bne_iff_ne.mpr c1; have d1' : ((l4.length : Int) == t) = false := beq_eq_false_iff_ne.mpr c1; clear c1; try go_wp2
   repeat (go_quiet (first | (go_at_call 40; (with_reducible exact quietD (fun w => impl_ArityOf.calls k a0 t w HT.out)))); try go_wp2)
   go_meet
   case rel => exact ⟨true, rfl, ⟨by rw [if_pos rfl]; exact h⟩, ⟨by repeat (first | exact ST.out | refine WSt.drewN ?_ _)⟩⟩
 case rest =>
  clear H ST; obtain ⟨b, rfl, H, ST⟩ := hcut; cases b with
  | true =>
   have h := H.out; rw [if_pos rfl] at h; obtain rfl := Option.some.inj h; go_wp2; go_ret; exact ⟨rfl, ST.out.bel⟩
  | false =>
   have h := H.out; rw [if_neg (by decide)] at h; obtain ⟨t36, hb6, h⟩ := Option.bind_eq_some_iff.mp h; obtain rfl := Option.some.inj h; have HB6 := Qa (HBAD.out.trans hb6); clear h hb6 H HBAD; have q4 : World.cell? _ ⟨gf, 4, none⟩ = some (.slice A4 l4.length c4) := (Qd ST.out.bf 4).trans rfl; have qv : World.cell? _ ⟨gv, 0, none⟩ = some (.int .i64 v) := (Qd ST.out.bv 0).trans rfl; have HR1 := Qa (Ql HR.out ST.out.bel); go_wp2_with (first
    | (go_at_call 106; refine (well_contains hW l4 A4 c4 gv _ HR1.out hc qv hl t36 HB6.out).mono ?_; rintro e W3 ⟨rfl, hb3⟩; have HB3 := Qa (below_step ST.out.bel hb3); clear hb3))
   go_wp2; go_ret; exact ⟨rfl, HB3.out⟩
def impl_IsFormula.f (k : Nat) (a0 : Int) (a1_0 : Int) (a1_1 : Int) (a1_2 : Int) (a1_3 : Int) (l1_4 : List (S32)) : Option (Bool) := (impl_SizeOf.f k a1_0 a1_1 a1_2 a1_3 l1_4).bind fun t27 => (if t27 ≤ 40 then ((impl_DepthOf.f k a1_0 a1_1 a1_2 a1_3 l1_4).bind fun t28 => (if t28 ≤ 12 then ((impl_Formula_isWell.f k a1_0 a1_1 a1_2 a1_3 l1_4 a0).bind fun t37 => (some t37)) else (some false))) else (some false))
theorem impl_IsFormula.mono : ∀ a0 a1 a2 a3 a4 a5 k, LeO (impl_IsFormula.f k a0 a1 a2 a3 a4 a5) (impl_IsFormula.f (k + 1) a0 a1 a2 a3 a4 a5) := by
 intro a0 a1 a2 a3 a4 a5 k
 unfold impl_IsFormula.f
 exact Lm3 impl_DepthOf.mono impl_Formula_isWell.mono impl_SizeOf.mono
theorem impl_IsFormula.calls (k : Nat) (a0 : Int) (a1_0 : Int) (a1_1 : Int) (a1_2 : Int) (a1_3 : Int) (A1_4 : Option Addr) (c1_4 : Nat) (l1_4 : List (S32)) (r : Bool) (w : Qm) (hr1_4 : Kd.C k32 w A1_4 l1_4.length l1_4) (hc1_4 : l1_4.length ≤ c1_4) (h : impl_IsFormula.f k a0 a1_0 a1_1 a1_2 a1_3 l1_4 = some r) :
  Qz Qk 36 #[.int .i64 a0, .agg #[.int .i64 a1_0, .int .i64 a1_1, .int .i64 a1_2, .int .i64 a1_3, .slice A1_4 l1_4.length c1_4]] w fun e w' => e = .returned (.bool r) ∧ Qq w.heap.size w w' := by
 have hu32 := Qh
 have HR1_4 := Qa hr1_4
 have HC1_4 := Qa hc1_4
 clear hr1_4 hc1_4
 have HB := Qa (Below.refl w.heap.size w)
 have H : ((impl_SizeOf.f k a1_0 a1_1 a1_2 a1_3 l1_4).bind fun t27 => (if t27 ≤ 40 then ((impl_DepthOf.f k a1_0 a1_1 a1_2 a1_3 l1_4).bind fun t28 => (if t28 ≤ 12 then ((impl_Formula_isWell.f k a1_0 a1_1 a1_2 a1_3 l1_4 a0).bind fun t37 => (some t37)) else (some false))) else (some false))) = some r := h
 clear h
 obtain ⟨t27, A3, H⟩ := Ob H
 (try dsimp only at H)
 by_cases c4 : t27 ≤ 40
 ·rw [if_pos c4] at H
  replace c4 := decide_eq_true c4; obtain ⟨t28, A5, H⟩ := Ob H; (try dsimp only at H)
  by_cases c6 : t28 ≤ 12
  ·rw [if_pos c6] at H; replace c6 := decide_eq_true c6; obtain ⟨t37, A7, H⟩ := Ob H; (try dsimp only at H)
   obtain rfl := Option.some.inj H; go_enter Try.func36, Try.ntmps36; go_wp2_with (first | ((with_reducible refine Qp (N := 3) rfl ?_); refine Bx (N := 3) (cs := #[.int .i64 a1_0, .int .i64 a1_1, .int .i64 a1_2, .int .i64 a1_3, .slice A1_4 l1_4.length c1_4]) (t := 32) ?_; intro gb23 hg w8 hbox hb; have BK23 := Qa (hbox); have GW23 := Gs (w := w) hg (Bb0 HB.out); have GE23 := GW23; replace HB := Sb (Bb0 HB.out) hb; clear hb hbox hg; obtain ⟨q9_0, q9_1, q9_2, q9_3, q9_4, u9_0, u9_1, u9_2, u9_3, u9_4⟩ := Cf5 BK23) | ((with_reducible refine Qc (f := 31) rfl ?_); refine Gl 6 Try.func31 #[.agg #[.int .i64 a1_0, .int .i64 a1_1, .int .i64 a1_2, .int .i64 a1_3, .slice A1_4 l1_4.length c1_4]] ?_; (with_reducible refine (impl_SizeOf.calls k a1_0 a1_1 a1_2 a1_3 _ _ l1_4 t27 _ ?_ ?_ A3.out).mono ?_); exact Bc (Ql HR1_4.out HB.out); exact HC1_4.out; rintro e w10 ⟨rfl, hb⟩; refine ⟨_, rfl, ?_⟩; replace BK23 := Kb BK23 hb; replace HB := Sb (Bb1 HB.out GE23.out) hb; clear hb; obtain ⟨q11_0, q11_1, q11_2, q11_3, q11_4, u11_0, u11_1, u11_2, u11_3, u11_4⟩ := Cf5 BK23) | (go_at_call 32; (with_reducible refine (impl_DepthOf.calls k a1_0 a1_1 a1_2 a1_3 _ _ l1_4 t28 _ ?_ ?_ A5.out).mono ?_); exact Bc (Ql HR1_4.out HB.out); exact HC1_4.out; rintro e w12 ⟨rfl, hb⟩; replace BK23 := Kb BK23 hb; replace HB := Sb (Bb1 HB.out GE23.out) hb; clear hb; obtain ⟨q13_0, q13_1, q13_2, q13_3, q13_4, u13_0, u13_1, u13_2, u13_3, u13_4⟩ := Cf5 BK23) | (go_at_call 73; (with_reducible refine (impl_Formula_isWell.calls k a1_0 a1_1 a1_2 a1_3 _ _ l1_4 a0 t37 _ ?_ ?_ A7.out).mono ?_); exact Bc (Ql HR1_4.out HB.out); exact HC1_4.out; rintro e w14 ⟨rfl, hb⟩; replace BK23 := Kb BK23 hb; replace HB := Sb (Bb1 HB.out GE23.out) hb; clear hb)); go_ret; exact ⟨Ze, Bb1 HB.out GE23.out⟩
  ·rw [if_neg c6] at H; replace c6 := decide_eq_false c6; obtain rfl := Option.some.inj H; go_enter Try.func36, Try.ntmps36; go_wp2_with (first | ((with_reducible refine Qp (N := 3) rfl ?_); refine Bx (N := 3) (cs := #[.int .i64 a1_0, .int .i64 a1_1, .int .i64 a1_2, .int .i64 a1_3, .slice A1_4 l1_4.length c1_4]) (t := 32) ?_; intro gb23 hg w15 hbox hb; have BK23 := Qa (hbox); have GW23 := Gs (w := w) hg (Bb0 HB.out); have GE23 := GW23; replace HB := Sb (Bb0 HB.out) hb; clear hb hbox hg; obtain ⟨q16_0, q16_1, q16_2, q16_3, q16_4, u16_0, u16_1, u16_2, u16_3, u16_4⟩ := Cf5 BK23) | ((with_reducible refine Qc (f := 31) rfl ?_); refine Gl 6 Try.func31 #[.agg #[.int .i64 a1_0, .int .i64 a1_1, .int .i64 a1_2, .int .i64 a1_3, .slice A1_4 l1_4.length c1_4]] ?_; (with_reducible refine (impl_SizeOf.calls k a1_0 a1_1 a1_2 a1_3 _ _ l1_4 t27 _ ?_ ?_ A3.out).mono ?_); exact Bc (Ql HR1_4.out HB.out); exact HC1_4.out; rintro e w17 ⟨rfl, hb⟩; refine ⟨_, rfl, ?_⟩; replace BK23 := Kb BK23 hb; replace HB := Sb (Bb1 HB.out GE23.out) hb; clear hb; obtain ⟨q18_0, q18_1, q18_2, q18_3, q18_4, u18_0, u18_1, u18_2, u18_3, u18_4⟩ := Cf5 BK23) | (go_at_call 32; (with_reducible refine (impl_DepthOf.calls k a1_0 a1_1 a1_2 a1_3 _ _ l1_4 t28 _ ?_ ?_ A5.out).mono ?_); exact Bc (Ql HR1_4.out HB.out); exact HC1_4.out; rintro e w19 ⟨rfl, hb⟩; replace BK23 := Kb BK23 hb; replace HB := Sb (Bb1 HB.out GE23.out) hb; clear hb)); go_ret; exact ⟨Ze, Bb1 HB.out GE23.out⟩
 ·rw [if_neg c4] at H
  replace c4 := decide_eq_false c4; obtain rfl := Option.some.inj H; go_enter Try.func36, Try.ntmps36; go_wp2_with (first | ((with_reducible refine Qp (N := 3) rfl ?_); refine Bx (N := 3) (cs := #[.int .i64 a1_0, .int .i64 a1_1, .int .i64 a1_2, .int .i64 a1_3, .slice A1_4 l1_4.length c1_4]) (t := 32) ?_; intro gb23 hg w20 hbox hb; have BK23 := Qa (hbox); have GW23 := Gs (w := w) hg (Bb0 HB.out); have GE23 := GW23; replace HB := Sb (Bb0 HB.out) hb; clear hb hbox hg; obtain ⟨q21_0, q21_1, q21_2, q21_3, q21_4, u21_0, u21_1, u21_2, u21_3, u21_4⟩ := Cf5 BK23) | ((with_reducible refine Qc (f := 31) rfl ?_); refine Gl 6 Try.func31 #[.agg #[.int .i64 a1_0, .int .i64 a1_1, .int .i64 a1_2, .int .i64 a1_3, .slice A1_4 l1_4.length c1_4]] ?_; (with_reducible refine (impl_SizeOf.calls k a1_0 a1_1 a1_2 a1_3 _ _ l1_4 t27 _ ?_ ?_ A3.out).mono ?_); exact Bc (Ql HR1_4.out HB.out); exact HC1_4.out; rintro e w22 ⟨rfl, hb⟩; refine ⟨_, rfl, ?_⟩; replace BK23 := Kb BK23 hb; replace HB := Sb (Bb1 HB.out GE23.out) hb; clear hb)); go_ret; exact ⟨Ze, Bb1 HB.out GE23.out⟩
def impl_IsName.l0 : Nat → ByteArray → Int → Int → Option (Bool)
 | 0, _, _, _ => none
 | k + 1, x0, x5, x6 => if x6 < x5 then (if 0 ≤ x6 then (if x6 < (x0.size : Int) then (if (bt x0 x6) < 97 then (some false) else (if (bt x0 x6) > 122 then (some false) else (impl_IsName.l0 k x0 x5 (Qg (x6 + 1))))) else (none)) else (none)) else ((impl_within.f (x0.size : Int) 1 2).bind fun t42 => (some t42))
def impl_IsName.f (k : Nat) (a0 : ByteArray) : Option (Bool) := impl_IsName.l0 k a0 (a0.size : Int) 0
theorem impl_IsName.mono_l : ∀ k, (∀ y0 y1 y2, LeO (impl_IsName.l0 k y0 y1 y2) (impl_IsName.l0 (k + 1) y0 y1 y2))
 | 0 => fun _ _ _ r h => by simp [impl_IsName.l0] at h
 | k + 1 => by
  have ih0 := impl_IsName.mono_l k
  ·intro y0 y1 y2; unfold impl_IsName.l0; exact Lm1 ih0
theorem impl_IsName.mono : ∀ a0 k, LeO (impl_IsName.f k a0) (impl_IsName.f (k + 1) a0) := by
 intro a0 k
 have ih0 := impl_IsName.mono_l k
 unfold impl_IsName.f
 exact Lm1 ih0
theorem impl_IsName.calls (k : Nat) (a0 : ByteArray) (r : Bool) (w : Qm) (h : impl_IsName.f k a0 = some r) :
  Qz Qk 81 #[.string a0] w fun e w' => e = .returned (.bool r) ∧ Drawn0 w w' := by
 have H : (impl_IsName.l0 k a0 (a0.size : Int) 0) = some r := h
 clear h
 have H' := Qa H
 clear H
 go_enter Try.func81, Try.ntmps81
 go_wp2
 go_loopg [6] k (fun kq v6 w' => ∃ (x6_1 : Int), v6 = .int .i64 x6_1 ∧ Qf (impl_IsName.l0 kq a0 (a0.size : Int) x6_1 = some r) ∧ Qf (kq ≤ k) ∧ Drawn0 w w')
 case atStart => exact ⟨(0), Zf, H', ⟨Nat.le_refl _⟩, by repeat (first | exact Qi _ | apply Qj)⟩
 case round =>
  clear H'; obtain ⟨x6_1, rfl, HA, HK1, ⟨m1, rfl⟩⟩ := hrel; cases gk with
  | zero => exact absurd HA.out (by simp [impl_IsName.l0])
  | succ k1 =>
   have H := HA.out; clear HA; simp only [impl_IsName.l0] at H; by_cases c2 : x6_1 < (a0.size : Int)
   ·rw [if_pos c2] at H; replace c2 := decide_eq_true c2; by_cases c3 : 0 ≤ x6_1
    ·rw [if_pos c3] at H; replace c3 := decide_eq_true c3; by_cases c4 : x6_1 < (a0.size : Int)
     ·rw [if_pos c4] at H; replace c4 := decide_eq_true c4; by_cases c6 : (bt a0 x6_1) < 97
      ·rw [if_pos c6] at H; replace c6 := decide_eq_true c6; obtain rfl := Option.some.inj H; have p5 : 0 ≤ (x6_1 : Int) := Da; have q5 : x6_1 < (a0.size : Int) := Da; have hx5 := bt_at a0 x6_1; replace p5 := eq_true p5; replace q5 := eq_true q5; go_wp2; go_ret; exact ⟨by first | rfl | (simp; done) | (simp [*]; done), by repeat (first | exact Qi _ | apply Qj)⟩
      ·rw [if_neg c6] at H; replace c6 := decide_eq_false c6; by_cases c8 : (bt a0 x6_1) > 122
       ·rw [if_pos c8] at H; replace c8 := decide_eq_true c8; obtain rfl := Option.some.inj H; have p5 : 0 ≤ (x6_1 : Int) := Da; have q5 : x6_1 < (a0.size : Int) := Da; have hx5 := bt_at a0 x6_1; replace p5 := eq_true p5; replace q5 := eq_true q5; have p7 : 0 ≤ (x6_1 : Int) := Da; have q7 : x6_1 < (a0.size : Int) := Da; have hx7 := bt_at a0 x6_1; replace p7 := eq_true p7; replace q7 := eq_true q7; go_wp2; go_ret; exact ⟨by first | rfl | (simp; done) | (simp [*]; done), by repeat (first | exact Qi _ | apply Qj)⟩
       ·rw [if_neg c8] at H; replace c8 := decide_eq_false c8; have H' := Qa H; clear H; have p5 : 0 ≤ (x6_1 : Int) := Da; have q5 : x6_1 < (a0.size : Int) := Da; have hx5 := bt_at a0 x6_1; replace p5 := eq_true p5; replace q5 := eq_true q5; have p7 : 0 ≤ (x6_1 : Int) := Da; have q7 : x6_1 < (a0.size : Int) := Da; have hx7 := bt_at a0 x6_1; replace p7 := eq_true p7; replace q7 := eq_true q7; go_wp2; go_roundg k1
        case measure => have := HK1.out; omega
        case rel => exact ⟨(Qg (x6_1 + 1)), Zf, H', ⟨by have := HK1.out; omega⟩, by repeat (first | exact Qi _ | apply Qj)⟩
     ·rw [if_neg c4] at H; exact absurd H (by simp)
    ·rw [if_neg c3] at H; exact absurd H (by simp)
   ·rw [if_neg c2] at H; replace c2 := decide_eq_false c2; obtain ⟨t42, A9, H⟩ := Ob H; (try dsimp only at H)
    obtain rfl := Option.some.inj H; go_wp2_with (first | ((with_reducible refine Qc (f := 66) rfl ?_); refine Gl 22 Try.func66 #[.int .i64 (a0.size : Int), .int .i64 1, .int .i64 2] ?_; (with_reducible refine (impl_within.calls (a0.size : Int) 1 2 t42 _ A9.out).mono ?_); rintro e w' ⟨rfl, ⟨nd, rfl⟩⟩; refine ⟨_, rfl, ?_⟩)); go_ret; exact ⟨by first | rfl | (simp; done) | (simp [*]; done), by repeat (first | exact Qi _ | apply Qj)⟩
def slices_Index_string_string.l0 : Nat → List ByteArray → ByteArray → Int → Int → Option (Int)
 | 0, _, _, _, _ => none
 | k + 1, x0, x1, x7, x8 => if x8 < x7 then (if 0 ≤ x8 then (if x8 < (x0.length : Int) then (if x1.toList = (rdOf ByteArray.empty x0 x8).toList then (some x8) else (slices_Index_string_string.l0 k x0 x1 x7 (Qg (x8 + 1)))) else (none)) else (none)) else (some (-1))
def slices_Index_string_string.f (k : Nat) (l0 : List ByteArray) (a1 : ByteArray) : Option (Int) := slices_Index_string_string.l0 k l0 a1 (l0.length : Int) 0
theorem slices_Index_string_string.mono_l : ∀ k, (∀ y0 y1 y2 y3, LeO (slices_Index_string_string.l0 k y0 y1 y2 y3) (slices_Index_string_string.l0 (k + 1) y0 y1 y2 y3))
 | 0 => fun _ _ _ _ r h => by simp [slices_Index_string_string.l0] at h
 | k + 1 => by
  have ih0 := slices_Index_string_string.mono_l k
  ·intro y0 y1 y2 y3; unfold slices_Index_string_string.l0; exact Lm1 ih0
theorem slices_Index_string_string.mono : ∀ a0 a1 k, LeO (slices_Index_string_string.f k a0 a1) (slices_Index_string_string.f (k + 1) a0 a1) := by
 intro a0 a1 k
 have ih0 := slices_Index_string_string.mono_l k
 unfold slices_Index_string_string.f
 exact Lm1 ih0
theorem slices_Index_string_string.calls (k : Nat) (A0 : Option Addr) (c0 : Nat) (l0 : List ByteArray) (a1 : ByteArray) (r : Int) (w : Qm) (hr0 : Kd.C Kd.string w A0 l0.length l0) (hc0 : l0.length ≤ c0) (h : slices_Index_string_string.f k l0 a1 = some r) :
  Qz Qk 109 #[.slice A0 l0.length c0, .string a1] w fun e w' => e = .returned (.int .i64 r) ∧ Drawn0 w w' := by
 have HR0 := Qa hr0
 have HC0 := Qa hc0
 clear hr0 hc0
 have H : (slices_Index_string_string.l0 k l0 a1 (l0.length : Int) 0) = some r := h
 clear h
 have H' := Qa H
 clear H
 go_enter Try.func109, Try.ntmps109
 go_wp2
 go_loopg [8] k (fun kq v8 w' => ∃ (x8_1 : Int), v8 = .int .i64 x8_1 ∧ Qf (slices_Index_string_string.l0 kq l0 a1 (l0.length : Int) x8_1 = some r) ∧ Qf (kq ≤ k) ∧ Drawn0 w w')
 case atStart => exact ⟨(0), Zf, H', ⟨Nat.le_refl _⟩, by repeat (first | exact Qi _ | apply Qj)⟩
 case round =>
  clear H'; (try clear c1)
  (try clear p2)
  obtain ⟨x8_1, rfl, HA, HK1, ⟨m1, rfl⟩⟩ := hrel; cases gk with
  | zero => exact absurd HA.out (by simp [slices_Index_string_string.l0])
  | succ k1 =>
   have H := HA.out; clear HA; simp only [slices_Index_string_string.l0] at H; by_cases c3 : x8_1 < (l0.length : Int)
   ·rw [if_pos c3] at H; replace c3 := decide_eq_true c3; by_cases c4 : 0 ≤ x8_1
    ·rw [if_pos c4] at H; replace c4 := decide_eq_true c4; by_cases c5 : x8_1 < (l0.length : Int)
     ·rw [if_pos c5] at H; replace c5 := decide_eq_true c5; by_cases c6 : a1.toList = (rdOf ByteArray.empty l0 x8_1).toList
      ·rw [if_pos c6] at H; have c6b0 := beq_iff_eq.mpr c6; have c6b1 := bne_eq_false_iff_eq.mpr c6; clear c6; obtain rfl := Option.some.inj H; have p24 : 0 ≤ (x8_1 : Int) := Da; have q24 : x8_1 < (l0.length : Int) := Da; obtain ⟨ad24, e24, hx24_0⟩ := Qw HR0.out x8_1 p24 q24; cases e24
       replace p24 := eq_true p24; replace q24 := eq_true q24; go_wp2; go_ret; exact ⟨by first | rfl | (simp; done) | (simp [*]; done), by repeat (first | exact Qi _ | apply Qj)⟩
      ·rw [if_neg c6] at H; have c6b0 := beq_eq_false_iff_ne.mpr c6; have c6b1 := bne_iff_ne.mpr c6; have H' := Qa H; clear H; have p24 : 0 ≤ (x8_1 : Int) := Da; have q24 : x8_1 < (l0.length : Int) := Da; obtain ⟨ad24, e24, hx24_0⟩ := Qw HR0.out x8_1 p24 q24; cases e24
       replace p24 := eq_true p24; replace q24 := eq_true q24; go_wp2; go_roundg k1
       case measure => have := HK1.out; omega
       case rel => exact ⟨(Qg (x8_1 + 1)), Zf, H', ⟨by have := HK1.out; omega⟩, by repeat (first | exact Qi _ | apply Qj)⟩
     ·rw [if_neg c5] at H; exact absurd H (by simp)
    ·rw [if_neg c4] at H; exact absurd H (by simp)
   ·rw [if_neg c3] at H; replace c3 := decide_eq_false c3; obtain rfl := Option.some.inj H; go_wp2; go_ret; exact ⟨by first | rfl | (simp; done) | (simp [*]; done), by repeat (first | exact Qi _ | apply Qj)⟩
end Go.Proofs.Ytoljagpjejpmpaa.PFnExactParseFormula
