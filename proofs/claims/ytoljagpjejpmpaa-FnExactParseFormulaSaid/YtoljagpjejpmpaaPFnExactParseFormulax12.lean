/- A part of the walk through the printed functions; no condition. -/
import Derived.Test.YtoljagpjejpmpaaXAuto
import Derived.Test.YtoljagpjejpmpaaPFnExactParseFormulax0
import Derived.Test.YtoljagpjejpmpaaPFnExactParseFormulax10
namespace Go.Proofs.Ytoljagpjejpmpaa.PFnExactParseFormula
open Go.RowKit Go.Proofs.YtoljagpjejpmpaaW.PrintWords Go.Proofs.YtoljagpjejpmpaaW.PrintLast Go.Proofs.YtoljagpjejpmpaaW.PrintMore
attribute [local go_sem] max2_int min2_int max_two min_two max_three min_three max_four min_four
set_option maxHeartbeats 32000000
set_option maxRecDepth 100000
attribute [local irreducible] Go.World.setCell
set_option linter.unusedVariables false
set_option linter.unusedSimpArgs false
open Go.Proofs.YtoljagpjejpmpaaW.PrintWords.Aside0 renaming mk → Qa
open Go.World renaming drewN_drewN → Qb, drewN → Qo
open Go.Proofs.YtoljagpjejpmpaaW.PrintWords renaming gate_callee → Qc, blk_cell → Qd, blk_frozen → Qe, Aside0 → Qf, KeepBut → Qu
open Go.RowKit renaming wrap64 → Qg, Below → Qq
open Go.Proofs.Try renaming underlying32 → Qh, prog → Qk, func91 → Qn
open Go.Proofs.YtoljagpjejpmpaaW.PrintWords.Kd renaming C_below → Ql
open Go renaming World → Qm, Value → Qs, bodyPost_ret → Qx, Calls → Qz
def IsS78 (w0 W : Qm) (g : Nat) (f0 : List ByteArray) (f1 : ByteArray) (f2 : Int) (f3 : Bool) : Prop := ∃ A0 c0, W.heap[g]? = some (.cells #[.slice A0 f0.length c0, .string f1, .int .i64 f2, .bool f3] 78 (0, 0)) ∧ w0.heap.size ≤ g ∧ (Kd.C Kd.string w0 A0 f0.length f0 ∧ f0.length ≤ c0)
theorem IsS78.grown {w0 W : Qm} {g : Nat} {f0 : List ByteArray} {f1 : ByteArray} {f2 : Int} {f3 : Bool} {W1 : Qm} {row : Option Nat} (h : IsS78 w0 W g f0 f1 f2 f3) (hw : W.grownBy W1 row) (hne : some g ≠ row) : IsS78 w0 W1 g f0 f1 f2 f3 := by
 obtain ⟨A0, c0, hb, hg, hr0⟩ := h
 exact ⟨A0, c0, blk_grown hb hw hne, hg, hr0⟩
theorem IsS78.own_neN {w0 W : Qm} {g : Nat} {f0 : List ByteArray} {f1 : ByteArray} {f2 : Int} {f3 : Bool} {α : Type} {d : Kd α} {e : Nat} {base : Nat} {ok : Nat → Prop} {v : Qs} {xs : List α} (h : IsS78 w0 W g f0 f1 f2 f3) (ho : Kd.N d e W base ok v xs) (ht : e ≠ 78) : some g ≠ v.ownBlock := by
 obtain ⟨A0, c0, hb, hg, hr0⟩ := h
 exact Kd.N_ne ho hb ht
theorem IsS78.fresh {w0 W : Qm} {g : Nat} {f0 : List ByteArray} {f1 : ByteArray} {f2 : Int} {f3 : Bool} (h : IsS78 w0 W g f0 f1 f2 f3) : ∀ k, W.heap.size ≤ k → k ≠ g := by
 obtain ⟨A0, c0, hb, hg, hr0⟩ := h
 exact Kd.freshB hb
theorem IsS78.kept {w0 W : Qm} {g : Nat} {f0 : List ByteArray} {f1 : ByteArray} {f2 : Int} {f3 : Bool} {W1 : Qm} {S : Nat → Prop} (h : IsS78 w0 W g f0 f1 f2 f3) (hk : Kept W W1 S) (hne : ¬ S g) : IsS78 w0 W1 g f0 f1 f2 f3 := by
 obtain ⟨A0, c0, hb, hg, hr0⟩ := h
 exact ⟨A0, c0, blk_kept hb hk hne, hg, hr0⟩
theorem IsS78.below {w0 W : Qm} {g : Nat} {f0 : List ByteArray} {f1 : ByteArray} {f2 : Int} {f3 : Bool} {W1 : Qm} (h : IsS78 w0 W g f0 f1 f2 f3) (hw : Qq W.heap.size W W1) : IsS78 w0 W1 g f0 f1 f2 f3 := h.grown (grown_of_below hw none) (by simp)
theorem IsS78.alloc {w0 W : Qm} {g : Nat} {f0 : List ByteArray} {f1 : ByteArray} {f2 : Int} {f3 : Bool} (h : IsS78 w0 W g f0 f1 f2 f3) (o : Obj) : IsS78 w0 (W.alloc o) g f0 f1 f2 f3 := h.below (below_alloc (Below.refl _ _) o)
theorem IsS78.drewN {w0 W : Qm} {g : Nat} {f0 : List ByteArray} {f1 : ByteArray} {f2 : Int} {f3 : Bool} (h : IsS78 w0 W g f0 f1 f2 f3) (m : Nat) : IsS78 w0 (W.drewN m) g f0 f1 f2 f3 := h
theorem IsS78.drew {w0 W : Qm} {g : Nat} {f0 : List ByteArray} {f1 : ByteArray} {f2 : Int} {f3 : Bool} (h : IsS78 w0 W g f0 f1 f2 f3) : IsS78 w0 W.drew g f0 f1 f2 f3 := h
theorem IsS78.at_ {w0 W : Qm} {g : Nat} {f0 : List ByteArray} {f1 : ByteArray} {f2 : Int} {f3 : Bool} {w' : Qm} {m : Nat} (hq : W.drewN m = w') (h : IsS78 w0 W g f0 f1 f2 f3) : IsS78 w0 w' g f0 f1 f2 f3 := by subst hq; exact IsS78.drewN h m
theorem IsS78.apart {w0 W : Qm} {g : Nat} {f0 : List ByteArray} {f1 : ByteArray} {f2 : Int} {f3 : Bool} {α : Type} {d : Kd α} {e : Nat} {base : Nat} {ok : Nat → Prop} {v : Qs} {xs : List α} (h : IsS78 w0 W g f0 f1 f2 f3) (ho : d.R e W base ok v xs) (ht : ∀ q, q ∈ e :: d.E → q ≠ 78) : d.R e W base (fun k => ok k ∧ k ≠ g) v xs := by
 obtain ⟨A0, c0, hb, hg, hr0⟩ := h
 exact Kd.R_types ho hb ht
theorem IsS78.own_ne {w0 W : Qm} {g : Nat} {f0 : List ByteArray} {f1 : ByteArray} {f2 : Int} {f3 : Bool} {α : Type} {d : Kd α} {e : Nat} {base : Nat} {ok : Nat → Prop} {v : Qs} {xs : List α} (h : IsS78 w0 W g f0 f1 f2 f3) (ho : d.R e W base ok v xs) (ht : e ≠ 78) : some g ≠ v.ownBlock := by
 obtain ⟨A0, c0, hb, hg, hr0⟩ := h
 exact Kd.R_ne ho hb ht
theorem IsS78.apartQ {w0 W : Qm} {g : Nat} {f0 : List ByteArray} {f1 : ByteArray} {f2 : Int} {f3 : Bool} {α : Type} {d : Kd α} {e : Nat} {base : Nat} {ok : Nat → Prop} {v : Qs} {xs : List α} (h : IsS78 w0 W g f0 f1 f2 f3) (ho : d.Q e W base ok v xs) (ht : ∀ q, q ∈ e :: d.E → q ≠ 78) : d.Q e W base (fun k => ok k ∧ k ≠ g) v xs := by
 obtain ⟨A0, c0, hb, hg, hr0⟩ := h
 exact Kd.Q_types ho hb ht
theorem IsS78.own_neQ {w0 W : Qm} {g : Nat} {f0 : List ByteArray} {f1 : ByteArray} {f2 : Int} {f3 : Bool} {α : Type} {d : Kd α} {e : Nat} {base : Nat} {ok : Nat → Prop} {v : Qs} {xs : List α} (h : IsS78 w0 W g f0 f1 f2 f3) (ho : d.Q e W base ok v xs) (ht : e ≠ 78) : some g ≠ v.ownBlock := by
 obtain ⟨A0, c0, hb, hg, hr0⟩ := h
 exact Kd.Q_ne ho hb ht
theorem IsS78.apartS {w0 W : Qm} {g : Nat} {f0 : List ByteArray} {f1 : ByteArray} {f2 : Int} {f3 : Bool} {α : Type} {d : Kd α} {e : Nat} {base : Nat} {ok : Nat → Prop} {v : Qs} {xs : List α} (h : IsS78 w0 W g f0 f1 f2 f3) (ho : d.S e W base ok v xs) (ht : ∀ q, q ∈ e :: d.E → q ≠ 78) : d.S e W base (fun k => ok k ∧ k ≠ g) v xs := by
 obtain ⟨A0, c0, hb, hg, hr0⟩ := h
 exact Kd.S_types ho hb ht
theorem IsS78.own_neS {w0 W : Qm} {g : Nat} {f0 : List ByteArray} {f1 : ByteArray} {f2 : Int} {f3 : Bool} {α : Type} {d : Kd α} {e : Nat} {base : Nat} {ok : Nat → Prop} {v : Qs} {xs : List α} (h : IsS78 w0 W g f0 f1 f2 f3) (ho : d.S e W base ok v xs) (ht : e ≠ 78) : some g ≠ v.ownBlock := by
 obtain ⟨A0, c0, hb, hg, hr0⟩ := h
 exact Kd.S_ne ho hb ht
theorem IsS78.lt {w0 W : Qm} {g : Nat} {f0 : List ByteArray} {f1 : ByteArray} {f2 : Int} {f3 : Bool} (h : IsS78 w0 W g f0 f1 f2 f3) : g < W.heap.size := by
 obtain ⟨A0, c0, hb, hg, hr0⟩ := h
 exact blk_lt hb
theorem IsS78.ge {w0 W : Qm} {g : Nat} {f0 : List ByteArray} {f1 : ByteArray} {f2 : Int} {f3 : Bool} (h : IsS78 w0 W g f0 f1 f2 f3) : w0.heap.size ≤ g := by
 obtain ⟨A0, c0, hb, hg, hr0⟩ := h
 exact hg
theorem IsS78.ne_blk {w0 W : Qm} {g : Nat} {f0 : List ByteArray} {f1 : ByteArray} {f2 : Int} {f3 : Bool} {a : Nat} {cs : Array Qs} {t : TypeId} {fr : Nat × Nat} (h : IsS78 w0 W g f0 f1 f2 f3) (hb2 : W.heap[a]? = some (.cells cs t fr)) (ht : t ≠ 78) : g ≠ a := by
 obtain ⟨A0, c0, hb, hg, hr0⟩ := h
 rintro rfl
 rw [hb] at hb2
 injection hb2 with hb2
 injection hb2 with _ ht2
 exact ht ht2.symm
theorem IsS78.far {w0 W : Qm} {g : Nat} {f0 : List ByteArray} {f1 : ByteArray} {f2 : Int} {f3 : Bool} {p : Addr} (h : IsS78 w0 W g f0 f1 f2 f3) (hne : g ≠ p.block) (u : Qs) : IsS78 w0 (W.setCell p u) g f0 f1 f2 f3 := by
 obtain ⟨A0, c0, hb, hg, hr0⟩ := h
 exact ⟨A0, c0, blk_far hb hne u, hg, hr0⟩
theorem cellS78_0 {W : Qm} {g : Nat} {A0 : Option Addr} {c0 : Nat} {f0 : List ByteArray} {f1 : ByteArray} {f2 : Int} {f3 : Bool} (h : W.heap[g]? = some (.cells #[.slice A0 f0.length c0, .string f1, .int .i64 f2, .bool f3] 78 (0, 0))) : W.cell? ⟨g, 0, none⟩ = some (.slice A0 f0.length c0) := (Qd h 0).trans rfl
theorem cellS78_1 {W : Qm} {g : Nat} {A0 : Option Addr} {c0 : Nat} {f0 : List ByteArray} {f1 : ByteArray} {f2 : Int} {f3 : Bool} (h : W.heap[g]? = some (.cells #[.slice A0 f0.length c0, .string f1, .int .i64 f2, .bool f3] 78 (0, 0))) : W.cell? ⟨g, 1, none⟩ = some (.string f1) := (Qd h 1).trans rfl
theorem IsS78.set_1 {w0 W : Qm} {g : Nat} {f0 : List ByteArray} {f1 : ByteArray} {f2 : Int} {f3 : Bool} (h : IsS78 w0 W g f0 f1 f2 f3) (x : ByteArray) : IsS78 w0 (W.setCell ⟨g, 1, none⟩ (.string x)) g f0 x f2 f3 := by
 obtain ⟨A0, c0, hb, hg, hr0⟩ := h
 exact ⟨A0, c0, by simpa using blk_set hb 1 (.string x), hg, hr0⟩
theorem cellS78_2 {W : Qm} {g : Nat} {A0 : Option Addr} {c0 : Nat} {f0 : List ByteArray} {f1 : ByteArray} {f2 : Int} {f3 : Bool} (h : W.heap[g]? = some (.cells #[.slice A0 f0.length c0, .string f1, .int .i64 f2, .bool f3] 78 (0, 0))) : W.cell? ⟨g, 2, none⟩ = some (.int .i64 f2) := (Qd h 2).trans rfl
theorem IsS78.set_2 {w0 W : Qm} {g : Nat} {f0 : List ByteArray} {f1 : ByteArray} {f2 : Int} {f3 : Bool} (h : IsS78 w0 W g f0 f1 f2 f3) (x : Int) : IsS78 w0 (W.setCell ⟨g, 2, none⟩ (.int .i64 x)) g f0 f1 x f3 := by
 obtain ⟨A0, c0, hb, hg, hr0⟩ := h
 exact ⟨A0, c0, by simpa using blk_set hb 2 (.int .i64 x), hg, hr0⟩
theorem cellS78_3 {W : Qm} {g : Nat} {A0 : Option Addr} {c0 : Nat} {f0 : List ByteArray} {f1 : ByteArray} {f2 : Int} {f3 : Bool} (h : W.heap[g]? = some (.cells #[.slice A0 f0.length c0, .string f1, .int .i64 f2, .bool f3] 78 (0, 0))) : W.cell? ⟨g, 3, none⟩ = some (.bool f3) := (Qd h 3).trans rfl
theorem IsS78.set_3 {w0 W : Qm} {g : Nat} {f0 : List ByteArray} {f1 : ByteArray} {f2 : Int} {f3 : Bool} (h : IsS78 w0 W g f0 f1 f2 f3) (x : Bool) : IsS78 w0 (W.setCell ⟨g, 3, none⟩ (.bool x)) g f0 f1 f2 x := by
 obtain ⟨A0, c0, hb, hg, hr0⟩ := h
 exact ⟨A0, c0, by simpa using blk_set hb 3 (.bool x), hg, hr0⟩
theorem I78 {p q0 : Prop} (h0 : q0) (f : q0 → p := by intro h0_; repeat (first | (with_reducible first | exact h0_ | apply IsS78.alloc | apply IsS78.drewN | apply IsS78.drew | apply IsS78.set_1 | apply IsS78.set_2 | apply IsS78.set_3) | exact h0_)) : p := f h0
theorem I78x1 {p q0 q1 : Prop} (h0 : q0) (h1 : q1) (f : q0 → q1 → p := by intro h0_ h1_; repeat (first | (with_reducible first | exact h0_ | apply IsS78.alloc | apply IsS78.drewN | apply IsS78.drew | apply IsS78.set_1 | apply IsS78.set_2 | apply IsS78.set_3 | refine IsS78.far ?_ h1_ _) | exact h0_)) : p := f h0 h1
theorem I78x2 {p q0 q1 q2 : Prop} (h0 : q0) (h1 : q1) (h2 : q2) (f : q0 → q1 → q2 → p := by intro h0_ h1_ h2_; repeat (first | (with_reducible first | exact h0_ | apply IsS78.alloc | apply IsS78.drewN | apply IsS78.drew | apply IsS78.set_1 | apply IsS78.set_2 | apply IsS78.set_3 | refine IsS78.far ?_ h1_ _ | refine IsS78.far ?_ h2_ _) | exact h0_)) : p := f h0 h1 h2
theorem I78x3 {p q0 q1 q2 q3 : Prop} (h0 : q0) (h1 : q1) (h2 : q2) (h3 : q3) (f : q0 → q1 → q2 → q3 → p := by intro h0_ h1_ h2_ h3_; repeat (first | (with_reducible first | exact h0_ | apply IsS78.alloc | apply IsS78.drewN | apply IsS78.drew | apply IsS78.set_1 | apply IsS78.set_2 | apply IsS78.set_3 | refine IsS78.far ?_ h1_ _ | refine IsS78.far ?_ h2_ _ | refine IsS78.far ?_ h3_ _) | exact h0_)) : p := f h0 h1 h2 h3
theorem IsS78.new (w0 W : Qm) (A0 : Option Addr) (c0 : Nat) (f0 : List ByteArray) (f1 : ByteArray) (f2 : Int) (f3 : Bool) (hB : Qq w0.heap.size w0 W) (hr0 : Kd.C Kd.string w0 A0 f0.length f0 ∧ f0.length ≤ c0) : IsS78 w0 (W.alloc (.cells #[.slice A0 f0.length c0, .string f1, .int .i64 f2, .bool f3] 78)) W.heap.size f0 f1 f2 f3 := ⟨A0, c0, by simpa using heap_alloc_new W _, hB.size, hr0⟩
def spec_l11Take.f (s0_0 : List ByteArray) (s0_1 : ByteArray) (s0_2 : Int) (s0_3 : Bool) (a1 : ByteArray) : Option (Bool × ByteArray × Int × Bool) := if s0_3 = true then (some (false, s0_1, s0_2, s0_3)) else (if (Qg (s0_2 + (a1.size : Int))) > (s0_1.size : Int) then (some (false, s0_1, s0_2, s0_3)) else (if 0 ≤ s0_2 then (if s0_2 ≤ (Qg (s0_2 + (a1.size : Int))) then (if (Qg (s0_2 + (a1.size : Int))) ≤ (s0_1.size : Int) then (if (s0_1.extract (s0_2 : Int).toNat ((Qg (s0_2 + (a1.size : Int))) : Int).toNat).toList = a1.toList then (some (true, s0_1, Qg (s0_2 + (a1.size : Int)), s0_3)) else (some (false, s0_1, s0_2, s0_3))) else (none)) else (none)) else (none)))
theorem spec_l11Take.calls (g : Nat) (s0_0 : List ByteArray) (s0_1 : ByteArray) (s0_2 : Int) (s0_3 : Bool) (a1 : ByteArray) (r1 : Bool) (r2 : ByteArray) (r3 : Int) (r4 : Bool) (w0 w : Qm) (hI : IsS78 w0 w g s0_0 s0_1 s0_2 s0_3) (hB : Qq w0.heap.size w0 w) (h : spec_l11Take.f s0_0 s0_1 s0_2 s0_3 a1 = some (r1, r2, r3, r4)) :
  Qz Qk 91 #[.pointer (some ⟨g, 0, none⟩), .string a1] w fun e w' => e = .returned (.bool r1) ∧ IsS78 w0 w' g s0_0 r2 r3 r4 ∧ Qq w0.heap.size w0 w' ∧ Qu w w' g none := by
 have HI0 := Qa hI
 have HK := Qa (KeepBut.refl w g none)
 have HL := Qa hB.size
 clear hI
 have HW0 := Qa hB.size
 have HB := Qa hB
 clear hB
 have H : (if s0_3 = true then (some (false, s0_1, s0_2, s0_3)) else (if (Qg (s0_2 + (a1.size : Int))) > (s0_1.size : Int) then (some (false, s0_1, s0_2, s0_3)) else (if 0 ≤ s0_2 then (if s0_2 ≤ (Qg (s0_2 + (a1.size : Int))) then (if (Qg (s0_2 + (a1.size : Int))) ≤ (s0_1.size : Int) then (if (s0_1.extract (s0_2 : Int).toNat ((Qg (s0_2 + (a1.size : Int))) : Int).toNat).toList = a1.toList then (some (true, s0_1, Qg (s0_2 + (a1.size : Int)), s0_3)) else (some (false, s0_1, s0_2, s0_3))) else (none)) else (none)) else (none)))) = some (r1, r2, r3, r4) := h
 clear h
 by_cases c3 : s0_3 = true
 ·subst c3
  rw [if_pos rfl] at H; simp only [Option.some.injEq, Prod.mk.injEq] at H; obtain ⟨rfl, rfl, rfl, rfl⟩ := H; obtain ⟨ASz4_0, cSz4_0, HGz4, hgz4, ⟨HSz4_0, HQz4_0⟩⟩ := HI0.out; have q4_0 := cellS78_0 HGz4; have q4_1 := cellS78_1 HGz4; have q4_2 := cellS78_2 HGz4; have q4_3 := cellS78_3 HGz4; have u4_1 := Qe HGz4 1; have u4_2 := Qe HGz4 2; have u4_3 := Qe HGz4 3; clear HGz4 hgz4; go_enter Qn, Try.ntmps91; go_wp2; repeat (go_quiet (fail); try go_wp2)
  go_ret; exact ⟨Ze, I78 HI0.out, Bb1 HB.out (IsS78.ge HI0.out), Kp HK.out⟩
 ·replace c3 := Bool.eq_false_iff.mpr c3
  subst c3; rw [if_neg (show ¬ (false = true) by decide)] at H; by_cases c5 : (Qg (s0_2 + (a1.size : Int))) > (s0_1.size : Int)
  ·rw [if_pos c5] at H; replace c5 := decide_eq_true c5; simp only [Option.some.injEq, Prod.mk.injEq] at H; obtain ⟨rfl, rfl, rfl, rfl⟩ := H; obtain ⟨ASz6_0, cSz6_0, HGz6, hgz6, ⟨HSz6_0, HQz6_0⟩⟩ := HI0.out; have q6_0 := cellS78_0 HGz6; have q6_1 := cellS78_1 HGz6; have q6_2 := cellS78_2 HGz6; have q6_3 := cellS78_3 HGz6; have u6_1 := Qe HGz6 1; have u6_2 := Qe HGz6 2; have u6_3 := Qe HGz6 3; clear HGz6 hgz6; go_enter Qn, Try.ntmps91; go_wp2; repeat (go_quiet (fail); try go_wp2)
   go_ret; exact ⟨Ze, I78 HI0.out, Bb1 HB.out (IsS78.ge HI0.out), Kp HK.out⟩
  ·rw [if_neg c5] at H; replace c5 := decide_eq_false c5; by_cases c7 : 0 ≤ s0_2
   ·rw [if_pos c7] at H; have c7b0 := eq_true c7; have c7b1 := decide_eq_true c7; clear c7; by_cases c8 : s0_2 ≤ (Qg (s0_2 + (a1.size : Int)))
    ·rw [if_pos c8] at H; have c8b0 := eq_true c8; have c8b1 := decide_eq_true c8; by_cases c9 : (Qg (s0_2 + (a1.size : Int))) ≤ (s0_1.size : Int)
     ·rw [if_pos c9] at H; have c9b0 := eq_true c9; have c9b1 := decide_eq_true c9; by_cases c10 : (s0_1.extract (s0_2 : Int).toNat ((Qg (s0_2 + (a1.size : Int))) : Int).toNat).toList = a1.toList
      ·rw [if_pos c10] at H; have c10b0 := beq_iff_eq.mpr c10; have c10b1 := bne_eq_false_iff_eq.mpr c10; clear c10; simp only [Option.some.injEq, Prod.mk.injEq] at H; obtain ⟨rfl, rfl, rfl, rfl⟩ := H; obtain ⟨ASz11_0, cSz11_0, HGz11, hgz11, ⟨HSz11_0, HQz11_0⟩⟩ := HI0.out; have q11_0 := cellS78_0 HGz11; have q11_1 := cellS78_1 HGz11; have q11_2 := cellS78_2 HGz11; have q11_3 := cellS78_3 HGz11; have u11_1 := Qe HGz11 1; have u11_2 := Qe HGz11 2; have u11_3 := Qe HGz11 3; clear HGz11 hgz11; go_enter Qn, Try.ntmps91; go_wp2; repeat (go_quiet (fail); try go_wp2)
       go_ret; exact ⟨Ze, I78 HI0.out, Bb1 HB.out (IsS78.ge HI0.out), Kp HK.out⟩
      ·rw [if_neg c10] at H; have c10b0 := beq_eq_false_iff_ne.mpr c10; have c10b1 := bne_iff_ne.mpr c10; simp only [Option.some.injEq, Prod.mk.injEq] at H; obtain ⟨rfl, rfl, rfl, rfl⟩ := H; obtain ⟨ASz12_0, cSz12_0, HGz12, hgz12, ⟨HSz12_0, HQz12_0⟩⟩ := HI0.out; have q12_0 := cellS78_0 HGz12; have q12_1 := cellS78_1 HGz12; have q12_2 := cellS78_2 HGz12; have q12_3 := cellS78_3 HGz12; have u12_1 := Qe HGz12 1; have u12_2 := Qe HGz12 2; have u12_3 := Qe HGz12 3; clear HGz12 hgz12; go_enter Qn, Try.ntmps91; go_wp2; repeat (go_quiet (fail); try go_wp2)
       go_ret; exact ⟨Ze, I78 HI0.out, Bb1 HB.out (IsS78.ge HI0.out), Kp HK.out⟩
     ·rw [if_neg c9] at H; exact absurd H (by simp)
    ·rw [if_neg c8] at H; exact absurd H (by simp)
   ·rw [if_neg c7] at H; exact absurd H (by simp)
def spec_l11Must.f (s0_0 : List ByteArray) (s0_1 : ByteArray) (s0_2 : Int) (s0_3 : Bool) (a1 : ByteArray) : Option (ByteArray × Int × Bool) := if s0_3 = true then (some (s0_1, s0_2, true)) else ((spec_l11Take.f s0_0 s0_1 s0_2 s0_3 a1).bind fun bt53 => (some (bt53.2.1, bt53.2.2.1, !bt53.1)))
theorem spec_l11Must.calls (g : Nat) (s0_0 : List ByteArray) (s0_1 : ByteArray) (s0_2 : Int) (s0_3 : Bool) (a1 : ByteArray) (r1 : ByteArray) (r2 : Int) (r3 : Bool) (w0 w : Qm) (hI : IsS78 w0 w g s0_0 s0_1 s0_2 s0_3) (hB : Qq w0.heap.size w0 w) (h : spec_l11Must.f s0_0 s0_1 s0_2 s0_3 a1 = some (r1, r2, r3)) :
  Qz Qk 96 #[.pointer (some ⟨g, 0, none⟩), .string a1] w fun e w' => e = .returned (.tuple #[]) ∧ IsS78 w0 w' g s0_0 r1 r2 r3 ∧ Qq w0.heap.size w0 w' ∧ Qu w w' g none := by
 have HI0 := Qa hI
 have HK := Qa (KeepBut.refl w g none)
 have HL := Qa hB.size
 clear hI
 have HW0 := Qa hB.size
 have HB := Qa hB
 clear hB
 have H : (if s0_3 = true then (some (s0_1, s0_2, true)) else ((spec_l11Take.f s0_0 s0_1 s0_2 s0_3 a1).bind fun bt53 => (some (bt53.2.1, bt53.2.2.1, !bt53.1)))) = some (r1, r2, r3) := h
 clear h
 by_cases c3 : s0_3 = true
 ·subst c3
  rw [if_pos rfl] at H; simp only [Option.some.injEq, Prod.mk.injEq] at H; obtain ⟨rfl, rfl, rfl⟩ := H; obtain ⟨ASz4_0, cSz4_0, HGz4, hgz4, ⟨HSz4_0, HQz4_0⟩⟩ := HI0.out; have q4_0 := cellS78_0 HGz4; have q4_1 := cellS78_1 HGz4; have q4_2 := cellS78_2 HGz4; have q4_3 := cellS78_3 HGz4; have u4_1 := Qe HGz4 1; have u4_2 := Qe HGz4 2; have u4_3 := Qe HGz4 3; clear HGz4 hgz4; go_enter Try.func96, Try.ntmps96; go_wp2; first | go_end0 | ((try simp only [Exit.inBlock, Exit.then]); refine Qx (results_none rfl _ _ _) rfl ?_)
  exact ⟨Ze, I78 HI0.out, Bb1 HB.out (IsS78.ge HI0.out), Kp HK.out⟩
 ·replace c3 := Bool.eq_false_iff.mpr c3
  subst c3; rw [if_neg (show ¬ (false = true) by decide)] at H; obtain ⟨⟨t53, t82, t83, t84⟩, A5, H⟩ := Ob H; (try dsimp only at H)
  simp only [Option.some.injEq, Prod.mk.injEq] at H; obtain ⟨rfl, rfl, rfl⟩ := H; obtain ⟨ASz6_0, cSz6_0, HGz6, hgz6, ⟨HSz6_0, HQz6_0⟩⟩ := HI0.out; have q6_0 := cellS78_0 HGz6; have q6_1 := cellS78_1 HGz6; have q6_2 := cellS78_2 HGz6; have q6_3 := cellS78_3 HGz6; have u6_1 := Qe HGz6 1; have u6_2 := Qe HGz6 2; have u6_3 := Qe HGz6 3; clear HGz6 hgz6; go_enter Try.func96, Try.ntmps96; go_wp2_with (first | (go_at_call 91; (with_reducible refine (spec_l11Take.calls g s0_0 s0_1 s0_2 false a1 t53 t82 t83 t84 w0 _ ?_ ?_ A5.out).mono ?_); exact I78 HI0.out; exact Bb1 HB.out (IsS78.ge HI0.out); rintro e w7 ⟨rfl, hi, hb, hk⟩; replace HK := Kk (Kp HK.out) hk; replace HB := Qa (hb); replace HI0 := Qa (hi); clear hb hk hi; obtain ⟨ASz8_0, cSz8_0, HGz8, hgz8, ⟨HSz8_0, HQz8_0⟩⟩ := HI0.out; have q8_0 := cellS78_0 HGz8; have q8_1 := cellS78_1 HGz8; have q8_2 := cellS78_2 HGz8; have q8_3 := cellS78_3 HGz8; have u8_1 := Qe HGz8 1; have u8_2 := Qe HGz8 2; have u8_3 := Qe HGz8 3; clear HGz8 hgz8)); first | go_end0 | ((try simp only [Exit.inBlock, Exit.then]); refine Qx (results_none rfl _ _ _) rfl ?_)
  exact ⟨Ze, I78 HI0.out, Bb1 HB.out (IsS78.ge HI0.out), Kp HK.out⟩
def spec_l11Name.l0 : Nat → Int → List ByteArray → ByteArray → Int → Bool → Option (Int × ByteArray × Int × Bool)
 | 0, _, _, _, _, _ => none
 | k + 1, x3, x46, x45, x43, x50 => if x43 < (x45.size : Int) then (if 0 ≤ x43 then (if (bt x45 x43) ≥ 97 then (if (bt x45 x43) ≤ 122 then (spec_l11Name.l0 k x3 x46 x45 (Qg (x43 + 1)) x50) else (if 0 ≤ x3 then (if x3 ≤ x43 then (if x43 ≤ (x45.size : Int) then ((spec_IndexOf.f k x46 (x45.extract (x3 : Int).toNat (x43 : Int).toNat)).bind fun t47 => (if x50 = true then ((spec_l11Must.f x46 x45 x43 true (⟨#[58]⟩ : ByteArray)).bind fun bt56 => (some (t47, bt56.1, bt56.2.1, bt56.2.2))) else ((spec_l11Must.f x46 x45 x43 (decide (t47 < 0)) (⟨#[58]⟩ : ByteArray)).bind fun bt57 => (some (t47, bt57.1, bt57.2.1, bt57.2.2))))) else (none)) else (none)) else (none))) else (if 0 ≤ x3 then (if x3 ≤ x43 then (if x43 ≤ (x45.size : Int) then ((spec_IndexOf.f k x46 (x45.extract (x3 : Int).toNat (x43 : Int).toNat)).bind fun t48 => (if x50 = true then ((spec_l11Must.f x46 x45 x43 true (⟨#[58]⟩ : ByteArray)).bind fun bt58 => (some (t48, bt58.1, bt58.2.1, bt58.2.2))) else ((spec_l11Must.f x46 x45 x43 (decide (t48 < 0)) (⟨#[58]⟩ : ByteArray)).bind fun bt59 => (some (t48, bt59.1, bt59.2.1, bt59.2.2))))) else (none)) else (none)) else (none))) else (none)) else (if 0 ≤ x3 then (if x3 ≤ x43 then (if x43 ≤ (x45.size : Int) then ((spec_IndexOf.f k x46 (x45.extract (x3 : Int).toNat (x43 : Int).toNat)).bind fun t49 => (if x50 = true then ((spec_l11Must.f x46 x45 x43 true (⟨#[58]⟩ : ByteArray)).bind fun bt60 => (some (t49, bt60.1, bt60.2.1, bt60.2.2))) else ((spec_l11Must.f x46 x45 x43 (decide (t49 < 0)) (⟨#[58]⟩ : ByteArray)).bind fun bt61 => (some (t49, bt61.1, bt61.2.1, bt61.2.2))))) else (none)) else (none)) else (none))
def spec_l11Name.f (k : Nat) (s0_0 : List ByteArray) (s0_1 : ByteArray) (s0_2 : Int) (s0_3 : Bool) : Option (Int × ByteArray × Int × Bool) := spec_l11Name.l0 k s0_2 s0_0 s0_1 s0_2 s0_3
theorem spec_l11Name.mono_l : ∀ k, (∀ y0 y1 y2 y3 y4, LeO (spec_l11Name.l0 k y0 y1 y2 y3 y4) (spec_l11Name.l0 (k + 1) y0 y1 y2 y3 y4))
 | 0 => fun _ _ _ _ _ r h => by simp [spec_l11Name.l0] at h
 | k + 1 => by
  have ih0 := spec_l11Name.mono_l k
  ·intro y0 y1 y2 y3 y4; unfold spec_l11Name.l0; exact Lm2 ih0 spec_IndexOf.mono
theorem spec_l11Name.mono : ∀ a0 a1 a2 a3 k, LeO (spec_l11Name.f k a0 a1 a2 a3) (spec_l11Name.f (k + 1) a0 a1 a2 a3) := by
 intro a0 a1 a2 a3 k
 have ih0 := spec_l11Name.mono_l k
 unfold spec_l11Name.f
 exact Lm2 ih0 spec_IndexOf.mono
theorem spec_l11Name.calls (k : Nat) (g : Nat) (s0_0 : List ByteArray) (s0_1 : ByteArray) (s0_2 : Int) (s0_3 : Bool) (r1 : Int) (r2 : ByteArray) (r3 : Int) (r4 : Bool) (w0 w : Qm) (hI : IsS78 w0 w g s0_0 s0_1 s0_2 s0_3) (hB : Qq w0.heap.size w0 w) (h : spec_l11Name.f k s0_0 s0_1 s0_2 s0_3 = some (r1, r2, r3, r4)) :
  Qz Qk 92 #[.pointer (some ⟨g, 0, none⟩)] w fun e w' => e = .returned (.int .i64 r1) ∧ IsS78 w0 w' g s0_0 r2 r3 r4 ∧ Qq w0.heap.size w0 w' ∧ Qu w w' g none := by
 have HI0 := Qa hI
 have HK := Qa (KeepBut.refl w g none)
 have HL := Qa hB.size
 clear hI
 have HW0 := Qa hB.size
 have HB := Qa hB
 clear hB
 have H : (spec_l11Name.l0 k s0_2 s0_0 s0_1 s0_2 s0_3) = some (r1, r2, r3, r4) := h
 clear h
 have H' := Qa H
 clear H
 obtain ⟨ASz2_0, cSz2_0, HGz2, hgz2, ⟨HSz2_0, HQz2_0⟩⟩ := HI0.out
 have q2_0 := cellS78_0 HGz2
 have q2_1 := cellS78_1 HGz2
 have q2_2 := cellS78_2 HGz2
 have q2_3 := cellS78_3 HGz2
 have u2_1 := Qe HGz2 1
 have u2_2 := Qe HGz2 2
 have u2_3 := Qe HGz2 3
 clear HGz2 hgz2
 go_enter Try.func92, Try.ntmps92
 go_wp2
 repeat (go_quiet (fail); try go_wp2)
 go_loopg [] k (fun kq w' => ∃ (x43_1 : Int), Qf (spec_l11Name.l0 kq s0_2 s0_0 s0_1 x43_1 s0_3 = some (r1, r2, r3, r4)) ∧ Qf (kq ≤ k) ∧ Qf (IsS78 w0 w' g s0_0 s0_1 x43_1 s0_3) ∧ Qf (Qu w w' g none) ∧ Qf (Qq w0.heap.size w0 w'))
 case atStart => exact ⟨(s0_2), H', ⟨Nat.le_refl _⟩, ⟨I78 HI0.out⟩, ⟨Kp HK.out⟩, ⟨Bb1 HB.out (IsS78.ge HI0.out)⟩⟩
 case round =>
  clear H'; (try clear p2)
  (try clear q2_0)
  (try clear q2_1)
  (try clear q2_2)
  (try clear q2_3)
  (try clear u2_1)
  (try clear u2_2)
  (try clear u2_3)
  obtain ⟨x43_1, HA, HK1, HI0, HK, HB⟩ := hrel; cases gk with
  | zero => exact absurd HA.out (by simp [spec_l11Name.l0])
  | succ k1 =>
   have H := HA.out; clear HA; simp only [spec_l11Name.l0] at H; by_cases c3 : x43_1 < (s0_1.size : Int)
   ·rw [if_pos c3] at H; replace c3 := decide_eq_true c3; by_cases c4 : 0 ≤ x43_1
    ·rw [if_pos c4] at H; replace c4 := decide_eq_true c4; by_cases c6 : (bt s0_1 x43_1) ≥ 97
     ·rw [if_pos c6] at H; replace c6 := decide_eq_true c6; by_cases c8 : (bt s0_1 x43_1) ≤ 122
      ·rw [if_pos c8] at H; replace c8 := decide_eq_true c8; have H' := Qa H; clear H; obtain ⟨ASz9_0, cSz9_0, HGz9, hgz9, ⟨HSz9_0, HQz9_0⟩⟩ := HI0.out; have q9_0 := cellS78_0 HGz9; have q9_1 := cellS78_1 HGz9; have q9_2 := cellS78_2 HGz9; have q9_3 := cellS78_3 HGz9; have u9_1 := Qe HGz9 1; have u9_2 := Qe HGz9 2; have u9_3 := Qe HGz9 3; clear HGz9 hgz9; have p5 : 0 ≤ (x43_1 : Int) := Da; have q5 : x43_1 < (s0_1.size : Int) := Da; have hx5 := bt_at s0_1 x43_1; replace p5 := eq_true p5; replace q5 := eq_true q5; have p7 : 0 ≤ (x43_1 : Int) := Da; have q7 : x43_1 < (s0_1.size : Int) := Da; have hx7 := bt_at s0_1 x43_1; replace p7 := eq_true p7; replace q7 := eq_true q7; go_wp2; repeat (go_quiet (fail); try go_wp2)
       go_roundg k1
       case measure => have := HK1.out; omega
       case rel => exact ⟨(Qg (x43_1 + 1)), H', ⟨by have := HK1.out; omega⟩, ⟨I78 HI0.out⟩, ⟨Kp HK.out⟩, ⟨Bb1 HB.out (IsS78.ge HI0.out)⟩⟩
      ·rw [if_neg c8] at H; replace c8 := decide_eq_false c8; by_cases c10 : 0 ≤ s0_2
       ·rw [if_pos c10] at H; have c10b0 := eq_true c10; have c10b1 := decide_eq_true c10; clear c10; by_cases c11 : s0_2 ≤ x43_1
        ·rw [if_pos c11] at H; have c11b0 := eq_true c11; have c11b1 := decide_eq_true c11; clear c11; by_cases c12 : x43_1 ≤ (s0_1.size : Int)
         ·rw [if_pos c12] at H; have c12b0 := eq_true c12; have c12b1 := decide_eq_true c12; clear c12; obtain ⟨t47, A13, H⟩ := Ob H; (try dsimp only at H)
          by_cases c14 : s0_3 = true
          ·subst c14; rw [if_pos rfl] at H; obtain ⟨⟨t56, t62, t63⟩, A15, H⟩ := Ob H; (try dsimp only at H)
           simp only [Option.some.injEq, Prod.mk.injEq] at H; obtain ⟨rfl, rfl, rfl, rfl⟩ := H; obtain ⟨ASz16_0, cSz16_0, HGz16, hgz16, ⟨HSz16_0, HQz16_0⟩⟩ := HI0.out; have q16_0 := cellS78_0 HGz16; have q16_1 := cellS78_1 HGz16; have q16_2 := cellS78_2 HGz16; have q16_3 := cellS78_3 HGz16; have u16_1 := Qe HGz16 1; have u16_2 := Qe HGz16 2; have u16_3 := Qe HGz16 3; clear HGz16 hgz16; have p5 : 0 ≤ (x43_1 : Int) := Da; have q5 : x43_1 < (s0_1.size : Int) := Da; have hx5 := bt_at s0_1 x43_1; replace p5 := eq_true p5; replace q5 := eq_true q5; have p7 : 0 ≤ (x43_1 : Int) := Da; have q7 : x43_1 < (s0_1.size : Int) := Da; have hx7 := bt_at s0_1 x43_1; replace p7 := eq_true p7; replace q7 := eq_true q7; go_wp2_with (first | (go_at_call 79; (with_reducible refine (spec_IndexOf.calls k1 _ _ s0_0 (s0_1.extract (s0_2 : Int).toNat (x43_1 : Int).toNat) t47 _ ?_ ?_ A13.out).mono ?_); exact Ql HSz16_0 (Bb1 HB.out (IsS78.ge HI0.out)); exact HQz16_0; rintro e w' ⟨rfl, ⟨nd, rfl⟩⟩; (try first | exact ⟨rfl, _, Qb _ _ _⟩ | exact ⟨rfl, _, Eq.trans (Qb _ _ _) (congrArg (Qo _) (Nat.add_assoc _ _ _))⟩)) | (go_at_call 96; (with_reducible refine (spec_l11Must.calls g s0_0 s0_1 x43_1 true (⟨#[58]⟩ : ByteArray) t56 t62 t63 w0 _ ?_ ?_ A15.out).mono ?_); exact I78 HI0.out; exact Bb1 HB.out (IsS78.ge HI0.out); rintro e w17 ⟨rfl, hi, hb, hk⟩; replace HK := Kk (Kp HK.out) hk; replace HB := Qa (hb); replace HI0 := Qa (hi); clear hb hk hi)); repeat (go_quiet (first | (go_at_call 79; (with_reducible refine (spec_IndexOf.calls k1 _ _ s0_0 (s0_1.extract (s0_2 : Int).toNat (x43_1 : Int).toNat) t47 _ ?_ ?_ A13.out).mono ?_); exact Ql HSz16_0 (Bb1 HB.out (IsS78.ge HI0.out)); exact HQz16_0; rintro e w' ⟨rfl, ⟨nd, rfl⟩⟩; (try first | exact ⟨rfl, _, Qb _ _ _⟩ | exact ⟨rfl, _, Eq.trans (Qb _ _ _) (congrArg (Qo _) (Nat.add_assoc _ _ _))⟩)) | (go_at_call 96; (with_reducible refine (spec_l11Must.calls g s0_0 s0_1 x43_1 true (⟨#[58]⟩ : ByteArray) t56 t62 t63 w0 _ ?_ ?_ A15.out).mono ?_); exact I78 HI0.out; exact Bb1 HB.out (IsS78.ge HI0.out); rintro e w17 ⟨rfl, hi, hb, hk⟩; replace HK := Kk (Kp HK.out) hk; replace HB := Qa (hb); replace HI0 := Qa (hi); clear hb hk hi)); try go_wp2_with (first | (go_at_call 79; (with_reducible refine (spec_IndexOf.calls k1 _ _ s0_0 (s0_1.extract (s0_2 : Int).toNat (x43_1 : Int).toNat) t47 _ ?_ ?_ A13.out).mono ?_); exact Ql HSz16_0 (Bb1 HB.out (IsS78.ge HI0.out)); exact HQz16_0; rintro e w' ⟨rfl, ⟨nd, rfl⟩⟩; (try first | exact ⟨rfl, _, Qb _ _ _⟩ | exact ⟨rfl, _, Eq.trans (Qb _ _ _) (congrArg (Qo _) (Nat.add_assoc _ _ _))⟩)) | (go_at_call 96; (with_reducible refine (spec_l11Must.calls g s0_0 s0_1 x43_1 true (⟨#[58]⟩ : ByteArray) t56 t62 t63 w0 _ ?_ ?_ A15.out).mono ?_); exact I78 HI0.out; exact Bb1 HB.out (IsS78.ge HI0.out); rintro e w17 ⟨rfl, hi, hb, hk⟩; replace HK := Kk (Kp HK.out) hk; replace HB := Qa (hb); replace HI0 := Qa (hi); clear hb hk hi)))
           go_ret; exact ⟨Ze, I78 HI0.out, Bb1 HB.out (IsS78.ge HI0.out), Kp HK.out⟩
          ·replace c14 := Bool.eq_false_iff.mpr c14; subst c14; rw [if_neg (show ¬ (false = true) by decide)] at H; obtain ⟨⟨t57, t65, t66⟩, A18, H⟩ := Ob H; (try dsimp only at H)
           simp only [Option.some.injEq, Prod.mk.injEq] at H; obtain ⟨rfl, rfl, rfl, rfl⟩ := H; obtain ⟨ASz19_0, cSz19_0, HGz19, hgz19, ⟨HSz19_0, HQz19_0⟩⟩ := HI0.out; have q19_0 := cellS78_0 HGz19; have q19_1 := cellS78_1 HGz19; have q19_2 := cellS78_2 HGz19; have q19_3 := cellS78_3 HGz19; have u19_1 := Qe HGz19 1; have u19_2 := Qe HGz19 2; have u19_3 := Qe HGz19 3; clear HGz19 hgz19; have p5 : 0 ≤ (x43_1 : Int) := Da; have q5 : x43_1 < (s0_1.size : Int) := Da; have hx5 := bt_at s0_1 x43_1; replace p5 := eq_true p5; replace q5 := eq_true q5; have p7 : 0 ≤ (x43_1 : Int) := Da; have q7 : x43_1 < (s0_1.size : Int) := Da; have hx7 := bt_at s0_1 x43_1; replace p7 := eq_true p7; replace q7 := eq_true q7; go_wp2_with (first | (go_at_call 79; (with_reducible refine (spec_IndexOf.calls k1 _ _ s0_0 (s0_1.extract (s0_2 : Int).toNat (x43_1 : Int).toNat) t47 _ ?_ ?_ A13.out).mono ?_); exact Ql HSz19_0 (Bb1 HB.out (IsS78.ge HI0.out)); exact HQz19_0; rintro e w' ⟨rfl, ⟨nd, rfl⟩⟩; (try first | exact ⟨rfl, _, Qb _ _ _⟩ | exact ⟨rfl, _, Eq.trans (Qb _ _ _) (congrArg (Qo _) (Nat.add_assoc _ _ _))⟩)) | (go_at_call 96; (with_reducible refine (spec_l11Must.calls g s0_0 s0_1 x43_1 (decide (t47 < 0)) (⟨#[58]⟩ : ByteArray) t57 t65 t66 w0 _ ?_ ?_ A18.out).mono ?_); exact I78 HI0.out; exact Bb1 HB.out (IsS78.ge HI0.out); rintro e w20 ⟨rfl, hi, hb, hk⟩; replace HK := Kk (Kp HK.out) hk; replace HB := Qa (hb); replace HI0 := Qa (hi); clear hb hk hi)); repeat (go_quiet (first | (go_at_call 79; (with_reducible refine (spec_IndexOf.calls k1 _ _ s0_0 (s0_1.extract (s0_2 : Int).toNat (x43_1 : Int).toNat) t47 _ ?_ ?_ A13.out).mono ?_); exact Ql HSz19_0 (Bb1 HB.out (IsS78.ge HI0.out)); exact HQz19_0; rintro e w' ⟨rfl, ⟨nd, rfl⟩⟩; (try first | exact ⟨rfl, _, Qb _ _ _⟩ | exact ⟨rfl, _, Eq.trans (Qb _ _ _) (congrArg (Qo _) (Nat.add_assoc _ _ _))⟩)) | (go_at_call 96; (with_reducible refine (spec_l11Must.calls g s0_0 s0_1 x43_1 (decide (t47 < 0)) (⟨#[58]⟩ : ByteArray) t57 t65 t66 w0 _ ?_ ?_ A18.out).mono ?_); exact I78 HI0.out; exact Bb1 HB.out (IsS78.ge HI0.out); rintro e w20 ⟨rfl, hi, hb, hk⟩; replace HK := Kk (Kp HK.out) hk; replace HB := Qa (hb); replace HI0 := Qa (hi); clear hb hk hi)); try go_wp2_with (first | (go_at_call 79; (with_reducible refine (spec_IndexOf.calls k1 _ _ s0_0 (s0_1.extract (s0_2 : Int).toNat (x43_1 : Int).toNat) t47 _ ?_ ?_ A13.out).mono ?_); exact Ql HSz19_0 (Bb1 HB.out (IsS78.ge HI0.out)); exact HQz19_0; rintro e w' ⟨rfl, ⟨nd, rfl⟩⟩; (try first | exact ⟨rfl, _, Qb _ _ _⟩ | exact ⟨rfl, _, Eq.trans (Qb _ _ _) (congrArg (Qo _) (Nat.add_assoc _ _ _))⟩)) | (go_at_call 96; (with_reducible refine (spec_l11Must.calls g s0_0 s0_1 x43_1 (decide (t47 < 0)) (⟨#[58]⟩ : ByteArray) t57 t65 t66 w0 _ ?_ ?_ A18.out).mono ?_); exact I78 HI0.out; exact Bb1 HB.out (IsS78.ge HI0.out); rintro e w20 ⟨rfl, hi, hb, hk⟩; replace HK := Kk (Kp HK.out) hk; replace HB := Qa (hb); replace HI0 := Qa (hi); clear hb hk hi)))
           go_ret; exact ⟨Ze, I78 HI0.out, Bb1 HB.out (IsS78.ge HI0.out), Kp HK.out⟩
         ·rw [if_neg c12] at H; exact absurd H (by simp)
        ·rw [if_neg c11] at H; exact absurd H (by simp)
       ·rw [if_neg c10] at H; exact absurd H (by simp)
     ·rw [if_neg c6] at H; replace c6 := decide_eq_false c6; by_cases c21 : 0 ≤ s0_2
      ·rw [if_pos c21] at H; have c21b0 := eq_true c21; have c21b1 := decide_eq_true c21; clear c21; by_cases c22 : s0_2 ≤ x43_1
       ·rw [if_pos c22] at H; have c22b0 := eq_true c22; have c22b1 := decide_eq_true c22; clear c22; by_cases c23 : x43_1 ≤ (s0_1.size : Int)
        ·rw [if_pos c23] at H; have c23b0 := eq_true c23; have c23b1 := decide_eq_true c23; clear c23; obtain ⟨t48, A24, H⟩ := Ob H; (try dsimp only at H)
         by_cases c25 : s0_3 = true
         ·subst c25; rw [if_pos rfl] at H; obtain ⟨⟨t58, t67, t68⟩, A26, H⟩ := Ob H; (try dsimp only at H)
          simp only [Option.some.injEq, Prod.mk.injEq] at H; obtain ⟨rfl, rfl, rfl, rfl⟩ := H; obtain ⟨ASz27_0, cSz27_0, HGz27, hgz27, ⟨HSz27_0, HQz27_0⟩⟩ := HI0.out; have q27_0 := cellS78_0 HGz27; have q27_1 := cellS78_1 HGz27; have q27_2 := cellS78_2 HGz27; have q27_3 := cellS78_3 HGz27; have u27_1 := Qe HGz27 1; have u27_2 := Qe HGz27 2; have u27_3 := Qe HGz27 3; clear HGz27 hgz27; have p5 : 0 ≤ (x43_1 : Int) := Da; have q5 : x43_1 < (s0_1.size : Int) := Da; have hx5 := bt_at s0_1 x43_1; replace p5 := eq_true p5; replace q5 := eq_true q5; go_wp2_with (first | (go_at_call 79; (with_reducible refine (spec_IndexOf.calls k1 _ _ s0_0 (s0_1.extract (s0_2 : Int).toNat (x43_1 : Int).toNat) t48 _ ?_ ?_ A24.out).mono ?_); exact Ql HSz27_0 (Bb1 HB.out (IsS78.ge HI0.out)); exact HQz27_0; rintro e w' ⟨rfl, ⟨nd, rfl⟩⟩; (try first | exact ⟨rfl, _, Qb _ _ _⟩ | exact ⟨rfl, _, Eq.trans (Qb _ _ _) (congrArg (Qo _) (Nat.add_assoc _ _ _))⟩)) | (go_at_call 96; (with_reducible refine (spec_l11Must.calls g s0_0 s0_1 x43_1 true (⟨#[58]⟩ : ByteArray) t58 t67 t68 w0 _ ?_ ?_ A26.out).mono ?_); exact I78 HI0.out; exact Bb1 HB.out (IsS78.ge HI0.out); rintro e w28 ⟨rfl, hi, hb, hk⟩; replace HK := Kk (Kp HK.out) hk; replace HB := Qa (hb); replace HI0 := Qa (hi); clear hb hk hi)); repeat (go_quiet (first | (go_at_call 79; (with_reducible refine (spec_IndexOf.calls k1 _ _ s0_0 (s0_1.extract (s0_2 : Int).toNat (x43_1 : Int).toNat) t48 _ ?_ ?_ A24.out).mono ?_); exact Ql HSz27_0 (Bb1 HB.out (IsS78.ge HI0.out)); exact HQz27_0; rintro e w' ⟨rfl, ⟨nd, rfl⟩⟩; (try first | exact ⟨rfl, _, Qb _ _ _⟩ | exact ⟨rfl, _, Eq.trans (Qb _ _ _) (congrArg (Qo _) (Nat.add_assoc _ _ _))⟩)) | (go_at_call 96; (with_reducible refine (spec_l11Must.calls g s0_0 s0_1 x43_1 true (⟨#[58]⟩ : ByteArray) t58 t67 t68 w0 _ ?_ ?_ A26.out).mono ?_); exact I78 HI0.out; exact Bb1 HB.out (IsS78.ge HI0.out); rintro e w28 ⟨rfl, hi, hb, hk⟩; replace HK := Kk (Kp HK.out) hk; replace HB := Qa (hb); replace HI0 := Qa (hi); clear hb hk hi)); try go_wp2_with (first | (go_at_call 79; (with_reducible refine (spec_IndexOf.calls k1 _ _ s0_0 (s0_1.extract (s0_2 : Int).toNat (x43_1 : Int).toNat) t48 _ ?_ ?_ A24.out).mono ?_); exact Ql HSz27_0 (Bb1 HB.out (IsS78.ge HI0.out)); exact HQz27_0; rintro e w' ⟨rfl, ⟨nd, rfl⟩⟩; (try first | exact ⟨rfl, _, Qb _ _ _⟩ | exact ⟨rfl, _, Eq.trans (Qb _ _ _) (congrArg (Qo _) (Nat.add_assoc _ _ _))⟩)) | (go_at_call 96; (with_reducible refine (spec_l11Must.calls g s0_0 s0_1 x43_1 true (⟨#[58]⟩ : ByteArray) t58 t67 t68 w0 _ ?_ ?_ A26.out).mono ?_); exact I78 HI0.out; exact Bb1 HB.out (IsS78.ge HI0.out); rintro e w28 ⟨rfl, hi, hb, hk⟩; replace HK := Kk (Kp HK.out) hk; replace HB := Qa (hb); replace HI0 := Qa (hi); clear hb hk hi)))
          go_ret; exact ⟨Ze, I78 HI0.out, Bb1 HB.out (IsS78.ge HI0.out), Kp HK.out⟩
         ·replace c25 := Bool.eq_false_iff.mpr c25; subst c25; rw [if_neg (show ¬ (false = true) by decide)] at H; obtain ⟨⟨t59, t69, t70⟩, A29, H⟩ := Ob H; (try dsimp only at H)
          simp only [Option.some.injEq, Prod.mk.injEq] at H; obtain ⟨rfl, rfl, rfl, rfl⟩ := H; obtain ⟨ASz30_0, cSz30_0, HGz30, hgz30, ⟨HSz30_0, HQz30_0⟩⟩ := HI0.out; have q30_0 := cellS78_0 HGz30; have q30_1 := cellS78_1 HGz30; have q30_2 := cellS78_2 HGz30; have q30_3 := cellS78_3 HGz30; have u30_1 := Qe HGz30 1; have u30_2 := Qe HGz30 2; have u30_3 := Qe HGz30 3; clear HGz30 hgz30; have p5 : 0 ≤ (x43_1 : Int) := Da; have q5 : x43_1 < (s0_1.size : Int) := Da; have hx5 := bt_at s0_1 x43_1; replace p5 := eq_true p5; replace q5 := eq_true q5; go_wp2_with (first | (go_at_call 79; (with_reducible refine (spec_IndexOf.calls k1 _ _ s0_0 (s0_1.extract (s0_2 : Int).toNat (x43_1 : Int).toNat) t48 _ ?_ ?_ A24.out).mono ?_); exact Ql HSz30_0 (Bb1 HB.out (IsS78.ge HI0.out)); exact HQz30_0; rintro e w' ⟨rfl, ⟨nd, rfl⟩⟩; (try first | exact ⟨rfl, _, Qb _ _ _⟩ | exact ⟨rfl, _, Eq.trans (Qb _ _ _) (congrArg (Qo _) (Nat.add_assoc _ _ _))⟩)) | (go_at_call 96; (with_reducible refine (spec_l11Must.calls g s0_0 s0_1 x43_1 (decide (t48 < 0)) (⟨#[58]⟩ : ByteArray) t59 t69 t70 w0 _ ?_ ?_ A29.out).mono ?_); exact I78 HI0.out; exact Bb1 HB.out (IsS78.ge HI0.out); rintro e w31 ⟨rfl, hi, hb, hk⟩; replace HK := Kk (Kp HK.out) hk; replace HB := Qa (hb); replace HI0 := Qa (hi); clear hb hk hi)); repeat (go_quiet (first | (go_at_call 79; (with_reducible refine (spec_IndexOf.calls k1 _ _ s0_0 (s0_1.extract (s0_2 : Int).toNat (x43_1 : Int).toNat) t48 _ ?_ ?_ A24.out).mono ?_); exact Ql HSz30_0 (Bb1 HB.out (IsS78.ge HI0.out)); exact HQz30_0; rintro e w' ⟨rfl, ⟨nd, rfl⟩⟩; (try first | exact ⟨rfl, _, Qb _ _ _⟩ | exact ⟨rfl, _, Eq.trans (Qb _ _ _) (congrArg (Qo _) (Nat.add_assoc _ _ _))⟩)) | (go_at_call 96; (with_reducible refine (spec_l11Must.calls g s0_0 s0_1 x43_1 (decide (t48 < 0)) (⟨#[58]⟩ : ByteArray) t59 t69 t70 w0 _ ?_ ?_ A29.out).mono ?_); exact I78 HI0.out; exact Bb1 HB.out (IsS78.ge HI0.out); rintro e w31 ⟨rfl, hi, hb, hk⟩; replace HK := Kk (Kp HK.out) hk; replace HB := Qa (hb); replace HI0 := Qa (hi); clear hb hk hi)); try go_wp2_with (first | (go_at_call 79; (with_reducible refine (spec_IndexOf.calls k1 _ _ s0_0 (s0_1.extract (s0_2 : Int).toNat (x43_1 : Int).toNat) t48 _ ?_ ?_ A24.out).mono ?_); exact Ql HSz30_0 (Bb1 HB.out (IsS78.ge HI0.out)); exact HQz30_0; rintro e w' ⟨rfl, ⟨nd, rfl⟩⟩; (try first | exact ⟨rfl, _, Qb _ _ _⟩ | exact ⟨rfl, _, Eq.trans (Qb _ _ _) (congrArg (Qo _) (Nat.add_assoc _ _ _))⟩)) | (go_at_call 96; (with_reducible refine (spec_l11Must.calls g s0_0 s0_1 x43_1 (decide (t48 < 0)) (⟨#[58]⟩ : ByteArray) t59 t69 t70 w0 _ ?_ ?_ A29.out).mono ?_); exact I78 HI0.out; exact Bb1 HB.out (IsS78.ge HI0.out); rintro e w31 ⟨rfl, hi, hb, hk⟩; replace HK := Kk (Kp HK.out) hk; replace HB := Qa (hb); replace HI0 := Qa (hi); clear hb hk hi)))
          go_ret; exact ⟨Ze, I78 HI0.out, Bb1 HB.out (IsS78.ge HI0.out), Kp HK.out⟩
        ·rw [if_neg c23] at H; exact absurd H (by simp)
       ·rw [if_neg c22] at H; exact absurd H (by simp)
      ·rw [if_neg c21] at H; exact absurd H (by simp)
    ·rw [if_neg c4] at H; exact absurd H (by simp)
   ·rw [if_neg c3] at H; replace c3 := decide_eq_false c3; by_cases c32 : 0 ≤ s0_2
    ·rw [if_pos c32] at H; have c32b0 := eq_true c32; have c32b1 := decide_eq_true c32; clear c32; by_cases c33 : s0_2 ≤ x43_1
     ·rw [if_pos c33] at H; have c33b0 := eq_true c33; have c33b1 := decide_eq_true c33; clear c33; by_cases c34 : x43_1 ≤ (s0_1.size : Int)
      ·rw [if_pos c34] at H; have c34b0 := eq_true c34; have c34b1 := decide_eq_true c34; clear c34; obtain ⟨t49, A35, H⟩ := Ob H; (try dsimp only at H)
       by_cases c36 : s0_3 = true
       ·subst c36; rw [if_pos rfl] at H; obtain ⟨⟨t60, t71, t72⟩, A37, H⟩ := Ob H; (try dsimp only at H)
        simp only [Option.some.injEq, Prod.mk.injEq] at H; obtain ⟨rfl, rfl, rfl, rfl⟩ := H; obtain ⟨ASz38_0, cSz38_0, HGz38, hgz38, ⟨HSz38_0, HQz38_0⟩⟩ := HI0.out; have q38_0 := cellS78_0 HGz38; have q38_1 := cellS78_1 HGz38; have q38_2 := cellS78_2 HGz38; have q38_3 := cellS78_3 HGz38; have u38_1 := Qe HGz38 1; have u38_2 := Qe HGz38 2; have u38_3 := Qe HGz38 3; clear HGz38 hgz38; go_wp2_with (first | (go_at_call 79; (with_reducible refine (spec_IndexOf.calls k1 _ _ s0_0 (s0_1.extract (s0_2 : Int).toNat (x43_1 : Int).toNat) t49 _ ?_ ?_ A35.out).mono ?_); exact Ql HSz38_0 (Bb1 HB.out (IsS78.ge HI0.out)); exact HQz38_0; rintro e w' ⟨rfl, ⟨nd, rfl⟩⟩; (try first | exact ⟨rfl, _, Qb _ _ _⟩ | exact ⟨rfl, _, Eq.trans (Qb _ _ _) (congrArg (Qo _) (Nat.add_assoc _ _ _))⟩)) | (go_at_call 96; (with_reducible refine (spec_l11Must.calls g s0_0 s0_1 x43_1 true (⟨#[58]⟩ : ByteArray) t60 t71 t72 w0 _ ?_ ?_ A37.out).mono ?_); exact I78 HI0.out; exact Bb1 HB.out (IsS78.ge HI0.out); rintro e w39 ⟨rfl, hi, hb, hk⟩; replace HK := Kk (Kp HK.out) hk; replace HB := Qa (hb); replace HI0 := Qa (hi); clear hb hk hi)); repeat (go_quiet (first | (go_at_call 79; (with_reducible refine (spec_IndexOf.calls k1 _ _ s0_0 (s0_1.extract (s0_2 : Int).toNat (x43_1 : Int).toNat) t49 _ ?_ ?_ A35.out).mono ?_); exact Ql HSz38_0 (Bb1 HB.out (IsS78.ge HI0.out)); exact HQz38_0; rintro e w' ⟨rfl, ⟨nd, rfl⟩⟩; (try first | exact ⟨rfl, _, Qb _ _ _⟩ | exact ⟨rfl, _, Eq.trans (Qb _ _ _) (congrArg (Qo _) (Nat.add_assoc _ _ _))⟩)) | (go_at_call 96; (with_reducible refine (spec_l11Must.calls g s0_0 s0_1 x43_1 true (⟨#[58]⟩ : ByteArray) t60 t71 t72 w0 _ ?_ ?_ A37.out).mono ?_); exact I78 HI0.out; exact Bb1 HB.out (IsS78.ge HI0.out); rintro e w39 ⟨rfl, hi, hb, hk⟩; replace HK := Kk (Kp HK.out) hk; replace HB := Qa (hb); replace HI0 := Qa (hi); clear hb hk hi)); try go_wp2_with (first | (go_at_call 79; (with_reducible refine (spec_IndexOf.calls k1 _ _ s0_0 (s0_1.extract (s0_2 : Int).toNat (x43_1 : Int).toNat) t49 _ ?_ ?_ A35.out).mono ?_); exact Ql HSz38_0 (Bb1 HB.out (IsS78.ge HI0.out)); exact HQz38_0; rintro e w' ⟨rfl, ⟨nd, rfl⟩⟩; (try first | exact ⟨rfl, _, Qb _ _ _⟩ | exact ⟨rfl, _, Eq.trans (Qb _ _ _) (congrArg (Qo _) (Nat.add_assoc _ _ _))⟩)) | (go_at_call 96; (with_reducible refine (spec_l11Must.calls g s0_0 s0_1 x43_1 true (⟨#[58]⟩ : ByteArray) t60 t71 t72 w0 _ ?_ ?_ A37.out).mono ?_); exact I78 HI0.out; exact Bb1 HB.out (IsS78.ge HI0.out); rintro e w39 ⟨rfl, hi, hb, hk⟩; replace HK := Kk (Kp HK.out) hk; replace HB := Qa (hb); replace HI0 := Qa (hi); clear hb hk hi)))
        go_ret; exact ⟨Ze, I78 HI0.out, Bb1 HB.out (IsS78.ge HI0.out), Kp HK.out⟩
       ·replace c36 := Bool.eq_false_iff.mpr c36; subst c36; rw [if_neg (show ¬ (false = true) by decide)] at H; obtain ⟨⟨t61, t73, t74⟩, A40, H⟩ := Ob H; (try dsimp only at H)
        simp only [Option.some.injEq, Prod.mk.injEq] at H; obtain ⟨rfl, rfl, rfl, rfl⟩ := H; obtain ⟨ASz41_0, cSz41_0, HGz41, hgz41, ⟨HSz41_0, HQz41_0⟩⟩ := HI0.out; have q41_0 := cellS78_0 HGz41; have q41_1 := cellS78_1 HGz41; have q41_2 := cellS78_2 HGz41; have q41_3 := cellS78_3 HGz41; have u41_1 := Qe HGz41 1; have u41_2 := Qe HGz41 2; have u41_3 := Qe HGz41 3; clear HGz41 hgz41; go_wp2_with (first | (go_at_call 79; (with_reducible refine (spec_IndexOf.calls k1 _ _ s0_0 (s0_1.extract (s0_2 : Int).toNat (x43_1 : Int).toNat) t49 _ ?_ ?_ A35.out).mono ?_); exact Ql HSz41_0 (Bb1 HB.out (IsS78.ge HI0.out)); exact HQz41_0; rintro e w' ⟨rfl, ⟨nd, rfl⟩⟩; (try first | exact ⟨rfl, _, Qb _ _ _⟩ | exact ⟨rfl, _, Eq.trans (Qb _ _ _) (congrArg (Qo _) (Nat.add_assoc _ _ _))⟩)) | (go_at_call 96; (with_reducible refine (spec_l11Must.calls g s0_0 s0_1 x43_1 (decide (t49 < 0)) (⟨#[58]⟩ : ByteArray) t61 t73 t74 w0 _ ?_ ?_ A40.out).mono ?_); exact I78 HI0.out; exact Bb1 HB.out (IsS78.ge HI0.out); rintro e w42 ⟨rfl, hi, hb, hk⟩; replace HK := Kk (Kp HK.out) hk; replace HB := Qa (hb); replace HI0 := Qa (hi); clear hb hk hi)); repeat (go_quiet (first | (go_at_call 79; (with_reducible refine (spec_IndexOf.calls k1 _ _ s0_0 (s0_1.extract (s0_2 : Int).toNat (x43_1 : Int).toNat) t49 _ ?_ ?_ A35.out).mono ?_); exact Ql HSz41_0 (Bb1 HB.out (IsS78.ge HI0.out)); exact HQz41_0; rintro e w' ⟨rfl, ⟨nd, rfl⟩⟩; (try first | exact ⟨rfl, _, Qb _ _ _⟩ | exact ⟨rfl, _, Eq.trans (Qb _ _ _) (congrArg (Qo _) (Nat.add_assoc _ _ _))⟩)) | (go_at_call 96; (with_reducible refine (spec_l11Must.calls g s0_0 s0_1 x43_1 (decide (t49 < 0)) (⟨#[58]⟩ : ByteArray) t61 t73 t74 w0 _ ?_ ?_ A40.out).mono ?_); exact I78 HI0.out; exact Bb1 HB.out (IsS78.ge HI0.out); rintro e w42 ⟨rfl, hi, hb, hk⟩; replace HK := Kk (Kp HK.out) hk; replace HB := Qa (hb); replace HI0 := Qa (hi); clear hb hk hi)); try go_wp2_with (first | (go_at_call 79; (with_reducible refine (spec_IndexOf.calls k1 _ _ s0_0 (s0_1.extract (s0_2 : Int).toNat (x43_1 : Int).toNat) t49 _ ?_ ?_ A35.out).mono ?_); exact Ql HSz41_0 (Bb1 HB.out (IsS78.ge HI0.out)); exact HQz41_0; rintro e w' ⟨rfl, ⟨nd, rfl⟩⟩; (try first | exact ⟨rfl, _, Qb _ _ _⟩ | exact ⟨rfl, _, Eq.trans (Qb _ _ _) (congrArg (Qo _) (Nat.add_assoc _ _ _))⟩)) | (go_at_call 96; (with_reducible refine (spec_l11Must.calls g s0_0 s0_1 x43_1 (decide (t49 < 0)) (⟨#[58]⟩ : ByteArray) t61 t73 t74 w0 _ ?_ ?_ A40.out).mono ?_); exact I78 HI0.out; exact Bb1 HB.out (IsS78.ge HI0.out); rintro e w42 ⟨rfl, hi, hb, hk⟩; replace HK := Kk (Kp HK.out) hk; replace HB := Qa (hb); replace HI0 := Qa (hi); clear hb hk hi)))
        go_ret; exact ⟨Ze, I78 HI0.out, Bb1 HB.out (IsS78.ge HI0.out), Kp HK.out⟩
      ·rw [if_neg c34] at H; exact absurd H (by simp)
     ·rw [if_neg c33] at H; exact absurd H (by simp)
    ·rw [if_neg c32] at H; exact absurd H (by simp)
def spec_l11Var.l0 : Nat → Int → List ByteArray → ByteArray → Int → Bool → Option (Int × ByteArray × Int × Bool)
 | 0, _, _, _, _, _ => none
 | k + 1, x3, x46, x45, x43, x50 => if x3 < 4 then ((spec_l11Logic.f x3).bind fun t55 => ((spec_l11Take.f x46 x45 x43 x50 t55).bind fun bt54 => (if bt54.1 = true then (some (x3, bt54.2.1, bt54.2.2.1, bt54.2.2.2)) else (spec_l11Var.l0 k (Qg (x3 + 1)) x46 bt54.2.1 bt54.2.2.1 bt54.2.2.2)))) else (some (0, x45, x43, true))
def spec_l11Var.f (k : Nat) (s0_0 : List ByteArray) (s0_1 : ByteArray) (s0_2 : Int) (s0_3 : Bool) : Option (Int × ByteArray × Int × Bool) := spec_l11Var.l0 k 0 s0_0 s0_1 s0_2 s0_3
theorem spec_l11Var.mono_l : ∀ k, (∀ y0 y1 y2 y3 y4, LeO (spec_l11Var.l0 k y0 y1 y2 y3 y4) (spec_l11Var.l0 (k + 1) y0 y1 y2 y3 y4))
 | 0 => fun _ _ _ _ _ r h => by simp [spec_l11Var.l0] at h
 | k + 1 => by
  have ih0 := spec_l11Var.mono_l k
  ·intro y0 y1 y2 y3 y4; unfold spec_l11Var.l0; exact Lm1 ih0
theorem spec_l11Var.mono : ∀ a0 a1 a2 a3 k, LeO (spec_l11Var.f k a0 a1 a2 a3) (spec_l11Var.f (k + 1) a0 a1 a2 a3) := by
 intro a0 a1 a2 a3 k
 have ih0 := spec_l11Var.mono_l k
 unfold spec_l11Var.f
 exact Lm1 ih0
theorem spec_l11Var.calls (k : Nat) (g : Nat) (s0_0 : List ByteArray) (s0_1 : ByteArray) (s0_2 : Int) (s0_3 : Bool) (r1 : Int) (r2 : ByteArray) (r3 : Int) (r4 : Bool) (w0 w : Qm) (hI : IsS78 w0 w g s0_0 s0_1 s0_2 s0_3) (hB : Qq w0.heap.size w0 w) (h : spec_l11Var.f k s0_0 s0_1 s0_2 s0_3 = some (r1, r2, r3, r4)) :
  Qz Qk 93 #[.pointer (some ⟨g, 0, none⟩)] w fun e w' => e = .returned (.int .i64 r1) ∧ IsS78 w0 w' g s0_0 r2 r3 r4 ∧ Qq w0.heap.size w0 w' ∧ Qu w w' g none := by
 have HI0 := Qa hI
 have HK := Qa (KeepBut.refl w g none)
 have HL := Qa hB.size
 clear hI
 have HW0 := Qa hB.size
 have HB := Qa hB
 clear hB
 have H : (spec_l11Var.l0 k 0 s0_0 s0_1 s0_2 s0_3) = some (r1, r2, r3, r4) := h
 clear h
 have H' := Qa H
 clear H
 go_enter Try.func93, Try.ntmps93
 go_wp2
 go_loopg [3] k (fun kq v3 w' => ∃ (x3_1 : Int) (x45_1 : ByteArray) (x43_1 : Int) (x50_1 : Bool), v3 = .int .i64 x3_1 ∧ Qf (spec_l11Var.l0 kq x3_1 s0_0 x45_1 x43_1 x50_1 = some (r1, r2, r3, r4)) ∧ Qf (kq ≤ k) ∧ Qf (IsS78 w0 w' g s0_0 x45_1 x43_1 x50_1) ∧ Qf (Qu w w' g none) ∧ Qf (Qq w0.heap.size w0 w'))
 case atStart => exact ⟨(0), (s0_1), (s0_2), (s0_3), Zf, H', ⟨Nat.le_refl _⟩, ⟨I78 HI0.out⟩, ⟨Kp HK.out⟩, ⟨Bb1 HB.out (IsS78.ge HI0.out)⟩⟩
 case round =>
  clear H'; obtain ⟨x3_1, x45_1, x43_1, x50_1, rfl, HA, HK1, HI0, HK, HB⟩ := hrel; cases gk with
  | zero => exact absurd HA.out (by simp [spec_l11Var.l0])
  | succ k1 =>
   have H := HA.out; clear HA; simp only [spec_l11Var.l0] at H; by_cases c2 : x3_1 < 4
   ·rw [if_pos c2] at H; replace c2 := decide_eq_true c2; obtain ⟨t55, A3, H⟩ := Ob H; (try dsimp only at H)
    obtain ⟨⟨t54, t75, t76, t77⟩, A4, H⟩ := Ob H; (try dsimp only at H)
    by_cases c5 : t54 = true
    ·subst c5; rw [if_pos rfl] at H; simp only [Option.some.injEq, Prod.mk.injEq] at H; obtain ⟨rfl, rfl, rfl, rfl⟩ := H; go_wp2_with (first | ((with_reducible refine Qc (f := 80) rfl ?_); refine Gl 10 Try.func80 #[.int .i64 x3_1] ?_; (with_reducible refine (spec_l11Logic.calls x3_1 t55 _ A3.out).mono ?_); rintro e w' ⟨rfl, ⟨nd, rfl⟩⟩; refine ⟨_, rfl, ?_⟩) | ((with_reducible refine Qc (f := 91) rfl ?_); refine Gl 11 Qn #[.pointer (some ⟨g, 0, none⟩), .string t55] ?_; (with_reducible refine (spec_l11Take.calls g s0_0 x45_1 x43_1 x50_1 t55 true t75 t76 t77 w0 _ ?_ ?_ A4.out).mono ?_); exact I78 HI0.out; exact Bb1 HB.out (IsS78.ge HI0.out); rintro e w6 ⟨rfl, hi, hb, hk⟩; refine ⟨_, rfl, ?_⟩; replace HK := Kk (Kp HK.out) hk; replace HB := Qa (hb); replace HI0 := Qa (hi); clear hb hk hi)); go_ret; exact ⟨Ze, I78 HI0.out, Bb1 HB.out (IsS78.ge HI0.out), Kp HK.out⟩
    ·replace c5 := Bool.eq_false_iff.mpr c5; subst c5; rw [if_neg (show ¬ (false = true) by decide)] at H; have H' := Qa H; clear H; go_wp2_with (first | ((with_reducible refine Qc (f := 80) rfl ?_); refine Gl 10 Try.func80 #[.int .i64 x3_1] ?_; (with_reducible refine (spec_l11Logic.calls x3_1 t55 _ A3.out).mono ?_); rintro e w' ⟨rfl, ⟨nd, rfl⟩⟩; refine ⟨_, rfl, ?_⟩) | ((with_reducible refine Qc (f := 91) rfl ?_); refine Gl 11 Qn #[.pointer (some ⟨g, 0, none⟩), .string t55] ?_; (with_reducible refine (spec_l11Take.calls g s0_0 x45_1 x43_1 x50_1 t55 false t75 t76 t77 w0 _ ?_ ?_ A4.out).mono ?_); exact I78 HI0.out; exact Bb1 HB.out (IsS78.ge HI0.out); rintro e w7 ⟨rfl, hi, hb, hk⟩; refine ⟨_, rfl, ?_⟩; replace HK := Kk (Kp HK.out) hk; replace HB := Qa (hb); replace HI0 := Qa (hi); clear hb hk hi)); go_roundg k1
     case measure => have := HK1.out; omega
     case rel => exact ⟨(Qg (x3_1 + 1)), (t75), (t76), (t77), Zf, H', ⟨by have := HK1.out; omega⟩, ⟨I78 HI0.out⟩, ⟨Kp HK.out⟩, ⟨Bb1 HB.out (IsS78.ge HI0.out)⟩⟩
   ·rw [if_neg c2] at H; replace c2 := decide_eq_false c2; simp only [Option.some.injEq, Prod.mk.injEq] at H; obtain ⟨rfl, rfl, rfl, rfl⟩ := H; obtain ⟨ASz8_0, cSz8_0, HGz8, hgz8, ⟨HSz8_0, HQz8_0⟩⟩ := HI0.out; have q8_0 := cellS78_0 HGz8; have q8_1 := cellS78_1 HGz8; have q8_2 := cellS78_2 HGz8; have q8_3 := cellS78_3 HGz8; have u8_1 := Qe HGz8 1; have u8_2 := Qe HGz8 2; have u8_3 := Qe HGz8 3; clear HGz8 hgz8; go_wp2; go_ret; exact ⟨Ze, I78 HI0.out, Bb1 HB.out (IsS78.ge HI0.out), Kp HK.out⟩
def spec_l11Pair.f (k : Nat) (s0_0 : List ByteArray) (s0_1 : ByteArray) (s0_2 : Int) (s0_3 : Bool) (a1 : Int) : Option (Int × Int × Int × Int × (List (S32)) × ByteArray × Int × Bool) := (spec_l11Var.f k s0_0 s0_1 s0_2 s0_3).bind fun bt51 => ((spec_l11Var.f k s0_0 bt51.2.1 bt51.2.2.1 bt51.2.2.2).bind fun bt52 => (some (a1, 0, bt51.1, bt52.1, ([] : List (S32)), bt52.2.1, bt52.2.2.1, bt52.2.2.2)))
theorem spec_l11Pair.mono : ∀ a0 a1 a2 a3 a4 k, LeO (spec_l11Pair.f k a0 a1 a2 a3 a4) (spec_l11Pair.f (k + 1) a0 a1 a2 a3 a4) := by
 intro a0 a1 a2 a3 a4 k
 unfold spec_l11Pair.f
 exact Lm1 spec_l11Var.mono
theorem spec_l11Pair.calls (k : Nat) (g : Nat) (s0_0 : List ByteArray) (s0_1 : ByteArray) (s0_2 : Int) (s0_3 : Bool) (a1 : Int) (r1 : Int) (r2 : Int) (r3 : Int) (r4 : Int) (r5 : List (S32)) (r6 : ByteArray) (r7 : Int) (r8 : Bool) (w0 w : Qm) (hI : IsS78 w0 w g s0_0 s0_1 s0_2 s0_3) (hB : Qq w0.heap.size w0 w) (h : spec_l11Pair.f k s0_0 s0_1 s0_2 s0_3 a1 = some (r1, r2, r3, r4, r5, r6, r7, r8)) :
  Qz Qk 94 #[.pointer (some ⟨g, 0, none⟩), .int .i64 a1] w fun e w' => ∃ v4_ : Qs, e = .returned (.agg #[.int .i64 r1, .int .i64 r2, .int .i64 r3, .int .i64 r4, v4_]) ∧ Kd.R k32 32 w' w.heap.size (fun _ => True) v4_ r5 ∧ IsS78 w0 w' g s0_0 r6 r7 r8 ∧ Qq w0.heap.size w0 w' ∧ Qu w w' g none := by
 have hu32 := Qh
 have HI0 := Qa hI
 have HK := Qa (KeepBut.refl w g none)
 have HL := Qa hB.size
 clear hI
 have HW0 := Qa hB.size
 have HB := Qa hB
 clear hB
 have H : ((spec_l11Var.f k s0_0 s0_1 s0_2 s0_3).bind fun bt51 => ((spec_l11Var.f k s0_0 bt51.2.1 bt51.2.2.1 bt51.2.2.2).bind fun bt52 => (some (a1, 0, bt51.1, bt52.1, ([] : List (S32)), bt52.2.1, bt52.2.2.1, bt52.2.2.2)))) = some (r1, r2, r3, r4, r5, r6, r7, r8) := h
 clear h
 obtain ⟨⟨t51, t79, t80, t81⟩, A3, H⟩ := Ob H
 (try dsimp only at H)
 obtain ⟨⟨t52, t85, t86, t87⟩, A4, H⟩ := Ob H
 (try dsimp only at H)
 simp only [Option.some.injEq, Prod.mk.injEq] at H
 obtain ⟨rfl, rfl, rfl, rfl, rfl, rfl, rfl, rfl⟩ := H
 go_enter Try.func94, Try.ntmps94
 go_wp2_with (first | ((with_reducible refine gate_dst (N := 4) rfl ?_); refine Bz5 4 32 ?_; intro gb44 hg w5 hbox hb; replace HB := Sb (Bb1 HB.out (IsS78.ge HI0.out)) hb; have BK44 := Qa (hbox); have GW44 := Gk (w := w) (g := g) hg (Kp HK.out); have GE44 := Qa ((Nat.le_trans HW0.out (by rw [hg]; exact (keep_size (w := w) (g := g) (row := none) (Kp HK.out)) : w.heap.size ≤ gb44) : w0.heap.size ≤ gb44)); replace HK := Kw (g := g) (Kp HK.out) hb; have NB0_44 := Qa ((by rw [hg]; exact Nat.ne_of_lt (IsS78.lt (show IsS78 w0 _ g s0_0 s0_1 s0_2 s0_3 from I78 HI0.out)) : g ≠ gb44)); have NB44_0 := Qa ((by rw [hg]; exact Nat.ne_of_gt (IsS78.lt (show IsS78 w0 _ g s0_0 s0_1 s0_2 s0_3 from I78 HI0.out)) : gb44 ≠ g)); replace HI0 := Qa (IsS78.below (I78 HI0.out) hb); clear hb hbox hg) | ((with_reducible refine Qc (f := 93) rfl ?_); refine Gl 7 Try.func93 #[.pointer (some ⟨g, 0, none⟩)] ?_; (with_reducible refine (spec_l11Var.calls k g s0_0 s0_1 s0_2 s0_3 t51 t79 t80 t81 w0 _ ?_ ?_ A3.out).mono ?_); exact I78x1 HI0.out NB0_44.out; exact Bb2 HB.out (IsS78.ge HI0.out) GE44.out; rintro e w6 ⟨rfl, hi, hb, hk⟩; refine ⟨_, rfl, ?_⟩; replace BK44 := Kc hk BK44 NB44_0; replace HK := Kk (Kq1 HK.out GW44.out) hk; replace HB := Qa (hb); replace HI0 := Qa (hi); clear hb hk hi) | ((with_reducible refine Qc (f := 93) rfl ?_); refine Gl 11 Try.func93 #[.pointer (some ⟨g, 0, none⟩)] ?_; (with_reducible refine (spec_l11Var.calls k g s0_0 t79 t80 t81 t52 t85 t86 t87 w0 _ ?_ ?_ A4.out).mono ?_); exact I78x1 HI0.out NB0_44.out; exact Bb2 HB.out (IsS78.ge HI0.out) GE44.out; rintro e w7 ⟨rfl, hi, hb, hk⟩; refine ⟨_, rfl, ?_⟩; replace BK44 := Kc hk BK44 NB44_0; replace HK := Kk (Kq1 HK.out GW44.out) hk; replace HB := Qa (hb); replace HI0 := Qa (hi); clear hb hk hi; have hnb8 := NB44_0.out; have hnc8 := NB0_44.out; obtain ⟨q9_0, q9_1, q9_2, q9_3, q9_4, u9_0, u9_1, u9_2, u9_3, u9_4⟩ := Cf5 BK44) | ((with_reducible show bodyPost _ _ _ _ _ _); refine Qx (results_cell_row rfl _ _ gb44 32 #[.int .i64 a1, .int .i64 0, .int .i64 t51, .int .i64 t52, .slice none 0 0] (0, 0) _ rfl (Bq BK44.out) Qh rfl (by kernel_rfl)) rfl ?_; exact ⟨_, Ze, by first | exact Kd.R_nil _ _ _ _ _ | exact Kd.N_nil _ _ _ _ _ | exact Kd.V_nil _ _ _ _ _ | exact Kd.Q_nil _ _ _ _ _ | exact Kd.S_nil _ _ _ _ _, I78x1 HI0.out NB0_44.out, Bb2 HB.out (IsS78.ge HI0.out) GE44.out, Kq1 HK.out GW44.out⟩))
end Go.Proofs.Ytoljagpjejpmpaa.PFnExactParseFormula
