/-
  The statement laws.FnExactIsProgram of the given program: for every argument of its kinds the law answers true, and each argument reads behind the call as before; no further condition.
-/
import Derived.Test.YtfmepkfigdobaaaRows
import Derived.Test.YtfmepkfigdobaaaPFnExactIsProgramx6
import Derived.Test.YtfmepkfigdobaaaPureFnExactIsProgram
import Derived.Test.YtfmepkfigdobaaaXOpen
import Derived.WalkKit
import Derived.ProofKit
import Derived.OpenShut
import Derived.ShutString
import Derived.ChangeOld
import Derived.Below
import Derived.SizedLaws
namespace Go.Proofs.Ytfmepkfigdobaaa.fnExactIsProgram
open Go.ChangeShapes Go.WideShapes Go.ChangeAt Go.RowKit
open Go.ChangeMaps (open_string shut_string)
open Go.Proofs.Ytfmepkfigdobaaa.PFnExactIsProgram Go.Proofs.YtfmepkfigdobaaaW.PrintWords Go.Proofs.YtfmepkfigdobaaaX
set_option linter.unusedVariables false
theorem own : ownKnob Try.prog.godebug = none := by kernel_rfl
theorem laidOut : laidOutB Try.prog = true := by kernel_rfl
theorem opens66 {H : Type} {enc : TypeId × Value → H} {w : World} {base : Nat} {spare : Nat → Bool} {held : Bool} : ∀ n, Opens enc Try.prog w base spare held n k66 B66 66 := by
  intro n
  intro cs x h
  obtain ⟨xs, m, rfl, _, hl, hlen, hf⟩ := DataW.trod_struct Try.underlying66 h
  have hl' : cs.length = 3 := hl.trans (by kernel_rfl)
  have hlen' : xs.length = 3 := hlen
  obtain ⟨c0, c1, c2, rfl⟩ := list3 hl'
  have e0 := (hf 0 _ rfl).trans (List.getElem?_eq_getElem (show 0 < xs.length by omega))
  have z0 : Try.prog.cellsOf 3 = 1 := by kernel_rfl
  have e0' : DataW.trod enc Try.prog w base spare held m 3 ((([c0, c1, c2] : List Value).drop 0).take (Try.prog.cellsOf 3)) = _ := e0
  rw [z0] at e0'
  have e1 := (hf 1 _ rfl).trans (List.getElem?_eq_getElem (show 1 < xs.length by omega))
  have z1 : Try.prog.cellsOf 9 = 1 := by kernel_rfl
  have e1' : DataW.trod enc Try.prog w base spare held m 9 ((([c0, c1, c2] : List Value).drop 1).take (Try.prog.cellsOf 9)) = _ := e1
  rw [z1] at e1'
  have e2 := (hf 2 _ rfl).trans (List.getElem?_eq_getElem (show 2 < xs.length by omega))
  have z2 : Try.prog.cellsOf 9 = 1 := by kernel_rfl
  have e2' : DataW.trod enc Try.prog w base spare held m 9 ((([c0, c1, c2] : List Value).drop 2).take (Try.prog.cellsOf 9)) = _ := e2
  rw [z2] at e2'
  obtain ⟨a0, K0, b0⟩ := (opens_int Try.underlying3 : Opens enc Try.prog w base spare held m (Kd.int .i64) (fun a => (Lit.int .i64 a).wf = true) 3) _ _ e0'
  have E0 : [c0] = [.int .i64 a0] := K0
  replace E0 := (List.cons.inj E0).1
  obtain rfl := E0
  obtain ⟨a1, K1, b1⟩ := (opens_string Try.underlying9 : Opens enc Try.prog w base spare held m Kd.string (fun a => a.size ≤ maxLen) 9) _ _ e1'
  have E1 : [c1] = [.string a1] := K1
  replace E1 := (List.cons.inj E1).1
  obtain rfl := E1
  obtain ⟨a2, K2, b2⟩ := (opens_string Try.underlying9 : Opens enc Try.prog w base spare held m Kd.string (fun a => a.size ≤ maxLen) 9) _ _ e2'
  have E2 : [c2] = [.string a2] := K2
  replace E2 := (List.cons.inj E2).1
  obtain rfl := E2
  exact ⟨⟨a0, a1, a2⟩, k66_mk w _ , b0, b1, b2⟩
theorem opens157 {H : Type} {enc : TypeId × Value → H} {w : World} {base : Nat} {spare : Nat → Bool} {held : Bool} : ∀ n, Opens enc Try.prog w base spare held n k157 B157 157 := by
  intro n
  intro cs x h
  obtain ⟨xs, m, rfl, _, hl, hlen, hf⟩ := DataW.trod_struct Try.underlying157 h
  have hl' : cs.length = 5 := hl.trans (by kernel_rfl)
  have hlen' : xs.length = 3 := hlen
  obtain ⟨c0, c1, c2, c3, c4, rfl⟩ := list5 hl'
  have e0 := (hf 0 _ rfl).trans (List.getElem?_eq_getElem (show 0 < xs.length by omega))
  have z0 : Try.prog.cellsOf 3 = 1 := by kernel_rfl
  have e0' : DataW.trod enc Try.prog w base spare held m 3 ((([c0, c1, c2, c3, c4] : List Value).drop 0).take (Try.prog.cellsOf 3)) = _ := e0
  rw [z0] at e0'
  have e1 := (hf 1 _ rfl).trans (List.getElem?_eq_getElem (show 1 < xs.length by omega))
  have z1 : Try.prog.cellsOf 3 = 1 := by kernel_rfl
  have e1' : DataW.trod enc Try.prog w base spare held m 3 ((([c0, c1, c2, c3, c4] : List Value).drop 1).take (Try.prog.cellsOf 3)) = _ := e1
  rw [z1] at e1'
  have e2 := (hf 2 _ rfl).trans (List.getElem?_eq_getElem (show 2 < xs.length by omega))
  have z2 : Try.prog.cellsOf 66 = 3 := by kernel_rfl
  have e2' : DataW.trod enc Try.prog w base spare held m 66 ((([c0, c1, c2, c3, c4] : List Value).drop 2).take (Try.prog.cellsOf 66)) = _ := e2
  rw [z2] at e2'
  obtain ⟨a0, K0, b0⟩ := (opens_int Try.underlying3 : Opens enc Try.prog w base spare held m (Kd.int .i64) (fun a => (Lit.int .i64 a).wf = true) 3) _ _ e0'
  have E0 : [c0] = [.int .i64 a0] := K0
  replace E0 := (List.cons.inj E0).1
  obtain rfl := E0
  obtain ⟨a1, K1, b1⟩ := (opens_int Try.underlying3 : Opens enc Try.prog w base spare held m (Kd.int .i64) (fun a => (Lit.int .i64 a).wf = true) 3) _ _ e1'
  have E1 : [c1] = [.int .i64 a1] := K1
  replace E1 := (List.cons.inj E1).1
  obtain rfl := E1
  obtain ⟨a2, K2, b2⟩ := (opens66 _ : Opens enc Try.prog w base spare held m k66 (fun a => B66 a) 66) _ _ e2'
  replace K2 : k66.K w a2 [c2, c3, c4] := K2
  have E2 := k66_open K2
  simp only [List.cons.injEq, and_true] at E2
  obtain ⟨rfl, rfl, rfl⟩ := E2
  exact ⟨⟨a0, a1, a2⟩, k157_mk w _ , b0, b1, b2⟩
theorem opens90 {H : Type} {enc : TypeId × Value → H} {w : World} {base : Nat} {spare : Nat → Bool} {held : Bool} : ∀ n, Opens enc Try.prog w base spare held n k90 B90 90 := by
  intro n
  intro cs x h
  obtain ⟨xs, m, rfl, _, hl, hlen, hf⟩ := DataW.trod_struct Try.underlying90 h
  have hl' : cs.length = 3 := hl.trans (by kernel_rfl)
  have hlen' : xs.length = 3 := hlen
  obtain ⟨c0, c1, c2, rfl⟩ := list3 hl'
  have e0 := (hf 0 _ rfl).trans (List.getElem?_eq_getElem (show 0 < xs.length by omega))
  have z0 : Try.prog.cellsOf 54 = 1 := by kernel_rfl
  have e0' : DataW.trod enc Try.prog w base spare held m 54 ((([c0, c1, c2] : List Value).drop 0).take (Try.prog.cellsOf 54)) = _ := e0
  rw [z0] at e0'
  have e1 := (hf 1 _ rfl).trans (List.getElem?_eq_getElem (show 1 < xs.length by omega))
  have z1 : Try.prog.cellsOf 3 = 1 := by kernel_rfl
  have e1' : DataW.trod enc Try.prog w base spare held m 3 ((([c0, c1, c2] : List Value).drop 1).take (Try.prog.cellsOf 3)) = _ := e1
  rw [z1] at e1'
  have e2 := (hf 2 _ rfl).trans (List.getElem?_eq_getElem (show 2 < xs.length by omega))
  have z2 : Try.prog.cellsOf 88 = 1 := by kernel_rfl
  have e2' : DataW.trod enc Try.prog w base spare held m 88 ((([c0, c1, c2] : List Value).drop 2).take (Try.prog.cellsOf 88)) = _ := e2
  rw [z2] at e2'
  obtain ⟨a0, K0, b0⟩ := (opens_slice Try.underlying54 (by kernel_rfl) (fun _ _ => opens_string Try.underlying9) : Opens enc Try.prog w base spare held m (Kd.slice 9 Kd.string) (fun a => (a.length ≤ maxLen ∧ ∀ x_ ∈ a, x_.size ≤ maxLen)) 54) _ _ e0'
  obtain ⟨A0, q0, E0, l0, g0⟩ := (K0 : ∃ A c, [c0] = [.slice A a0.length c] ∧ a0.length ≤ c ∧ Kd.string.C w A a0.length a0)
  replace E0 := (List.cons.inj E0).1
  obtain rfl := E0
  obtain ⟨a1, K1, b1⟩ := (opens_int Try.underlying3 : Opens enc Try.prog w base spare held m (Kd.int .i64) (fun a => (Lit.int .i64 a).wf = true) 3) _ _ e1'
  have E1 : [c1] = [.int .i64 a1] := K1
  replace E1 := (List.cons.inj E1).1
  obtain rfl := E1
  obtain ⟨a2, K2, b2⟩ := (opens_slice Try.underlying88 (by kernel_rfl) (fun _ _ => opens157 _) : Opens enc Try.prog w base spare held m (Kd.slice 157 k157) (fun a => (a.length ≤ maxLen ∧ ∀ x_ ∈ a, B157 x_)) 88) _ _ e2'
  obtain ⟨A2, q2, E2, l2, g2⟩ := (K2 : ∃ A c, [c2] = [.slice A a2.length c] ∧ a2.length ≤ c ∧ k157.C w A a2.length a2)
  replace E2 := (List.cons.inj E2).1
  obtain rfl := E2
  exact ⟨⟨a0, a1, a2⟩, k90_mk w _ l0 g0 l2 g2, b0, b1, b2⟩
set_option maxRecDepth 100000 in
theorem lifted (os : Os) (started : os.Started) (H : Type) (enc : TypeId × Value → H) :
    ReturnsInHanded {} Try.checked os 13 .any (Rows.fnExactIsProgramSpec.pre6 enc Try.prog Try.f13 Rows.fnExactIsProgramRow.domain false) (Rows.fnExactIsProgramSpec.post enc Try.prog Try.f13 false true false false) := by
  refine returnsInHanded_of_change_sized (C := Try.checked) own started (by kernel_rfl) Try.func13
    (ChangeSpec.witness6 (enc := enc) (C := Try.checked) false ⟨#[], #[.agg #[.slice none 0 0, .int .i64 0, .slice none 0 0]], []⟩ 8 (by kernel_rfl) (by kernel_rfl) (by kernel_rfl) (by kernel_rfl)) ?_
  intro W base args ds gs before hval0 hW hcnd hsz0 _
  have hval : ∀ (j : Nat) t v, Try.f13.params[j]? = some t → args[j]? = some v → Value.okWide Try.prog W .any base t v := hval0
  have hW' := hW
  obtain ⟨p, q, hA0, hV, rfl, hfz, hnd⟩ := hW
  have hA : DataW.TrodAll enc Try.prog W 0 (fun _ => true) true Try.f13.params.toList args.toList ds p := hA0
  rw [Try.params13] at hA hval
  obtain ⟨v0, vs0, d0, ds0, p0, q0, hargs, rfl, rfl, h0, r0⟩ := trodAll_cons hA
  obtain ⟨rfl, rfl, rfl⟩ := trodAll_nil r0
  obtain rfl : args = #[v0] := by cases args; simp_all
  obtain ⟨rfl, rfl⟩ := trodVars_none hV
  have k0 := h0
  have lt0 : ∀ x ∈ p0, x.block < W.heap.size := by obtain ⟨m, hm⟩ := k0; exact DataW.trod_lt m _ _ _ hm
  obtain ⟨f0, hf0⟩ := h0
  obtain ⟨cs0, rfl, _⟩ := okWide_struct Try.underlying90 (hval 0 90 v0 rfl rfl)
  obtain ⟨x0, K0, b0⟩ := opens90 f0 _ _ hf0
  obtain ⟨A0_0, c0_0, A0_2, c0_2, E0, lc0_0, g0_0, lc0_2, g0_2⟩ := k90_open K0
  obtain rfl : cs0 = #[.slice A0_0 (x0.f0).length c0_0, .int .i64 x0.f1, .slice A0_2 (x0.f2).length c0_2] := by cases cs0; simp_all [Value.cells]
  clear E0
  obtain ⟨k, h⟩ := Pure.FnExactIsProgram (x0.f0) (x0.f1) (x0.f2) b0
  refine (laws_FnExactIsProgram.calls k A0_0 c0_0 (x0.f0) (x0.f1) A0_2 c0_2 (x0.f2) true W g0_0 lc0_0 g0_2 lc0_2 ⟨rfl⟩ h).mono fun e W' he => ?_
  obtain ⟨rfl, bel0⟩ := he
  have bel : Below W.heap.size W W' := bel0
  exact ⟨_, rfl, _, _, _, [], _, [], hW', trodAll_mk1 (shut_bool Try.underlying4 _), (trodAll_cons_mk (Below.trod laidOut (by kernel_rfl) (of_decide_eq_true (by kernel_rfl)) k0 bel lt0) trodAll_mk0), rfl, bel.frame _, fun h => by cases h⟩
theorem over : Rows.fnExactIsProgramRow.holds Try.pinned (OpenSpec.ofChange Rows.fnExactIsProgramSpec) :=
  OpenClaim.holds_of_wide 13 Try.f13 rfl rfl rfl rfl rfl rfl rfl ⟨rfl, rfl, rfl, rfl, rfl⟩ rfl rfl rfl rfl rfl (by kernel_rfl) Try.func13 (by kernel_rfl)
    (of_decide_eq_true (by kernel_rfl)) (by unfold Func.isWrapper; first | (rw [if_pos (by decide +kernel)]; kernel_rfl) | (rw [if_neg (by decide +kernel)]; exact ⟨rfl, rfl⟩))
    (fun os started H enc _ => lifted os started H enc)
theorem proved : Rows.FnExactIsProgramSaid := over
#print axioms proved
end Go.Proofs.Ytfmepkfigdobaaa.fnExactIsProgram
namespace Go.Proofs.Ytfmepkfigdobaaa
/-- The row, under a short name, for the claim. -/
theorem fnExactIsProgram_holds : Rows.FnExactIsProgramSaid := fnExactIsProgram.proved
end Go.Proofs.Ytfmepkfigdobaaa
