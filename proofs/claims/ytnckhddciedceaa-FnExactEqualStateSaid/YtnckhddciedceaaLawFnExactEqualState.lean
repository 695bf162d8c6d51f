/-
  The statement laws.FnExactEqualState of the given program: for every argument of its kinds the law answers true, and each argument reads behind the call as before; no further condition.
-/
import Derived.Test.YtnckhddciedceaaRows
import Derived.Test.YtnckhddciedceaaPFnExactEqualStatex3
import Derived.Test.YtnckhddciedceaaPureFnExactEqualState
import Derived.Test.YtnckhddciedceaaXOpen
import Derived.WalkKit
import Derived.ProofKit
import Derived.OpenShut
import Derived.ShutString
import Derived.ChangeOld
import Derived.Below
import Derived.SizedLaws
namespace Go.Proofs.Ytnckhddciedceaa.fnExactEqualState
open Go.ChangeShapes Go.WideShapes Go.ChangeAt Go.RowKit
open Go.ChangeMaps (open_string shut_string)
open Go.Proofs.Ytnckhddciedceaa.PFnExactEqualState Go.Proofs.YtnckhddciedceaaW.PrintWords Go.Proofs.YtnckhddciedceaaX
set_option linter.unusedVariables false
theorem own : ownKnob Try.prog.godebug = none := by kernel_rfl
theorem laidOut : laidOutB Try.prog = true := by kernel_rfl
theorem opens59 {H : Type} {enc : TypeId × Value → H} {w : World} {base : Nat} {spare : Nat → Bool} {held : Bool} : ∀ n, Opens enc Try.prog w base spare held n k59 B59 59 := by
  intro n
  intro cs x h
  obtain ⟨xs, m, rfl, _, hl, hlen, hf⟩ := DataW.trod_struct Try.underlying59 h
  have hl' : cs.length = 2 := hl.trans (by kernel_rfl)
  have hlen' : xs.length = 2 := hlen
  obtain ⟨c0, c1, rfl⟩ := list2 hl'
  have e0 := (hf 0 _ rfl).trans (List.getElem?_eq_getElem (show 0 < xs.length by omega))
  have z0 : Try.prog.cellsOf 41 = 1 := by kernel_rfl
  have e0' : DataW.trod enc Try.prog w base spare held m 41 ((([c0, c1] : List Value).drop 0).take (Try.prog.cellsOf 41)) = _ := e0
  rw [z0] at e0'
  have e1 := (hf 1 _ rfl).trans (List.getElem?_eq_getElem (show 1 < xs.length by omega))
  have z1 : Try.prog.cellsOf 41 = 1 := by kernel_rfl
  have e1' : DataW.trod enc Try.prog w base spare held m 41 ((([c0, c1] : List Value).drop 1).take (Try.prog.cellsOf 41)) = _ := e1
  rw [z1] at e1'
  obtain ⟨a0, K0, b0⟩ := (opens_slice Try.underlying41 (by kernel_rfl) (fun _ _ => opens_int Try.underlying3) : Opens enc Try.prog w base spare held m (Kd.slice 3 (Kd.int .i64)) (fun a => (a.length ≤ maxLen ∧ ∀ x_ ∈ a, (Lit.int .i64 x_).wf = true)) 41) _ _ e0'
  obtain ⟨A0, q0, E0, l0, g0⟩ := (K0 : ∃ A c, [c0] = [.slice A a0.length c] ∧ a0.length ≤ c ∧ (Kd.int .i64).C w A a0.length a0)
  replace E0 := (List.cons.inj E0).1
  obtain rfl := E0
  obtain ⟨a1, K1, b1⟩ := (opens_slice Try.underlying41 (by kernel_rfl) (fun _ _ => opens_int Try.underlying3) : Opens enc Try.prog w base spare held m (Kd.slice 3 (Kd.int .i64)) (fun a => (a.length ≤ maxLen ∧ ∀ x_ ∈ a, (Lit.int .i64 x_).wf = true)) 41) _ _ e1'
  obtain ⟨A1, q1, E1, l1, g1⟩ := (K1 : ∃ A c, [c1] = [.slice A a1.length c] ∧ a1.length ≤ c ∧ (Kd.int .i64).C w A a1.length a1)
  replace E1 := (List.cons.inj E1).1
  obtain rfl := E1
  exact ⟨⟨a0, a1⟩, k59_mk w _ l0 g0 l1 g1, b0, b1⟩
theorem opens68 {H : Type} {enc : TypeId × Value → H} {w : World} {base : Nat} {spare : Nat → Bool} {held : Bool} : ∀ n, Opens enc Try.prog w base spare held n k68 B68 68 := by
  intro n
  intro cs x h
  obtain ⟨xs, m, rfl, _, hl, hlen, hf⟩ := DataW.trod_struct Try.underlying68 h
  have hl' : cs.length = 3 := hl.trans (by kernel_rfl)
  have hlen' : xs.length = 2 := hlen
  obtain ⟨c0, c1, c2, rfl⟩ := list3 hl'
  have e0 := (hf 0 _ rfl).trans (List.getElem?_eq_getElem (show 0 < xs.length by omega))
  have z0 : Try.prog.cellsOf 3 = 1 := by kernel_rfl
  have e0' : DataW.trod enc Try.prog w base spare held m 3 ((([c0, c1, c2] : List Value).drop 0).take (Try.prog.cellsOf 3)) = _ := e0
  rw [z0] at e0'
  have e1 := (hf 1 _ rfl).trans (List.getElem?_eq_getElem (show 1 < xs.length by omega))
  have z1 : Try.prog.cellsOf 59 = 2 := by kernel_rfl
  have e1' : DataW.trod enc Try.prog w base spare held m 59 ((([c0, c1, c2] : List Value).drop 1).take (Try.prog.cellsOf 59)) = _ := e1
  rw [z1] at e1'
  obtain ⟨a0, K0, b0⟩ := (opens_int Try.underlying3 : Opens enc Try.prog w base spare held m (Kd.int .i64) (fun a => (Lit.int .i64 a).wf = true) 3) _ _ e0'
  have E0 : [c0] = [.int .i64 a0] := K0
  replace E0 := (List.cons.inj E0).1
  obtain rfl := E0
  obtain ⟨a1, K1, b1⟩ := (opens59 _ : Opens enc Try.prog w base spare held m k59 (fun a => B59 a) 59) _ _ e1'
  replace K1 : k59.K w a1 [c1, c2] := K1
  obtain ⟨A1_0, q1_0, A1_1, q1_1, E1, l1_0, g1_0, l1_1, g1_1⟩ := k59_open K1
  simp only [List.cons.injEq, and_true] at E1
  obtain ⟨rfl, rfl⟩ := E1
  exact ⟨⟨a0, a1⟩, k68_mk w _ l1_0 g1_0 l1_1 g1_1, b0, b1⟩
set_option maxRecDepth 100000 in
theorem lifted (os : Os) (started : os.Started) (H : Type) (enc : TypeId × Value → H) :
    ReturnsInHanded {} Try.checked os 13 .any (Rows.fnExactEqualStateSpec.pre6 enc Try.prog Try.f13 Rows.fnExactEqualStateRow.domain false) (Rows.fnExactEqualStateSpec.post enc Try.prog Try.f13 false true false false) := by
  refine returnsInHanded_of_change_sized (C := Try.checked) own started (by kernel_rfl) Try.func13
    (ChangeSpec.witness6 (enc := enc) (C := Try.checked) false ⟨#[], #[.agg #[.int .i64 0, .slice none 0 0, .slice none 0 0], .agg #[.int .i64 0, .slice none 0 0, .slice none 0 0]], []⟩ 8 (by kernel_rfl) (by kernel_rfl) (by kernel_rfl) (by kernel_rfl)) ?_
  intro W base args ds gs before hval0 hW hcnd hsz0 _
  have hval : ∀ (j : Nat) t v, Try.f13.params[j]? = some t → args[j]? = some v → Value.okWide Try.prog W .any base t v := hval0
  have hW' := hW
  obtain ⟨p, q, hA0, hV, rfl, hfz, hnd⟩ := hW
  have hA : DataW.TrodAll enc Try.prog W 0 (fun _ => true) true Try.f13.params.toList args.toList ds p := hA0
  rw [Try.params13] at hA hval
  obtain ⟨v0, vs0, d0, ds0, p0, q0, hargs, rfl, rfl, h0, r0⟩ := trodAll_cons hA
  obtain ⟨v1, vs1, d1, ds1, p1, q1, rfl, rfl, rfl, h1, r1⟩ := trodAll_cons r0
  obtain ⟨rfl, rfl, rfl⟩ := trodAll_nil r1
  obtain rfl : args = #[v0, v1] := by cases args; simp_all
  obtain ⟨rfl, rfl⟩ := trodVars_none hV
  have k0 := h0
  have lt0 : ∀ x ∈ p0, x.block < W.heap.size := by obtain ⟨m, hm⟩ := k0; exact DataW.trod_lt m _ _ _ hm
  obtain ⟨f0, hf0⟩ := h0
  obtain ⟨cs0, rfl, _⟩ := okWide_struct Try.underlying68 (hval 0 68 v0 rfl rfl)
  obtain ⟨x0, K0, b0⟩ := opens68 f0 _ _ hf0
  obtain ⟨A0_1, c0_1, A0_2, c0_2, E0, lc0_1, g0_1, lc0_2, g0_2⟩ := k68_open K0
  obtain rfl : cs0 = #[.int .i64 x0.f0, .slice A0_1 (x0.f1.f0).length c0_1, .slice A0_2 (x0.f1.f1).length c0_2] := by cases cs0; simp_all [Value.cells]
  clear E0
  have k1 := h1
  have lt1 : ∀ x ∈ p1, x.block < W.heap.size := by obtain ⟨m, hm⟩ := k1; exact DataW.trod_lt m _ _ _ hm
  obtain ⟨f1, hf1⟩ := h1
  obtain ⟨cs1, rfl, _⟩ := okWide_struct Try.underlying68 (hval 1 68 v1 rfl rfl)
  obtain ⟨x1, K1, b1⟩ := opens68 f1 _ _ hf1
  obtain ⟨A1_1, c1_1, A1_2, c1_2, E1, lc1_1, g1_1, lc1_2, g1_2⟩ := k68_open K1
  obtain rfl : cs1 = #[.int .i64 x1.f0, .slice A1_1 (x1.f1.f0).length c1_1, .slice A1_2 (x1.f1.f1).length c1_2] := by cases cs1; simp_all [Value.cells]
  clear E1
  obtain ⟨k, h⟩ := Pure.FnExactEqualState (x0.f0) (x0.f1.f0) (x0.f1.f1) (x1.f0) (x1.f1.f0) (x1.f1.f1) b0 b1
  refine (laws_FnExactEqualState.calls k (x0.f0) A0_1 c0_1 (x0.f1.f0) A0_2 c0_2 (x0.f1.f1) (x1.f0) A1_1 c1_1 (x1.f1.f0) A1_2 c1_2 (x1.f1.f1) true W g0_1 lc0_1 g0_2 lc0_2 g1_1 lc1_1 g1_2 lc1_2 ⟨rfl⟩ h).mono fun e W' he => ?_
  obtain ⟨rfl, bel0⟩ := he
  have bel : Below W.heap.size W W' := bel0
  exact ⟨_, rfl, _, _, _, [], _, [], hW', trodAll_mk1 (shut_bool Try.underlying4 _), (trodAll_cons_mk (Below.trod laidOut (by kernel_rfl) (of_decide_eq_true (by kernel_rfl)) k0 bel lt0) (trodAll_cons_mk (Below.trod laidOut (by kernel_rfl) (of_decide_eq_true (by kernel_rfl)) k1 bel lt1) trodAll_mk0)), rfl, bel.frame _, fun h => by cases h⟩
theorem over : Rows.fnExactEqualStateRow.holds Try.pinned (OpenSpec.ofChange Rows.fnExactEqualStateSpec) :=
  OpenClaim.holds_of_wide 13 Try.f13 rfl rfl rfl rfl rfl rfl rfl ⟨rfl, rfl, rfl, rfl, rfl⟩ rfl rfl rfl rfl rfl (by kernel_rfl) Try.func13 (by kernel_rfl)
    (of_decide_eq_true (by kernel_rfl)) (by unfold Func.isWrapper; first | (rw [if_pos (by decide +kernel)]; kernel_rfl) | (rw [if_neg (by decide +kernel)]; exact ⟨rfl, rfl⟩))
    (fun os started H enc _ => lifted os started H enc)
theorem proved : Rows.FnExactEqualStateSaid := over
#print axioms proved
end Go.Proofs.Ytnckhddciedceaa.fnExactEqualState
namespace Go.Proofs.Ytnckhddciedceaa
/-- The row, under a short name, for the claim. -/
theorem fnExactEqualState_holds : Rows.FnExactEqualStateSaid := fnExactEqualState.proved
end Go.Proofs.Ytnckhddciedceaa
