/-
  The statement laws.FnExactOppositeOf of the given program: for every argument of its kinds the law answers true, and each argument reads behind the call as before; no further condition.
-/
import Derived.Test.YtnckhddciedceaaRows
import Derived.Test.YtnckhddciedceaaPFnExactOppositeOfx1
import Derived.Test.YtnckhddciedceaaPureFnExactOppositeOf
import Derived.Test.YtnckhddciedceaaXOpen
import Derived.WalkKit
import Derived.ProofKit
import Derived.OpenShut
import Derived.ShutString
import Derived.ChangeOld
import Derived.Below
import Derived.SizedLaws
namespace Go.Proofs.Ytnckhddciedceaa.fnExactOppositeOf
open Go.ChangeShapes Go.WideShapes Go.ChangeAt Go.RowKit
open Go.ChangeMaps (open_string shut_string)
open Go.Proofs.Ytnckhddciedceaa.PFnExactOppositeOf Go.Proofs.YtnckhddciedceaaW.PrintWords Go.Proofs.YtnckhddciedceaaX
set_option linter.unusedVariables false
theorem own : ownKnob Try.prog.godebug = none := by kernel_rfl
theorem laidOut : laidOutB Try.prog = true := by kernel_rfl
theorem opens33 {H : Type} {enc : TypeId × Value → H} {w : World} {base : Nat} {spare : Nat → Bool} {held : Bool} : ∀ n, Opens enc Try.prog w base spare held n k33 B33 33 := by
  intro n
  intro cs x h
  obtain ⟨xs, m, rfl, _, hl, hlen, hf⟩ := DataW.trod_struct Try.underlying33 h
  have hl' : cs.length = 3 := hl.trans (by kernel_rfl)
  have hlen' : xs.length = 3 := hlen
  obtain ⟨c0, c1, c2, rfl⟩ := list3 hl'
  have e0 := (hf 0 _ rfl).trans (List.getElem?_eq_getElem (show 0 < xs.length by omega))
  obtain ⟨a0, K0, b0⟩ := (opens_int Try.underlying3 : Opens enc Try.prog w base spare held m (Kd.int .i64) (fun a => (Lit.int .i64 a).wf = true) 3) _ _ (show DataW.trod enc Try.prog w base spare held m 3 [c0] = _ from e0)
  have E0 : [c0] = [.int .i64 a0] := K0
  simp only [List.cons.injEq, and_true] at E0
  obtain rfl := E0
  have e1 := (hf 1 _ rfl).trans (List.getElem?_eq_getElem (show 1 < xs.length by omega))
  obtain ⟨a1, K1, b1⟩ := (opens_string Try.underlying9 : Opens enc Try.prog w base spare held m Kd.string (fun a => a.size ≤ maxLen) 9) _ _ (show DataW.trod enc Try.prog w base spare held m 9 [c1] = _ from e1)
  have E1 : [c1] = [.string a1] := K1
  simp only [List.cons.injEq, and_true] at E1
  obtain rfl := E1
  have e2 := (hf 2 _ rfl).trans (List.getElem?_eq_getElem (show 2 < xs.length by omega))
  obtain ⟨a2, K2, b2⟩ := (opens_string Try.underlying9 : Opens enc Try.prog w base spare held m Kd.string (fun a => a.size ≤ maxLen) 9) _ _ (show DataW.trod enc Try.prog w base spare held m 9 [c2] = _ from e2)
  have E2 : [c2] = [.string a2] := K2
  simp only [List.cons.injEq, and_true] at E2
  obtain rfl := E2
  exact ⟨⟨a0, a1, a2⟩, k33_mk w _ , b0, b1, b2⟩
set_option maxRecDepth 100000 in
theorem lifted (os : Os) (started : os.Started) (H : Type) (enc : TypeId × Value → H) :
    ReturnsInHanded {} Try.checked os 6 .any (Rows.fnExactOppositeOfSpec.pre6 enc Try.prog Try.f6 Rows.fnExactOppositeOfRow.domain false) (Rows.fnExactOppositeOfSpec.post enc Try.prog Try.f6 false true false false) := by
  refine returnsInHanded_of_change_sized (C := Try.checked) own started (by kernel_rfl) Try.func6
    (ChangeSpec.witness6 (enc := enc) (C := Try.checked) false ⟨#[], #[.agg #[.int .i64 0, .string ByteArray.empty, .string ByteArray.empty]], []⟩ 8 (by kernel_rfl) (by kernel_rfl) (by kernel_rfl) (by kernel_rfl)) ?_
  intro W base args ds gs before hval0 hW hcnd hsz0 _
  have hval : ∀ (j : Nat) t v, Try.f6.params[j]? = some t → args[j]? = some v → Value.okWide Try.prog W .any base t v := hval0
  have hW' := hW
  obtain ⟨p, q, hA0, hV, rfl, hfz, hnd⟩ := hW
  have hA : DataW.TrodAll enc Try.prog W 0 (fun _ => true) true Try.f6.params.toList args.toList ds p := hA0
  rw [Try.params6] at hA hval
  obtain ⟨v0, vs0, d0, ds0, p0, q0, hargs, rfl, rfl, h0, r0⟩ := trodAll_cons hA
  obtain ⟨rfl, rfl, rfl⟩ := trodAll_nil r0
  obtain rfl : args = #[v0] := by cases args; simp_all
  obtain ⟨rfl, rfl⟩ := trodVars_none hV
  have k0 := h0
  have lt0 : ∀ x ∈ p0, x.block < W.heap.size := by obtain ⟨m, hm⟩ := k0; exact DataW.trod_lt m _ _ _ hm
  obtain ⟨f0, hf0⟩ := h0
  obtain ⟨cs0, rfl, _⟩ := okWide_struct Try.underlying33 (hval 0 33 v0 rfl rfl)
  obtain ⟨x0, K0, b0⟩ := opens33 f0 _ _ hf0
  have E0 := k33_open K0
  obtain rfl : cs0 = #[.int .i64 x0.f0, .string x0.f1, .string x0.f2] := by cases cs0; simp_all [Value.cells]
  clear E0
  have h := Pure.FnExactOppositeOf (x0.f0) (x0.f1) (x0.f2) b0
  refine (laws_FnExactOppositeOf.calls (x0.f0) (x0.f1) (x0.f2) true W  ⟨rfl⟩ h).mono fun e W' he => ?_
  obtain ⟨rfl, bel0⟩ := he
  have bel : Below W.heap.size W W' := bel0
  exact ⟨_, rfl, _, _, _, [], _, [], hW', trodAll_mk1 (shut_bool Try.underlying4 _), (trodAll_cons_mk (Below.trod laidOut (by kernel_rfl) (of_decide_eq_true (by kernel_rfl)) k0 bel lt0) trodAll_mk0), rfl, bel.frame _, fun h => by cases h⟩
theorem over : Rows.fnExactOppositeOfRow.holds Try.pinned (OpenSpec.ofChange Rows.fnExactOppositeOfSpec) :=
  OpenClaim.holds_of_wide 6 Try.f6 rfl rfl rfl rfl rfl rfl rfl ⟨rfl, rfl, rfl, rfl, rfl⟩ rfl rfl rfl rfl rfl (by kernel_rfl) Try.func6 (by kernel_rfl)
    (of_decide_eq_true (by kernel_rfl)) (by unfold Func.isWrapper; first | (rw [if_pos (by decide +kernel)]; kernel_rfl) | (rw [if_neg (by decide +kernel)]; exact ⟨rfl, rfl⟩))
    (fun os started H enc _ => lifted os started H enc)
theorem proved : Rows.FnExactOppositeOfSaid := over
#print axioms proved
end Go.Proofs.Ytnckhddciedceaa.fnExactOppositeOf
namespace Go.Proofs.Ytnckhddciedceaa
/-- The row, under a short name, for the claim. -/
theorem fnExactOppositeOf_holds : Rows.FnExactOppositeOfSaid := fnExactOppositeOf.proved
end Go.Proofs.Ytnckhddciedceaa
