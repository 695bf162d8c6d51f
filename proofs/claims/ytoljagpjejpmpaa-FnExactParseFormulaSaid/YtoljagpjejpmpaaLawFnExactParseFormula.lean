/-
 The statement laws.FnExactParseFormula of the given program: for every argument of its kinds the law answers true, and each argument reads behind the call as before; no further condition.
-/
import Derived.Test.YtoljagpjejpmpaaRows
import Derived.Test.YtoljagpjejpmpaaPFnExactParseFormulax16
import Derived.Test.YtoljagpjejpmpaaPureFnExactParseFormula
import Derived.Test.YtoljagpjejpmpaaXOpen
import Derived.WalkKit
import Derived.ProofKit
import Derived.OpenShut
import Derived.ShutString
import Derived.ChangeOld
import Derived.Below
import Derived.SizedLaws
namespace Go.Proofs.Ytoljagpjejpmpaa.fnExactParseFormula
open Go.ChangeShapes Go.WideShapes Go.ChangeAt Go.RowKit
open Go.ChangeMaps (open_string shut_string)
open Go.Proofs.Ytoljagpjejpmpaa.PFnExactParseFormula Go.Proofs.YtoljagpjejpmpaaW.PrintWords Go.Proofs.YtoljagpjejpmpaaX
set_option linter.unusedVariables false
theorem own : ownKnob Try.prog.godebug = none := by kernel_rfl
theorem laidOut : laidOutB Try.prog = true := by kernel_rfl
set_option maxRecDepth 100000 in
theorem lifted (os : Os) (started : os.Started) (H : Type) (enc : TypeId × Value → H) :
  ReturnsInHanded {} Try.checked os 5 .any (Rows.fnExactParseFormulaSpec.pre6 enc Try.prog Try.f5 Rows.fnExactParseFormulaRow.domain false) (Rows.fnExactParseFormulaSpec.post enc Try.prog Try.f5 false true false false) := by
 refine returnsInHanded_of_change_sized (C := Try.checked) own started (by kernel_rfl) Try.func5
  (ChangeSpec.witness6 (enc := enc) (C := Try.checked) false ⟨#[], #[.slice none 0 0, .string ByteArray.empty], []⟩ 8 (by kernel_rfl) (by kernel_rfl) (by kernel_rfl) (by kernel_rfl)) ?_
 intro W base args ds gs before hval0 hW hcnd hsz0 _; have hval : ∀ (j : Nat) t v, Try.f5.params[j]? = some t → args[j]? = some v → Value.okWide Try.prog W .any base t v := hval0; have hW' := hW; obtain ⟨p, q, hA0, hV, rfl, hfz, hnd⟩ := hW; have hA : DataW.TrodAll enc Try.prog W 0 (fun _ => true) true Try.f5.params.toList args.toList ds p := hA0; rw [Try.params5] at hA hval; obtain ⟨v0, vs0, d0, ds0, p0, q0, hargs, rfl, rfl, h0, r0⟩ := trodAll_cons hA; obtain ⟨v1, vs1, d1, ds1, p1, q1, rfl, rfl, rfl, h1, r1⟩ := trodAll_cons r0; obtain ⟨rfl, rfl, rfl⟩ := trodAll_nil r1; obtain rfl : args = #[v0, v1] := by cases args; simp_all
 obtain ⟨rfl, rfl⟩ := trodVars_none hV; have k0 := h0; have lt0 : ∀ x ∈ p0, x.block < W.heap.size := by obtain ⟨m, hm⟩ := k0; exact DataW.trod_lt m _ _ _ hm
 obtain ⟨f0, hf0⟩ := h0; obtain ⟨x0, len0, cap0, rfl⟩ := okWide_slice Try.underlying22 (hval 0 22 v0 rfl rfl); obtain ⟨l0, K0, b0⟩ := (opens_slice Try.underlying22 (by kernel_rfl) (fun _ _ => opens_string Try.underlying9) : Opens enc Try.prog W 0 (fun _ => true) true f0 (Kd.slice 9 Kd.string) (fun a => (a.length ≤ maxLen ∧ ∀ x_ ∈ a, x_.size ≤ maxLen)) 22) _ _ hf0; obtain ⟨A0, c0, E0, lc0, g0⟩ := (K0 : ∃ A c, [Value.slice x0 len0 cap0] = [.slice A l0.length c] ∧ l0.length ≤ c ∧ Kd.string.C W A l0.length l0); replace E0 := (List.cons.inj E0).1; rw [E0] at hW' k0 ⊢; clear E0; obtain ⟨a1, rfl, rfl, rfl, y1⟩ := open_string Try.underlying9 (hval 1 9 v1 rfl rfl) h1; obtain ⟨k, h⟩ := Pure.FnExactParseFormula l0 a1 b0 y1; refine (laws_FnExactParseFormula.calls k A0 c0 l0 a1 true W g0 lc0 ⟨rfl⟩ h).mono fun e W' he => ?_
 obtain ⟨rfl, bel0⟩ := he; have bel : Below W.heap.size W W' := bel0; exact ⟨_, rfl, _, _, _, [], _, [], hW', trodAll_mk1 (shut_bool Try.underlying4 _), (trodAll_cons_mk (Below.trod laidOut (by kernel_rfl) (of_decide_eq_true (by kernel_rfl)) k0 bel lt0) (trodAll_cons_mk (shut_string Try.underlying9 y1) trodAll_mk0)), rfl, bel.frame _, fun h => by cases h⟩
theorem over : Rows.fnExactParseFormulaRow.holds Try.pinned (OpenSpec.ofChange Rows.fnExactParseFormulaSpec) :=
 OpenClaim.holds_of_wide 5 Try.f5 rfl rfl rfl rfl rfl rfl rfl ⟨rfl, rfl, rfl, rfl, rfl⟩ rfl rfl rfl rfl rfl (by kernel_rfl) Try.func5 (by kernel_rfl)
  (of_decide_eq_true (by kernel_rfl)) (by unfold Func.isWrapper; first | (rw [if_pos (by decide +kernel)]; kernel_rfl) | (rw [if_neg (by decide +kernel)]; exact ⟨rfl, rfl⟩))
  (fun os started H enc _ => lifted os started H enc)
theorem proved : Rows.FnExactParseFormulaSaid := over
#print axioms proved
end Go.Proofs.Ytoljagpjejpmpaa.fnExactParseFormula
namespace Go.Proofs.Ytoljagpjejpmpaa
/-- The row, under a short name, for the claim. -/
theorem fnExactParseFormula_holds : Rows.FnExactParseFormulaSaid := fnExactParseFormula.proved
end Go.Proofs.Ytoljagpjejpmpaa
