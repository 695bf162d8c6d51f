/-
  The statement laws.FnExactFollowed of the given program: for every argument of its kinds the law answers true, and each argument reads behind the call as before; no further condition.
-/
import Derived.Test.YtfmepkfigdobaaaRows
import Derived.Test.YtfmepkfigdobaaaPFnExactFollowedx3
import Derived.Test.YtfmepkfigdobaaaPureFnExactFollowed
import Derived.Test.YtfmepkfigdobaaaXOpen
import Derived.WalkKit
import Derived.ProofKit
import Derived.OpenShut
import Derived.ShutString
import Derived.ChangeOld
import Derived.Below
import Derived.SizedLaws
namespace Go.Proofs.Ytfmepkfigdobaaa.fnExactFollowed
open Go.ChangeShapes Go.WideShapes Go.ChangeAt Go.RowKit
open Go.ChangeMaps (open_string shut_string)
open Go.Proofs.Ytfmepkfigdobaaa.PFnExactFollowed Go.Proofs.YtfmepkfigdobaaaW.PrintWords Go.Proofs.YtfmepkfigdobaaaX
set_option linter.unusedVariables false
theorem own : ownKnob Try.prog.godebug = none := by kernel_rfl
theorem laidOut : laidOutB Try.prog = true := by kernel_rfl
theorem opens24 {H : Type} {enc : TypeId × Value → H} {w : World} {base : Nat} {spare : Nat → Bool} {held : Bool} : ∀ n, Opens enc Try.prog w base spare held n k24 B24 24 := by
  intro n
  intro cs x h
  obtain ⟨xs, m, rfl, _, hl, hlen, hf⟩ := DataW.trod_struct Try.underlying24 h
  have hl' : cs.length = 2 := hl.trans (by kernel_rfl)
  have hlen' : xs.length = 2 := hlen
  obtain ⟨c0, c1, rfl⟩ := list2 hl'
  have e0 := (hf 0 _ rfl).trans (List.getElem?_eq_getElem (show 0 < xs.length by omega))
  have z0 : Try.prog.cellsOf 22 = 1 := by kernel_rfl
  have e0' : DataW.trod enc Try.prog w base spare held m 22 ((([c0, c1] : List Value).drop 0).take (Try.prog.cellsOf 22)) = _ := e0
  rw [z0] at e0'
  have e1 := (hf 1 _ rfl).trans (List.getElem?_eq_getElem (show 1 < xs.length by omega))
  have z1 : Try.prog.cellsOf 22 = 1 := by kernel_rfl
  have e1' : DataW.trod enc Try.prog w base spare held m 22 ((([c0, c1] : List Value).drop 1).take (Try.prog.cellsOf 22)) = _ := e1
  rw [z1] at e1'
  obtain ⟨a0, K0, b0⟩ := (opens_slice Try.underlying22 (by kernel_rfl) (fun _ _ => opens_int Try.underlying3) : Opens enc Try.prog w base spare held m (Kd.slice 3 (Kd.int .i64)) (fun a => (a.length ≤ maxLen ∧ ∀ x_ ∈ a, (Lit.int .i64 x_).wf = true)) 22) _ _ e0'
  obtain ⟨A0, q0, E0, l0, g0⟩ := (K0 : ∃ A c, [c0] = [.slice A a0.length c] ∧ a0.length ≤ c ∧ (Kd.int .i64).C w A a0.length a0)
  replace E0 := (List.cons.inj E0).1
  obtain rfl := E0
  obtain ⟨a1, K1, b1⟩ := (opens_slice Try.underlying22 (by kernel_rfl) (fun _ _ => opens_int Try.underlying3) : Opens enc Try.prog w base spare held m (Kd.slice 3 (Kd.int .i64)) (fun a => (a.length ≤ maxLen ∧ ∀ x_ ∈ a, (Lit.int .i64 x_).wf = true)) 22) _ _ e1'
  obtain ⟨A1, q1, E1, l1, g1⟩ := (K1 : ∃ A c, [c1] = [.slice A a1.length c] ∧ a1.length ≤ c ∧ (Kd.int .i64).C w A a1.length a1)
  replace E1 := (List.cons.inj E1).1
  obtain rfl := E1
  exact ⟨⟨a0, a1⟩, k24_mk w _ l0 g0 l1 g1, b0, b1⟩
set_option maxRecDepth 100000 in
theorem lifted (os : Os) (started : os.Started) (H : Type) (enc : TypeId × Value → H) :
    ReturnsInHanded {} Try.checked os 3 .any (Rows.fnExactFollowedSpec.pre6 enc Try.prog Try.f3 Rows.fnExactFollowedRow.domain false) (Rows.fnExactFollowedSpec.post enc Try.prog Try.f3 false true false false) := by
  refine returnsInHanded_of_change_sized (C := Try.checked) own started (by kernel_rfl) Try.func3
    (ChangeSpec.witness6 (enc := enc) (C := Try.checked) false ⟨#[], #[.agg #[.slice none 0 0, .slice none 0 0], .int .i64 0], []⟩ 8 (by kernel_rfl) (by kernel_rfl) (by kernel_rfl) (by kernel_rfl)) ?_
  intro W base args ds gs before hval0 hW hcnd hsz0 _
  have hval : ∀ (j : Nat) t v, Try.f3.params[j]? = some t → args[j]? = some v → Value.okWide Try.prog W .any base t v := hval0
  have hW' := hW
  obtain ⟨p, q, hA0, hV, rfl, hfz, hnd⟩ := hW
  have hA : DataW.TrodAll enc Try.prog W 0 (fun _ => true) true Try.f3.params.toList args.toList ds p := hA0
  rw [Try.params3] at hA hval
  obtain ⟨v0, vs0, d0, ds0, p0, q0, hargs, rfl, rfl, h0, r0⟩ := trodAll_cons hA
  obtain ⟨v1, vs1, d1, ds1, p1, q1, rfl, rfl, rfl, h1, r1⟩ := trodAll_cons r0
  obtain ⟨rfl, rfl, rfl⟩ := trodAll_nil r1
  obtain rfl : args = #[v0, v1] := by cases args; simp_all
  obtain ⟨rfl, rfl⟩ := trodVars_none hV
  have k0 := h0
  have lt0 : ∀ x ∈ p0, x.block < W.heap.size := by obtain ⟨m, hm⟩ := k0; exact DataW.trod_lt m _ _ _ hm
  obtain ⟨f0, hf0⟩ := h0
  obtain ⟨cs0, rfl, _⟩ := okWide_struct Try.underlying24 (hval 0 24 v0 rfl rfl)
  obtain ⟨x0, K0, b0⟩ := opens24 f0 _ _ hf0
  obtain ⟨A0_0, c0_0, A0_1, c0_1, E0, lc0_0, g0_0, lc0_1, g0_1⟩ := k24_open K0
  obtain rfl : cs0 = #[.slice A0_0 (x0.f0).length c0_0, .slice A0_1 (x0.f1).length c0_1] := by cases cs0; simp_all [Value.cells]
  clear E0
  obtain ⟨a1, rfl, rfl, rfl, w1⟩ := open_int Try.underlying3 (hval 1 3 v1 rfl rfl) h1
  obtain ⟨k, h⟩ := Pure.FnExactFollowed (x0.f0) (x0.f1) a1 b0 w1
  refine (laws_FnExactFollowed.calls k A0_0 c0_0 (x0.f0) A0_1 c0_1 (x0.f1) a1 true W g0_0 lc0_0 g0_1 lc0_1 ⟨rfl⟩ h).mono fun e W' he => ?_
  obtain ⟨rfl, bel0⟩ := he
  have bel : Below W.heap.size W W' := bel0
  exact ⟨_, rfl, _, _, _, [], _, [], hW', trodAll_mk1 (shut_bool Try.underlying4 _), (trodAll_cons_mk (Below.trod laidOut (by kernel_rfl) (of_decide_eq_true (by kernel_rfl)) k0 bel lt0) (trodAll_cons_mk (shut_int Try.underlying3 w1) trodAll_mk0)), rfl, bel.frame _, fun h => by cases h⟩
theorem over : Rows.fnExactFollowedRow.holds Try.pinned (OpenSpec.ofChange Rows.fnExactFollowedSpec) :=
  OpenClaim.holds_of_wide 3 Try.f3 rfl rfl rfl rfl rfl rfl rfl ⟨rfl, rfl, rfl, rfl, rfl⟩ rfl rfl rfl rfl rfl (by kernel_rfl) Try.func3 (by kernel_rfl)
    (of_decide_eq_true (by kernel_rfl)) (by unfold Func.isWrapper; first | (rw [if_pos (by decide +kernel)]; kernel_rfl) | (rw [if_neg (by decide +kernel)]; exact ⟨rfl, rfl⟩))
    (fun os started H enc _ => lifted os started H enc)
theorem proved : Rows.FnExactFollowedSaid := over
#print axioms proved
end Go.Proofs.Ytfmepkfigdobaaa.fnExactFollowed
namespace Go.Proofs.Ytfmepkfigdobaaa
/-- The row, under a short name, for the claim. -/
theorem fnExactFollowed_holds : Rows.FnExactFollowedSaid := fnExactFollowed.proved
end Go.Proofs.Ytfmepkfigdobaaa
