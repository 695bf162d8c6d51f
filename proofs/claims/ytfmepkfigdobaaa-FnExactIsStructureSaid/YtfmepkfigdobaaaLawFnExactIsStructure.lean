/-
  The statement laws.FnExactIsStructure of the given program: for every argument of its kinds the law answers true, and each argument reads behind the call as before; no further condition.
-/
import Derived.Test.YtfmepkfigdobaaaRows
import Derived.Test.YtfmepkfigdobaaaPFnExactIsStructurex4
import Derived.Test.YtfmepkfigdobaaaPureFnExactIsStructure
import Derived.Test.YtfmepkfigdobaaaXOpen
import Derived.WalkKit
import Derived.ProofKit
import Derived.OpenShut
import Derived.ShutString
import Derived.ChangeOld
import Derived.Below
import Derived.SizedLaws
namespace Go.Proofs.Ytfmepkfigdobaaa.fnExactIsStructure
open Go.ChangeShapes Go.WideShapes Go.ChangeAt Go.RowKit
open Go.ChangeMaps (open_string shut_string)
open Go.Proofs.Ytfmepkfigdobaaa.PFnExactIsStructure Go.Proofs.YtfmepkfigdobaaaW.PrintWords Go.Proofs.YtfmepkfigdobaaaX
set_option linter.unusedVariables false
theorem own : ownKnob Try.prog.godebug = none := by kernel_rfl
theorem laidOut : laidOutB Try.prog = true := by kernel_rfl
theorem opens145 {H : Type} {enc : TypeId × Value → H} {w : World} {base : Nat} {spare : Nat → Bool} {held : Bool} : ∀ n, Opens enc Try.prog w base spare held n k145 B145 145 := by
  intro n
  intro cs x h
  obtain ⟨xs, m, rfl, _, hl, hlen, hf⟩ := DataW.trod_struct Try.underlying145 h
  have hl' : cs.length = 4 := hl.trans (by kernel_rfl)
  have hlen' : xs.length = 4 := hlen
  obtain ⟨c0, c1, c2, c3, rfl⟩ := list4 hl'
  have e0 := (hf 0 _ rfl).trans (List.getElem?_eq_getElem (show 0 < xs.length by omega))
  have z0 : Try.prog.cellsOf 22 = 1 := by kernel_rfl
  have e0' : DataW.trod enc Try.prog w base spare held m 22 ((([c0, c1, c2, c3] : List Value).drop 0).take (Try.prog.cellsOf 22)) = _ := e0
  rw [z0] at e0'
  have e1 := (hf 1 _ rfl).trans (List.getElem?_eq_getElem (show 1 < xs.length by omega))
  have z1 : Try.prog.cellsOf 22 = 1 := by kernel_rfl
  have e1' : DataW.trod enc Try.prog w base spare held m 22 ((([c0, c1, c2, c3] : List Value).drop 1).take (Try.prog.cellsOf 22)) = _ := e1
  rw [z1] at e1'
  have e2 := (hf 2 _ rfl).trans (List.getElem?_eq_getElem (show 2 < xs.length by omega))
  have z2 : Try.prog.cellsOf 3 = 1 := by kernel_rfl
  have e2' : DataW.trod enc Try.prog w base spare held m 3 ((([c0, c1, c2, c3] : List Value).drop 2).take (Try.prog.cellsOf 3)) = _ := e2
  rw [z2] at e2'
  have e3 := (hf 3 _ rfl).trans (List.getElem?_eq_getElem (show 3 < xs.length by omega))
  have z3 : Try.prog.cellsOf 3 = 1 := by kernel_rfl
  have e3' : DataW.trod enc Try.prog w base spare held m 3 ((([c0, c1, c2, c3] : List Value).drop 3).take (Try.prog.cellsOf 3)) = _ := e3
  rw [z3] at e3'
  obtain ⟨a0, K0, b0⟩ := (opens_slice Try.underlying22 (by kernel_rfl) (fun _ _ => opens_int Try.underlying3) : Opens enc Try.prog w base spare held m (Kd.slice 3 (Kd.int .i64)) (fun a => (a.length ≤ maxLen ∧ ∀ x_ ∈ a, (Lit.int .i64 x_).wf = true)) 22) _ _ e0'
  obtain ⟨A0, q0, E0, l0, g0⟩ := (K0 : ∃ A c, [c0] = [.slice A a0.length c] ∧ a0.length ≤ c ∧ (Kd.int .i64).C w A a0.length a0)
  replace E0 := (List.cons.inj E0).1
  obtain rfl := E0
  obtain ⟨a1, K1, b1⟩ := (opens_slice Try.underlying22 (by kernel_rfl) (fun _ _ => opens_int Try.underlying3) : Opens enc Try.prog w base spare held m (Kd.slice 3 (Kd.int .i64)) (fun a => (a.length ≤ maxLen ∧ ∀ x_ ∈ a, (Lit.int .i64 x_).wf = true)) 22) _ _ e1'
  obtain ⟨A1, q1, E1, l1, g1⟩ := (K1 : ∃ A c, [c1] = [.slice A a1.length c] ∧ a1.length ≤ c ∧ (Kd.int .i64).C w A a1.length a1)
  replace E1 := (List.cons.inj E1).1
  obtain rfl := E1
  obtain ⟨a2, K2, b2⟩ := (opens_int Try.underlying3 : Opens enc Try.prog w base spare held m (Kd.int .i64) (fun a => (Lit.int .i64 a).wf = true) 3) _ _ e2'
  have E2 : [c2] = [.int .i64 a2] := K2
  replace E2 := (List.cons.inj E2).1
  obtain rfl := E2
  obtain ⟨a3, K3, b3⟩ := (opens_int Try.underlying3 : Opens enc Try.prog w base spare held m (Kd.int .i64) (fun a => (Lit.int .i64 a).wf = true) 3) _ _ e3'
  have E3 : [c3] = [.int .i64 a3] := K3
  replace E3 := (List.cons.inj E3).1
  obtain rfl := E3
  exact ⟨⟨a0, a1, a2, a3⟩, k145_mk w _ l0 g0 l1 g1, b0, b1, b2, b3⟩
theorem opens45 {H : Type} {enc : TypeId × Value → H} {w : World} {base : Nat} {spare : Nat → Bool} {held : Bool} : ∀ n, Opens enc Try.prog w base spare held n k45 B45 45 := by
  intro n
  intro cs x h
  obtain ⟨xs, m, rfl, _, hl, hlen, hf⟩ := DataW.trod_struct Try.underlying45 h
  have hl' : cs.length = 2 := hl.trans (by kernel_rfl)
  have hlen' : xs.length = 2 := hlen
  obtain ⟨c0, c1, rfl⟩ := list2 hl'
  have e0 := (hf 0 _ rfl).trans (List.getElem?_eq_getElem (show 0 < xs.length by omega))
  have z0 : Try.prog.cellsOf 43 = 1 := by kernel_rfl
  have e0' : DataW.trod enc Try.prog w base spare held m 43 ((([c0, c1] : List Value).drop 0).take (Try.prog.cellsOf 43)) = _ := e0
  rw [z0] at e0'
  have e1 := (hf 1 _ rfl).trans (List.getElem?_eq_getElem (show 1 < xs.length by omega))
  have z1 : Try.prog.cellsOf 22 = 1 := by kernel_rfl
  have e1' : DataW.trod enc Try.prog w base spare held m 22 ((([c0, c1] : List Value).drop 1).take (Try.prog.cellsOf 22)) = _ := e1
  rw [z1] at e1'
  obtain ⟨a0, K0, b0⟩ := (opens_slice Try.underlying43 (by kernel_rfl) (fun _ _ => opens145 _) : Opens enc Try.prog w base spare held m (Kd.slice 145 k145) (fun a => (a.length ≤ maxLen ∧ ∀ x_ ∈ a, B145 x_)) 43) _ _ e0'
  obtain ⟨A0, q0, E0, l0, g0⟩ := (K0 : ∃ A c, [c0] = [.slice A a0.length c] ∧ a0.length ≤ c ∧ k145.C w A a0.length a0)
  replace E0 := (List.cons.inj E0).1
  obtain rfl := E0
  obtain ⟨a1, K1, b1⟩ := (opens_slice Try.underlying22 (by kernel_rfl) (fun _ _ => opens_int Try.underlying3) : Opens enc Try.prog w base spare held m (Kd.slice 3 (Kd.int .i64)) (fun a => (a.length ≤ maxLen ∧ ∀ x_ ∈ a, (Lit.int .i64 x_).wf = true)) 22) _ _ e1'
  obtain ⟨A1, q1, E1, l1, g1⟩ := (K1 : ∃ A c, [c1] = [.slice A a1.length c] ∧ a1.length ≤ c ∧ (Kd.int .i64).C w A a1.length a1)
  replace E1 := (List.cons.inj E1).1
  obtain rfl := E1
  exact ⟨⟨a0, a1⟩, k45_mk w _ l0 g0 l1 g1, b0, b1⟩
set_option maxRecDepth 100000 in
theorem lifted (os : Os) (started : os.Started) (H : Type) (enc : TypeId × Value → H) :
    ReturnsInHanded {} Try.checked os 8 .any (Rows.fnExactIsStructureSpec.pre6 enc Try.prog Try.f8 Rows.fnExactIsStructureRow.domain false) (Rows.fnExactIsStructureSpec.post enc Try.prog Try.f8 false true false false) := by
  refine returnsInHanded_of_change_sized (C := Try.checked) own started (by kernel_rfl) Try.func8
    (ChangeSpec.witness6 (enc := enc) (C := Try.checked) false ⟨#[], #[.int .i64 0, .agg #[.slice none 0 0, .slice none 0 0]], []⟩ 8 (by kernel_rfl) (by kernel_rfl) (by kernel_rfl) (by kernel_rfl)) ?_
  intro W base args ds gs before hval0 hW hcnd hsz0 _
  have hval : ∀ (j : Nat) t v, Try.f8.params[j]? = some t → args[j]? = some v → Value.okWide Try.prog W .any base t v := hval0
  have hW' := hW
  obtain ⟨p, q, hA0, hV, rfl, hfz, hnd⟩ := hW
  have hA : DataW.TrodAll enc Try.prog W 0 (fun _ => true) true Try.f8.params.toList args.toList ds p := hA0
  rw [Try.params8] at hA hval
  obtain ⟨v0, vs0, d0, ds0, p0, q0, hargs, rfl, rfl, h0, r0⟩ := trodAll_cons hA
  obtain ⟨v1, vs1, d1, ds1, p1, q1, rfl, rfl, rfl, h1, r1⟩ := trodAll_cons r0
  obtain ⟨rfl, rfl, rfl⟩ := trodAll_nil r1
  obtain rfl : args = #[v0, v1] := by cases args; simp_all
  obtain ⟨rfl, rfl⟩ := trodVars_none hV
  obtain ⟨a0, rfl, rfl, rfl, w0⟩ := open_int Try.underlying3 (hval 0 3 v0 rfl rfl) h0
  have k1 := h1
  have lt1 : ∀ x ∈ p1, x.block < W.heap.size := by obtain ⟨m, hm⟩ := k1; exact DataW.trod_lt m _ _ _ hm
  obtain ⟨f1, hf1⟩ := h1
  obtain ⟨cs1, rfl, _⟩ := okWide_struct Try.underlying45 (hval 1 45 v1 rfl rfl)
  obtain ⟨x1, K1, b1⟩ := opens45 f1 _ _ hf1
  obtain ⟨A1_0, c1_0, A1_1, c1_1, E1, lc1_0, g1_0, lc1_1, g1_1⟩ := k45_open K1
  obtain rfl : cs1 = #[.slice A1_0 (x1.f0).length c1_0, .slice A1_1 (x1.f1).length c1_1] := by cases cs1; simp_all [Value.cells]
  clear E1
  obtain ⟨k, h⟩ := Pure.FnExactIsStructure a0 (x1.f0) (x1.f1) w0 b1
  refine (laws_FnExactIsStructure.calls k a0 A1_0 c1_0 (x1.f0) A1_1 c1_1 (x1.f1) true W g1_0 lc1_0 g1_1 lc1_1 ⟨rfl⟩ h).mono fun e W' he => ?_
  obtain ⟨rfl, bel0⟩ := he
  have bel : Below W.heap.size W W' := bel0
  exact ⟨_, rfl, _, _, _, [], _, [], hW', trodAll_mk1 (shut_bool Try.underlying4 _), (trodAll_cons_mk (shut_int Try.underlying3 w0) (trodAll_cons_mk (Below.trod laidOut (by kernel_rfl) (of_decide_eq_true (by kernel_rfl)) k1 bel lt1) trodAll_mk0)), rfl, bel.frame _, fun h => by cases h⟩
theorem over : Rows.fnExactIsStructureRow.holds Try.pinned (OpenSpec.ofChange Rows.fnExactIsStructureSpec) :=
  OpenClaim.holds_of_wide 8 Try.f8 rfl rfl rfl rfl rfl rfl rfl ⟨rfl, rfl, rfl, rfl, rfl⟩ rfl rfl rfl rfl rfl (by kernel_rfl) Try.func8 (by kernel_rfl)
    (of_decide_eq_true (by kernel_rfl)) (by unfold Func.isWrapper; first | (rw [if_pos (by decide +kernel)]; kernel_rfl) | (rw [if_neg (by decide +kernel)]; exact ⟨rfl, rfl⟩))
    (fun os started H enc _ => lifted os started H enc)
theorem proved : Rows.FnExactIsStructureSaid := over
#print axioms proved
end Go.Proofs.Ytfmepkfigdobaaa.fnExactIsStructure
namespace Go.Proofs.Ytfmepkfigdobaaa
/-- The row, under a short name, for the claim. -/
theorem fnExactIsStructure_holds : Rows.FnExactIsStructureSaid := fnExactIsStructure.proved
end Go.Proofs.Ytfmepkfigdobaaa
