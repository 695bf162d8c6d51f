/-
  The statement laws.FnExactFreeLogic of the given program: for every argument of its kinds the law answers true, and each argument reads behind the call as before; no further condition.
-/
import Derived.Test.YtoljagpjejpmpaaRows
import Derived.Test.YtoljagpjejpmpaaPFnExactFreeLogicx7
import Derived.Test.YtoljagpjejpmpaaPureFnExactFreeLogic
import Derived.Test.YtoljagpjejpmpaaXOpen
import Derived.WalkKit
import Derived.ProofKit
import Derived.OpenShut
import Derived.ShutString
import Derived.ChangeOld
import Derived.Below
import Derived.SizedLaws
namespace Go.Proofs.Ytoljagpjejpmpaa.fnExactFreeLogic
open Go.ChangeShapes Go.WideShapes Go.ChangeAt Go.RowKit
open Go.ChangeMaps (open_string shut_string)
open Go.Proofs.Ytoljagpjejpmpaa.PFnExactFreeLogic Go.Proofs.YtoljagpjejpmpaaW.PrintWords Go.Proofs.YtoljagpjejpmpaaX
set_option linter.unusedVariables false
theorem own : ownKnob Try.prog.godebug = none := by kernel_rfl
theorem laidOut : laidOutB Try.prog = true := by kernel_rfl
theorem eta25 (x : S25) : (⟨x.f0, x.f1, x.f2, x.f3, x.f4⟩ : S25) = x := by cases x; rfl
theorem B25n_le : ∀ {a b : Nat}, a ≤ b → ∀ x, B25n a x → B25n b x := by
  intro a
  induction a with
  | zero => intro b hb x h; exact h.elim
  | succ a ih =>
    intro b hb x h
    obtain ⟨m', rfl⟩ : ∃ m', b = m' + 1 := ⟨b - 1, by omega⟩
    obtain ⟨h0_, h1_, h2_, h3_, ⟨hl_, ha_⟩⟩ := h
    exact ⟨h0_, h1_, h2_, h3_, ⟨hl_, fun y hy => ih (show a ≤ m' by omega) y (ha_ y hy)⟩⟩
theorem opens25 {H : Type} {enc : TypeId × Value → H} {w : World} {base : Nat} {spare : Nat → Bool} {held : Bool} : ∀ n, Opens enc Try.prog w base spare held n k25 (B25n n) 25 := by
  intro n
  induction n using Nat.strongRecOn with
  | _ n ih =>
  intro cs x h
  obtain ⟨xs, m, rfl, _, hl, hlen, hf⟩ := DataW.trod_struct Try.underlying25 h
  have hl' : cs.length = 5 := hl.trans (by kernel_rfl)
  have hlen' : xs.length = 5 := hlen
  obtain ⟨c0, c1, c2, c3, c4, rfl⟩ := list5 hl'
  have e0 := (hf 0 _ rfl).trans (List.getElem?_eq_getElem (show 0 < xs.length by omega))
  have z0 : Try.prog.cellsOf 3 = 1 := by kernel_rfl
  have e0' : DataW.trod enc Try.prog w base spare held m 3 ((([c0, c1, c2, c3, c4] : List Value).drop 0).take (Try.prog.cellsOf 3)) = _ := e0
  rw [z0] at e0'
  have e1 := (hf 1 _ rfl).trans (List.getElem?_eq_getElem (show 1 < xs.length by omega))
  have z1 : Try.prog.cellsOf 3 = 1 := by kernel_rfl
  have e1' : DataW.trod enc Try.prog w base spare held m 3 ((([c0, c1, c2, c3, c4] : List Value).drop 1).take (Try.prog.cellsOf 3)) = _ := e1
  rw [z1] at e1'
  have e2 := (hf 2 _ rfl).trans (List.getElem?_eq_getElem (show 2 < xs.length by omega))
  have z2 : Try.prog.cellsOf 3 = 1 := by kernel_rfl
  have e2' : DataW.trod enc Try.prog w base spare held m 3 ((([c0, c1, c2, c3, c4] : List Value).drop 2).take (Try.prog.cellsOf 3)) = _ := e2
  rw [z2] at e2'
  have e3 := (hf 3 _ rfl).trans (List.getElem?_eq_getElem (show 3 < xs.length by omega))
  have z3 : Try.prog.cellsOf 3 = 1 := by kernel_rfl
  have e3' : DataW.trod enc Try.prog w base spare held m 3 ((([c0, c1, c2, c3, c4] : List Value).drop 3).take (Try.prog.cellsOf 3)) = _ := e3
  rw [z3] at e3'
  have e4 := (hf 4 _ rfl).trans (List.getElem?_eq_getElem (show 4 < xs.length by omega))
  have z4 : Try.prog.cellsOf 23 = 1 := by kernel_rfl
  have e4' : DataW.trod enc Try.prog w base spare held m 23 ((([c0, c1, c2, c3, c4] : List Value).drop 4).take (Try.prog.cellsOf 23)) = _ := e4
  rw [z4] at e4'
  obtain ⟨a0, K0, b0⟩ := (opens_int Try.underlying3 : Opens enc Try.prog w base spare held m (Kd.int .i64) (fun a => (Lit.int .i64 a).wf = true) 3) _ _ e0'
  have E0 : [c0] = [.int .i64 a0] := K0
  replace E0 := (List.cons.inj E0).1
  obtain rfl := E0
  obtain ⟨a1, K1, b1⟩ := (opens_int Try.underlying3 : Opens enc Try.prog w base spare held m (Kd.int .i64) (fun a => (Lit.int .i64 a).wf = true) 3) _ _ e1'
  have E1 : [c1] = [.int .i64 a1] := K1
  replace E1 := (List.cons.inj E1).1
  obtain rfl := E1
  obtain ⟨a2, K2, b2⟩ := (opens_int Try.underlying3 : Opens enc Try.prog w base spare held m (Kd.int .i64) (fun a => (Lit.int .i64 a).wf = true) 3) _ _ e2'
  have E2 : [c2] = [.int .i64 a2] := K2
  replace E2 := (List.cons.inj E2).1
  obtain rfl := E2
  obtain ⟨a3, K3, b3⟩ := (opens_int Try.underlying3 : Opens enc Try.prog w base spare held m (Kd.int .i64) (fun a => (Lit.int .i64 a).wf = true) 3) _ _ e3'
  have E3 : [c3] = [.int .i64 a3] := K3
  replace E3 := (List.cons.inj E3).1
  obtain rfl := E3
  obtain ⟨a4, K4, b4⟩ := (opens_slice Try.underlying23 (by kernel_rfl) (fun m' hm' => opens_mono (B25n_le (show m' ≤ m by omega)) (ih m' (by omega))) : Opens enc Try.prog w base spare held m (Kd.slice 25 k25) (fun l => l.length ≤ maxLen ∧ ∀ x_ ∈ l, B25n m x_) 23) _ _ e4'
  obtain ⟨A4, q4, E4, l4, g4⟩ := (K4 : ∃ A c, [c4] = [.slice A a4.length c] ∧ a4.length ≤ c ∧ k25.C w A a4.length a4)
  replace E4 := (List.cons.inj E4).1
  obtain rfl := E4
  exact ⟨⟨a0, a1, a2, a3, a4⟩, k25_mk w _ l4 g4, b0, b1, b2, b3, b4⟩
set_option maxRecDepth 100000 in
theorem lifted (os : Os) (started : os.Started) (H : Type) (enc : TypeId × Value → H) :
    ReturnsInHanded {} Try.checked os 6 .any (Rows.fnExactFreeLogicSpec.pre6 enc Try.prog Try.f6 Rows.fnExactFreeLogicRow.domain false) (Rows.fnExactFreeLogicSpec.post enc Try.prog Try.f6 false true false false) := by
  refine returnsInHanded_of_change_sized (C := Try.checked) own started (by kernel_rfl) Try.func6
    (ChangeSpec.witness6 (enc := enc) (C := Try.checked) false ⟨#[], #[.agg #[.int .i64 0, .int .i64 0, .int .i64 0, .int .i64 0, .slice none 0 0]], []⟩ 8 (by kernel_rfl) (by kernel_rfl) (by kernel_rfl) (by kernel_rfl)) ?_
  intro W base args ds gs before hval0 hW hcnd hsz0 _
  have hval : ∀ (j : Nat) t v, Try.f6.params[j]? = some t → args[j]? = some v → Value.okWide Try.prog W .any base t v := hval0
  have hW' := hW
  obtain ⟨p, q, hA0, hV, rfl, hfz, hnd⟩ := hW
  have hA : DataW.TrodAll enc Try.prog W 0 (fun _ => true) true Try.f6.params.toList args.toList ds p := hA0
  rw [Try.params6] at hA hval
  obtain ⟨v0, vs0, d0, ds0, p0, q0, hargs, rfl, rfl, h0, r0⟩ := trodAll_cons hA
  obtain ⟨rfl, rfl, rfl⟩ := trodAll_nil r0
  obtain rfl : args = #[v0] := by cases args; simp_all
  obtain ⟨rfl, rfl⟩ := trodVars_none hV
  have k0 := h0
  have lt0 : ∀ x ∈ p0, x.block < W.heap.size := by obtain ⟨m, hm⟩ := k0; exact DataW.trod_lt m _ _ _ hm
  obtain ⟨f0, hf0⟩ := h0
  obtain ⟨cs0, rfl, _⟩ := okWide_struct Try.underlying25 (hval 0 25 v0 rfl rfl)
  obtain ⟨x0, K0, b0⟩ := opens25 f0 _ _ hf0
  obtain ⟨A0_4, c0_4, E0, lc0_4, g0_4⟩ := k25_open K0
  obtain rfl : cs0 = #[.int .i64 x0.f0, .int .i64 x0.f1, .int .i64 x0.f2, .int .i64 x0.f3, .slice A0_4 (x0.f4).length c0_4] := by cases cs0; simp_all [Value.cells]
  clear E0
  obtain ⟨k, h⟩ := Pure.FnExactFreeLogic (x0.f0) (x0.f1) (x0.f2) (x0.f3) (x0.f4) (by rw [eta25]; exact ⟨f0, b0⟩)
  refine (laws_FnExactFreeLogic.calls k (x0.f0) (x0.f1) (x0.f2) (x0.f3) A0_4 c0_4 (x0.f4) true W g0_4 lc0_4 ⟨rfl⟩ h).mono fun e W' he => ?_
  obtain ⟨rfl, bel0⟩ := he
  have bel : Below W.heap.size W W' := bel0
  exact ⟨_, rfl, _, _, _, [], _, [], hW', trodAll_mk1 (shut_bool Try.underlying4 _), (trodAll_cons_mk (Below.trod laidOut (by kernel_rfl) (of_decide_eq_true (by kernel_rfl)) k0 bel lt0) trodAll_mk0), rfl, bel.frame _, fun h => by cases h⟩
theorem over : Rows.fnExactFreeLogicRow.holds Try.pinned (OpenSpec.ofChange Rows.fnExactFreeLogicSpec) :=
  OpenClaim.holds_of_wide 6 Try.f6 rfl rfl rfl rfl rfl rfl rfl ⟨rfl, rfl, rfl, rfl, rfl⟩ rfl rfl rfl rfl rfl (by kernel_rfl) Try.func6 (by kernel_rfl)
    (of_decide_eq_true (by kernel_rfl)) (by unfold Func.isWrapper; first | (rw [if_pos (by decide +kernel)]; kernel_rfl) | (rw [if_neg (by decide +kernel)]; exact ⟨rfl, rfl⟩))
    (fun os started H enc _ => lifted os started H enc)
theorem proved : Rows.FnExactFreeLogicSaid := over
#print axioms proved
end Go.Proofs.Ytoljagpjejpmpaa.fnExactFreeLogic
namespace Go.Proofs.Ytoljagpjejpmpaa
/-- The row, under a short name, for the claim. -/
theorem fnExactFreeLogic_holds : Rows.FnExactFreeLogicSaid := fnExactFreeLogic.proved
end Go.Proofs.Ytoljagpjejpmpaa
