/-
  The statement laws.FnExactFormulaText of the given program: for every argument of its kinds the law answers true, and each argument reads behind the call as before; no further condition.
-/
import Derived.Test.YtoljagpjejpmpaaRows
import Derived.Test.YtoljagpjejpmpaaPFnExactFormulaTextx10
import Derived.Test.YtoljagpjejpmpaaPureFnExactFormulaText
import Derived.Test.YtoljagpjejpmpaaXOpen
import Derived.WalkKit
import Derived.ProofKit
import Derived.OpenShut
import Derived.ShutString
import Derived.ChangeOld
import Derived.Below
import Derived.SizedLaws
namespace Go.Proofs.Ytoljagpjejpmpaa.fnExactFormulaText
open Go.ChangeShapes Go.WideShapes Go.ChangeAt Go.RowKit
open Go.ChangeMaps (open_string shut_string)
open Go.Proofs.Ytoljagpjejpmpaa.PFnExactFormulaText Go.Proofs.YtoljagpjejpmpaaW.PrintWords Go.Proofs.YtoljagpjejpmpaaX
set_option linter.unusedVariables false
theorem own : ownKnob Try.prog.godebug = none := by kernel_rfl
theorem laidOut : laidOutB Try.prog = true := by kernel_rfl
theorem eta25 (x : S25) : (⟨x.f0, x.f1, x.f2, x.f3, x.f4⟩ : S25) = x := by cases x; rfl
theorem B25n_le : ∀ {a b : Nat}, a ≤ b → ∀ x, B25n a x → B25n b x := by
  intro a
  induction a with
  | zero => intro b hb x h; exact h.elim
  | succ a ih =>
    intro b hb x h
    obtain ⟨m', rfl⟩ : ∃ m', b = m' + 1 := ⟨b - 1, by omega⟩
    obtain ⟨h0_, h1_, h2_, h3_, ⟨hl_, ha_⟩⟩ := h
    exact ⟨h0_, h1_, h2_, h3_, ⟨hl_, fun y hy => ih (show a ≤ m' by omega) y (ha_ y hy)⟩⟩
theorem opens25 {H : Type} {enc : TypeId × Value → H} {w : World} {base : Nat} {spare : Nat → Bool} {held : Bool} : ∀ n, Opens enc Try.prog w base spare held n k25 (B25n n) 25 := by
  intro n
  induction n using Nat.strongRecOn with
  | _ n ih =>
  intro cs x h
  obtain ⟨xs, m, rfl, _, hl, hlen, hf⟩ := DataW.trod_struct Try.underlying25 h
  have hl' : cs.length = 5 := hl.trans (by kernel_rfl)
  have hlen' : xs.length = 5 := hlen
  obtain ⟨c0, c1, c2, c3, c4, rfl⟩ := list5 hl'
  have e0 := (hf 0 _ rfl).trans (List.getElem?_eq_getElem (show 0 < xs.length by omega))
  have z0 : Try.prog.cellsOf 3 = 1 := by kernel_rfl
  have e0' : DataW.trod enc Try.prog w base spare held m 3 ((([c0, c1, c2, c3, c4] : List Value).drop 0).take (Try.prog.cellsOf 3)) = _ := e0
  rw [z0] at e0'
  have e1 := (hf 1 _ rfl).trans (List.getElem?_eq_getElem (show 1 < xs.length by omega))
  have z1 : Try.prog.cellsOf 3 = 1 := by kernel_rfl
  have e1' : DataW.trod enc Try.prog w base spare held m 3 ((([c0, c1, c2, c3, c4] : List Value).drop 1).take (Try.prog.cellsOf 3)) = _ := e1
  rw [z1] at e1'
  have e2 := (hf 2 _ rfl).trans (List.getElem?_eq_getElem (show 2 < xs.length by omega))
  have z2 : Try.prog.cellsOf 3 = 1 := by kernel_rfl
  have e2' : DataW.trod enc Try.prog w base spare held m 3 ((([c0, c1, c2, c3, c4] : List Value).drop 2).take (Try.prog.cellsOf 3)) = _ := e2
  rw [z2] at e2'
  have e3 := (hf 3 _ rfl).trans (List.getElem?_eq_getElem (show 3 < xs.length by omega))
  have z3 : Try.prog.cellsOf 3 = 1 := by kernel_rfl
  have e3' : DataW.trod enc Try.prog w base spare held m 3 ((([c0, c1, c2, c3, c4] : List Value).drop 3).take (Try.prog.cellsOf 3)) = _ := e3
  rw [z3] at e3'
  have e4 := (hf 4 _ rfl).trans (List.getElem?_eq_getElem (show 4 < xs.length by omega))
  have z4 : Try.prog.cellsOf 23 = 1 := by kernel_rfl
  have e4' : DataW.trod enc Try.prog w base spare held m 23 ((([c0, c1, c2, c3, c4] : List Value).drop 4).take (Try.prog.cellsOf 23)) = _ := e4
  rw [z4] at e4'
  obtain ⟨a0, K0, b0⟩ := (opens_int Try.underlying3 : Opens enc Try.prog w base spare held m (Kd.int .i64) (fun a => (Lit.int .i64 a).wf = true) 3) _ _ e0'
  have E0 : [c0] = [.int .i64 a0] := K0
  replace E0 := (List.cons.inj E0).1
  obtain rfl := E0
  obtain ⟨a1, K1, b1⟩ := (opens_int Try.underlying3 : Opens enc Try.prog w base spare held m (Kd.int .i64) (fun a => (Lit.int .i64 a).wf = true) 3) _ _ e1'
  have E1 : [c1] = [.int .i64 a1] := K1
  replace E1 := (List.cons.inj E1).1
  obtain rfl := E1
  obtain ⟨a2, K2, b2⟩ := (opens_int Try.underlying3 : Opens enc Try.prog w base spare held m (Kd.int .i64) (fun a => (Lit.int .i64 a).wf = true) 3) _ _ e2'
  have E2 : [c2] = [.int .i64 a2] := K2
  replace E2 := (List.cons.inj E2).1
  obtain rfl := E2
  obtain ⟨a3, K3, b3⟩ := (opens_int Try.underlying3 : Opens enc Try.prog w base spare held m (Kd.int .i64) (fun a => (Lit.int .i64 a).wf = true) 3) _ _ e3'
  have E3 : [c3] = [.int .i64 a3] := K3
  replace E3 := (List.cons.inj E3).1
  obtain rfl := E3
  obtain ⟨a4, K4, b4⟩ := (opens_slice Try.underlying23 (by kernel_rfl) (fun m' hm' => opens_mono (B25n_le (show m' ≤ m by omega)) (ih m' (by omega))) : Opens enc Try.prog w base spare held m (Kd.slice 25 k25) (fun l => l.length ≤ maxLen ∧ ∀ x_ ∈ l, B25n m x_) 23) _ _ e4'
  obtain ⟨A4, q4, E4, l4, g4⟩ := (K4 : ∃ A c, [c4] = [.slice A a4.length c] ∧ a4.length ≤ c ∧ k25.C w A a4.length a4)
  replace E4 := (List.cons.inj E4).1
  obtain rfl := E4
  exact ⟨⟨a0, a1, a2, a3, a4⟩, k25_mk w _ l4 g4, b0, b1, b2, b3, b4⟩
set_option maxRecDepth 100000 in
theorem lifted (os : Os) (started : os.Started) (H : Type) (enc : TypeId × Value → H) :
    ReturnsInHanded {} Try.checked os 3 .any (Rows.fnExactFormulaTextSpec.pre6 enc Try.prog Try.f3 Rows.fnExactFormulaTextRow.domain false) (Rows.fnExactFormulaTextSpec.post enc Try.prog Try.f3 false true false false) := by
  refine returnsInHanded_of_change_sized (C := Try.checked) own started (by kernel_rfl) Try.func3
    (ChangeSpec.witness6 (enc := enc) (C := Try.checked) false ⟨#[], #[.slice none 0 0, .agg #[.int .i64 0, .int .i64 0, .int .i64 0, .int .i64 0, .slice none 0 0]], []⟩ 8 (by kernel_rfl) (by kernel_rfl) (by kernel_rfl) (by kernel_rfl)) ?_
  intro W base args ds gs before hval0 hW hcnd hsz0 _
  have hval : ∀ (j : Nat) t v, Try.f3.params[j]? = some t → args[j]? = some v → Value.okWide Try.prog W .any base t v := hval0
  have hW' := hW
  obtain ⟨p, q, hA0, hV, rfl, hfz, hnd⟩ := hW
  have hA : DataW.TrodAll enc Try.prog W 0 (fun _ => true) true Try.f3.params.toList args.toList ds p := hA0
  rw [Try.params3] at hA hval
  obtain ⟨v0, vs0, d0, ds0, p0, q0, hargs, rfl, rfl, h0, r0⟩ := trodAll_cons hA
  obtain ⟨v1, vs1, d1, ds1, p1, q1, rfl, rfl, rfl, h1, r1⟩ := trodAll_cons r0
  obtain ⟨rfl, rfl, rfl⟩ := trodAll_nil r1
  obtain rfl : args = #[v0, v1] := by cases args; simp_all
  obtain ⟨rfl, rfl⟩ := trodVars_none hV
  have k0 := h0
  have lt0 : ∀ x ∈ p0, x.block < W.heap.size := by obtain ⟨m, hm⟩ := k0; exact DataW.trod_lt m _ _ _ hm
  obtain ⟨f0, hf0⟩ := h0
  obtain ⟨x0, len0, cap0, rfl⟩ := okWide_slice Try.underlying22 (hval 0 22 v0 rfl rfl)
  obtain ⟨l0, K0, b0⟩ := (opens_slice Try.underlying22 (by kernel_rfl) (fun _ _ => opens_string Try.underlying9) : Opens enc Try.prog W 0 (fun _ => true) true f0 (Kd.slice 9 Kd.string) (fun a => (a.length ≤ maxLen ∧ ∀ x_ ∈ a, x_.size ≤ maxLen)) 22) _ _ hf0
  obtain ⟨A0, c0, E0, lc0, g0⟩ := (K0 : ∃ A c, [Value.slice x0 len0 cap0] = [.slice A l0.length c] ∧ l0.length ≤ c ∧ Kd.string.C W A l0.length l0)
  replace E0 := (List.cons.inj E0).1
  rw [E0] at hW' k0 ⊢
  clear E0
  have k1 := h1
  have lt1 : ∀ x ∈ p1, x.block < W.heap.size := by obtain ⟨m, hm⟩ := k1; exact DataW.trod_lt m _ _ _ hm
  obtain ⟨f1, hf1⟩ := h1
  obtain ⟨cs1, rfl, _⟩ := okWide_struct Try.underlying25 (hval 1 25 v1 rfl rfl)
  obtain ⟨x1, K1, b1⟩ := opens25 f1 _ _ hf1
  obtain ⟨A1_4, c1_4, E1, lc1_4, g1_4⟩ := k25_open K1
  obtain rfl : cs1 = #[.int .i64 x1.f0, .int .i64 x1.f1, .int .i64 x1.f2, .int .i64 x1.f3, .slice A1_4 (x1.f4).length c1_4] := by cases cs1; simp_all [Value.cells]
  clear E1
  obtain ⟨k, h⟩ := Pure.FnExactFormulaText l0 (x1.f0) (x1.f1) (x1.f2) (x1.f3) (x1.f4) b0 (by rw [eta25]; exact ⟨f1, b1⟩)
  refine (laws_FnExactFormulaText.calls k A0 c0 l0 (x1.f0) (x1.f1) (x1.f2) (x1.f3) A1_4 c1_4 (x1.f4) true W g0 lc0 g1_4 lc1_4 ⟨rfl⟩ h).mono fun e W' he => ?_
  obtain ⟨rfl, bel0⟩ := he
  have bel : Below W.heap.size W W' := bel0
  exact ⟨_, rfl, _, _, _, [], _, [], hW', trodAll_mk1 (shut_bool Try.underlying4 _), (trodAll_cons_mk (Below.trod laidOut (by kernel_rfl) (of_decide_eq_true (by kernel_rfl)) k0 bel lt0) (trodAll_cons_mk (Below.trod laidOut (by kernel_rfl) (of_decide_eq_true (by kernel_rfl)) k1 bel lt1) trodAll_mk0)), rfl, bel.frame _, fun h => by cases h⟩
theorem over : Rows.fnExactFormulaTextRow.holds Try.pinned (OpenSpec.ofChange Rows.fnExactFormulaTextSpec) :=
  OpenClaim.holds_of_wide 3 Try.f3 rfl rfl rfl rfl rfl rfl rfl ⟨rfl, rfl, rfl, rfl, rfl⟩ rfl rfl rfl rfl rfl (by kernel_rfl) Try.func3 (by kernel_rfl)
    (of_decide_eq_true (by kernel_rfl)) (by unfold Func.isWrapper; first | (rw [if_pos (by decide +kernel)]; kernel_rfl) | (rw [if_neg (by decide +kernel)]; exact ⟨rfl, rfl⟩))
    (fun os started H enc _ => lifted os started H enc)
theorem proved : Rows.FnExactFormulaTextSaid := over
#print axioms proved
end Go.Proofs.Ytoljagpjejpmpaa.fnExactFormulaText
namespace Go.Proofs.Ytoljagpjejpmpaa
/-- The row, under a short name, for the claim. -/
theorem fnExactFormulaText_holds : Rows.FnExactFormulaTextSaid := fnExactFormulaText.proved
end Go.Proofs.Ytoljagpjejpmpaa
