/-
  The statement laws.FnExactIsStmt of the given program: for every argument of its kinds the law answers true, and each argument reads behind the call as before; no further condition.
-/
import Derived.Test.YtfmepkfigdobaaaRows
import Derived.Test.YtfmepkfigdobaaaPFnExactIsStmtx4
import Derived.Test.YtfmepkfigdobaaaPureFnExactIsStmt
import Derived.Test.YtfmepkfigdobaaaXOpen
import Derived.WalkKit
import Derived.ProofKit
import Derived.OpenShut
import Derived.ShutString
import Derived.ChangeOld
import Derived.Below
import Derived.SizedLaws
namespace Go.Proofs.Ytfmepkfigdobaaa.fnExactIsStmt
open Go.ChangeShapes Go.WideShapes Go.ChangeAt Go.RowKit
open Go.ChangeMaps (open_string shut_string)
open Go.Proofs.Ytfmepkfigdobaaa.PFnExactIsStmt Go.Proofs.YtfmepkfigdobaaaW.PrintWords Go.Proofs.YtfmepkfigdobaaaX
set_option linter.unusedVariables false
theorem own : ownKnob Try.prog.godebug = none := by kernel_rfl
theorem laidOut : laidOutB Try.prog = true := by kernel_rfl
theorem opens66 {H : Type} {enc : TypeId × Value → H} {w : World} {base : Nat} {spare : Nat → Bool} {held : Bool} : ∀ n, Opens enc Try.prog w base spare held n k66 B66 66 := by
  intro n
  intro cs x h
  obtain ⟨xs, m, rfl, _, hl, hlen, hf⟩ := DataW.trod_struct Try.underlying66 h
  have hl' : cs.length = 3 := hl.trans (by kernel_rfl)
  have hlen' : xs.length = 3 := hlen
  obtain ⟨c0, c1, c2, rfl⟩ := list3 hl'
  have e0 := (hf 0 _ rfl).trans (List.getElem?_eq_getElem (show 0 < xs.length by omega))
  have z0 : Try.prog.cellsOf 3 = 1 := by kernel_rfl
  have e0' : DataW.trod enc Try.prog w base spare held m 3 ((([c0, c1, c2] : List Value).drop 0).take (Try.prog.cellsOf 3)) = _ := e0
  rw [z0] at e0'
  have e1 := (hf 1 _ rfl).trans (List.getElem?_eq_getElem (show 1 < xs.length by omega))
  have z1 : Try.prog.cellsOf 9 = 1 := by kernel_rfl
  have e1' : DataW.trod enc Try.prog w base spare held m 9 ((([c0, c1, c2] : List Value).drop 1).take (Try.prog.cellsOf 9)) = _ := e1
  rw [z1] at e1'
  have e2 := (hf 2 _ rfl).trans (List.getElem?_eq_getElem (show 2 < xs.length by omega))
  have z2 : Try.prog.cellsOf 9 = 1 := by kernel_rfl
  have e2' : DataW.trod enc Try.prog w base spare held m 9 ((([c0, c1, c2] : List Value).drop 2).take (Try.prog.cellsOf 9)) = _ := e2
  rw [z2] at e2'
  obtain ⟨a0, K0, b0⟩ := (opens_int Try.underlying3 : Opens enc Try.prog w base spare held m (Kd.int .i64) (fun a => (Lit.int .i64 a).wf = true) 3) _ _ e0'
  have E0 : [c0] = [.int .i64 a0] := K0
  replace E0 := (List.cons.inj E0).1
  obtain rfl := E0
  obtain ⟨a1, K1, b1⟩ := (opens_string Try.underlying9 : Opens enc Try.prog w base spare held m Kd.string (fun a => a.size ≤ maxLen) 9) _ _ e1'
  have E1 : [c1] = [.string a1] := K1
  replace E1 := (List.cons.inj E1).1
  obtain rfl := E1
  obtain ⟨a2, K2, b2⟩ := (opens_string Try.underlying9 : Opens enc Try.prog w base spare held m Kd.string (fun a => a.size ≤ maxLen) 9) _ _ e2'
  have E2 : [c2] = [.string a2] := K2
  replace E2 := (List.cons.inj E2).1
  obtain rfl := E2
  exact ⟨⟨a0, a1, a2⟩, k66_mk w _ , b0, b1, b2⟩
set_option maxRecDepth 100000 in
theorem lifted (os : Os) (started : os.Started) (H : Type) (enc : TypeId × Value → H) :
    ReturnsInHanded {} Try.checked os 7 .any (Rows.fnExactIsStmtSpec.pre6 enc Try.prog Try.f7 Rows.fnExactIsStmtRow.domain false) (Rows.fnExactIsStmtSpec.post enc Try.prog Try.f7 false true false false) := by
  refine returnsInHanded_of_change_sized (C := Try.checked) own started (by kernel_rfl) Try.func7
    (ChangeSpec.witness6 (enc := enc) (C := Try.checked) false ⟨#[], #[.slice none 0 0, .agg #[.int .i64 0, .string ByteArray.empty, .string ByteArray.empty]], []⟩ 8 (by kernel_rfl) (by kernel_rfl) (by kernel_rfl) (by kernel_rfl)) ?_
  intro W base args ds gs before hval0 hW hcnd hsz0 _
  have hval : ∀ (j : Nat) t v, Try.f7.params[j]? = some t → args[j]? = some v → Value.okWide Try.prog W .any base t v := hval0
  have hW' := hW
  obtain ⟨p, q, hA0, hV, rfl, hfz, hnd⟩ := hW
  have hA : DataW.TrodAll enc Try.prog W 0 (fun _ => true) true Try.f7.params.toList args.toList ds p := hA0
  rw [Try.params7] at hA hval
  obtain ⟨v0, vs0, d0, ds0, p0, q0, hargs, rfl, rfl, h0, r0⟩ := trodAll_cons hA
  obtain ⟨v1, vs1, d1, ds1, p1, q1, rfl, rfl, rfl, h1, r1⟩ := trodAll_cons r0
  obtain ⟨rfl, rfl, rfl⟩ := trodAll_nil r1
  obtain rfl : args = #[v0, v1] := by cases args; simp_all
  obtain ⟨rfl, rfl⟩ := trodVars_none hV
  have k0 := h0
  have lt0 : ∀ x ∈ p0, x.block < W.heap.size := by obtain ⟨m, hm⟩ := k0; exact DataW.trod_lt m _ _ _ hm
  obtain ⟨f0, hf0⟩ := h0
  obtain ⟨x0, len0, cap0, rfl⟩ := okWide_slice Try.underlying54 (hval 0 54 v0 rfl rfl)
  obtain ⟨l0, K0, b0⟩ := (opens_slice Try.underlying54 (by kernel_rfl) (fun _ _ => opens_string Try.underlying9) : Opens enc Try.prog W 0 (fun _ => true) true f0 (Kd.slice 9 Kd.string) (fun a => (a.length ≤ maxLen ∧ ∀ x_ ∈ a, x_.size ≤ maxLen)) 54) _ _ hf0
  obtain ⟨A0, c0, E0, lc0, g0⟩ := (K0 : ∃ A c, [Value.slice x0 len0 cap0] = [.slice A l0.length c] ∧ l0.length ≤ c ∧ Kd.string.C W A l0.length l0)
  replace E0 := (List.cons.inj E0).1
  rw [E0] at hW' k0 ⊢
  clear E0
  have k1 := h1
  have lt1 : ∀ x ∈ p1, x.block < W.heap.size := by obtain ⟨m, hm⟩ := k1; exact DataW.trod_lt m _ _ _ hm
  obtain ⟨f1, hf1⟩ := h1
  obtain ⟨cs1, rfl, _⟩ := okWide_struct Try.underlying66 (hval 1 66 v1 rfl rfl)
  obtain ⟨x1, K1, b1⟩ := opens66 f1 _ _ hf1
  have E1 := k66_open K1
  obtain rfl : cs1 = #[.int .i64 x1.f0, .string x1.f1, .string x1.f2] := by cases cs1; simp_all [Value.cells]
  clear E1
  obtain ⟨k, h⟩ := Pure.FnExactIsStmt l0 (x1.f0) (x1.f1) (x1.f2) b0 b1
  refine (laws_FnExactIsStmt.calls k A0 c0 l0 (x1.f0) (x1.f1) (x1.f2) true W g0 lc0 ⟨rfl⟩ h).mono fun e W' he => ?_
  obtain ⟨rfl, bel0⟩ := he
  have bel : Below W.heap.size W W' := bel0
  exact ⟨_, rfl, _, _, _, [], _, [], hW', trodAll_mk1 (shut_bool Try.underlying4 _), (trodAll_cons_mk (Below.trod laidOut (by kernel_rfl) (of_decide_eq_true (by kernel_rfl)) k0 bel lt0) (trodAll_cons_mk (Below.trod laidOut (by kernel_rfl) (of_decide_eq_true (by kernel_rfl)) k1 bel lt1) trodAll_mk0)), rfl, bel.frame _, fun h => by cases h⟩
theorem over : Rows.fnExactIsStmtRow.holds Try.pinned (OpenSpec.ofChange Rows.fnExactIsStmtSpec) :=
  OpenClaim.holds_of_wide 7 Try.f7 rfl rfl rfl rfl rfl rfl rfl ⟨rfl, rfl, rfl, rfl, rfl⟩ rfl rfl rfl rfl rfl (by kernel_rfl) Try.func7 (by kernel_rfl)
    (of_decide_eq_true (by kernel_rfl)) (by unfold Func.isWrapper; first | (rw [if_pos (by decide +kernel)]; kernel_rfl) | (rw [if_neg (by decide +kernel)]; exact ⟨rfl, rfl⟩))
    (fun os started H enc _ => lifted os started H enc)
theorem proved : Rows.FnExactIsStmtSaid := over
#print axioms proved
end Go.Proofs.Ytfmepkfigdobaaa.fnExactIsStmt
namespace Go.Proofs.Ytfmepkfigdobaaa
/-- The row, under a short name, for the claim. -/
theorem fnExactIsStmt_holds : Rows.FnExactIsStmtSaid := fnExactIsStmt.proved
end Go.Proofs.Ytfmepkfigdobaaa
