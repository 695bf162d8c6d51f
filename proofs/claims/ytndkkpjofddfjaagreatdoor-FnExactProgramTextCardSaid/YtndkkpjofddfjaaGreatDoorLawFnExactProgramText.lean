/-
  The statement laws.FnExactProgramText of the given program: for every argument of its kinds the law answers true, and each argument reads behind the call as before; no further condition.
-/
import Derived.Test.YtndkkpjofddfjaaGreatDoorRows
import Derived.Test.YtndkkpjofddfjaaGreatDoorPFnExactProgramTextx9
import Derived.Test.YtndkkpjofddfjaaGreatDoorPureFnExactProgramText
import Derived.Test.YtndkkpjofddfjaaGreatDoorXOpen
import Derived.WalkKit
import Derived.ProofKit
import Derived.OpenShut
import Derived.ShutString
import Derived.ChangeOld
import Derived.Below
import Derived.SizedLaws
import Derived.Test.YtndkkpjofddfjaaGreatDoorCards
import Derived.Test.YtndkkpjofddfjaaGreatDoorTie
import Derived.Test.YtndkkpjofddfjaaGreatDoorWorldFnExactProgramText
import Derived.LaidMore
import Derived.Lay
import Derived.Stop.Joined
import Derived.Deep.DeepHandedRow
import Derived.SevenTiedAt
import Derived.Lib.LaidTab
namespace Go.Proofs.YtndkkpjofddfjaaGreatDoor.fnExactProgramText
open Go.ChangeShapes Go.WideShapes Go.ChangeAt Go.RowKit
open Go.ChangeMaps (open_string shut_string)
open Go.Proofs.YtndkkpjofddfjaaGreatDoor.PFnExactProgramText Go.Proofs.YtndkkpjofddfjaaGreatDoorW.PrintWords Go.Proofs.YtndkkpjofddfjaaGreatDoorX
set_option linter.unusedVariables false
theorem own : ownKnob Tryz.prog.godebug = none := by kernel_rfl
theorem laidOut : laidOutB Tryz.prog = true := by kernel_rfl
theorem opens86 {H : Type} {enc : TypeId × Value → H} {w : World} {base : Nat} {spare : Nat → Bool} {held : Bool} : ∀ n, Opens enc Tryz.prog w base spare held n k86 B86 86 := by
  intro n
  intro cs x h
  obtain ⟨xs, m, rfl, _, hl, hlen, hf⟩ := DataW.trod_struct Tryz.underlying86 h
  have hl' : cs.length = 3 := hl.trans (by kernel_rfl)
  have hlen' : xs.length = 3 := hlen
  obtain ⟨c0, c1, c2, rfl⟩ := list3 hl'
  have e0 := (hf 0 _ rfl).trans (List.getElem?_eq_getElem (show 0 < xs.length by omega))
  have z0 : Tryz.prog.cellsOf 3 = 1 := by kernel_rfl
  have e0' : DataW.trod enc Tryz.prog w base spare held m 3 ((([c0, c1, c2] : List Value).drop 0).take (Tryz.prog.cellsOf 3)) = _ := e0
  rw [z0] at e0'
  have e1 := (hf 1 _ rfl).trans (List.getElem?_eq_getElem (show 1 < xs.length by omega))
  have z1 : Tryz.prog.cellsOf 9 = 1 := by kernel_rfl
  have e1' : DataW.trod enc Tryz.prog w base spare held m 9 ((([c0, c1, c2] : List Value).drop 1).take (Tryz.prog.cellsOf 9)) = _ := e1
  rw [z1] at e1'
  have e2 := (hf 2 _ rfl).trans (List.getElem?_eq_getElem (show 2 < xs.length by omega))
  have z2 : Tryz.prog.cellsOf 9 = 1 := by kernel_rfl
  have e2' : DataW.trod enc Tryz.prog w base spare held m 9 ((([c0, c1, c2] : List Value).drop 2).take (Tryz.prog.cellsOf 9)) = _ := e2
  rw [z2] at e2'
  obtain ⟨a0, K0, b0⟩ := (opens_int Tryz.underlying3 : Opens enc Tryz.prog w base spare held m (Kd.int .i64) (fun a => (Lit.int .i64 a).wf = true) 3) _ _ e0'
  have E0 : [c0] = [.int .i64 a0] := K0
  replace E0 := (List.cons.inj E0).1
  obtain rfl := E0
  obtain ⟨a1, K1, b1⟩ := (opens_string Tryz.underlying9 : Opens enc Tryz.prog w base spare held m Kd.string (fun a => a.size ≤ maxLen) 9) _ _ e1'
  have E1 : [c1] = [.string a1] := K1
  replace E1 := (List.cons.inj E1).1
  obtain rfl := E1
  obtain ⟨a2, K2, b2⟩ := (opens_string Tryz.underlying9 : Opens enc Tryz.prog w base spare held m Kd.string (fun a => a.size ≤ maxLen) 9) _ _ e2'
  have E2 : [c2] = [.string a2] := K2
  replace E2 := (List.cons.inj E2).1
  obtain rfl := E2
  exact ⟨⟨a0, a1, a2⟩, k86_mk w _ , b0, b1, b2⟩
theorem opens88 {H : Type} {enc : TypeId × Value → H} {w : World} {base : Nat} {spare : Nat → Bool} {held : Bool} : ∀ n, Opens enc Tryz.prog w base spare held n k88 B88 88 := by
  intro n
  intro cs x h
  obtain ⟨xs, m, rfl, _, hl, hlen, hf⟩ := DataW.trod_struct Tryz.underlying88 h
  have hl' : cs.length = 5 := hl.trans (by kernel_rfl)
  have hlen' : xs.length = 3 := hlen
  obtain ⟨c0, c1, c2, c3, c4, rfl⟩ := list5 hl'
  have e0 := (hf 0 _ rfl).trans (List.getElem?_eq_getElem (show 0 < xs.length by omega))
  have z0 : Tryz.prog.cellsOf 3 = 1 := by kernel_rfl
  have e0' : DataW.trod enc Tryz.prog w base spare held m 3 ((([c0, c1, c2, c3, c4] : List Value).drop 0).take (Tryz.prog.cellsOf 3)) = _ := e0
  rw [z0] at e0'
  have e1 := (hf 1 _ rfl).trans (List.getElem?_eq_getElem (show 1 < xs.length by omega))
  have z1 : Tryz.prog.cellsOf 3 = 1 := by kernel_rfl
  have e1' : DataW.trod enc Tryz.prog w base spare held m 3 ((([c0, c1, c2, c3, c4] : List Value).drop 1).take (Tryz.prog.cellsOf 3)) = _ := e1
  rw [z1] at e1'
  have e2 := (hf 2 _ rfl).trans (List.getElem?_eq_getElem (show 2 < xs.length by omega))
  have z2 : Tryz.prog.cellsOf 86 = 3 := by kernel_rfl
  have e2' : DataW.trod enc Tryz.prog w base spare held m 86 ((([c0, c1, c2, c3, c4] : List Value).drop 2).take (Tryz.prog.cellsOf 86)) = _ := e2
  rw [z2] at e2'
  obtain ⟨a0, K0, b0⟩ := (opens_int Tryz.underlying3 : Opens enc Tryz.prog w base spare held m (Kd.int .i64) (fun a => (Lit.int .i64 a).wf = true) 3) _ _ e0'
  have E0 : [c0] = [.int .i64 a0] := K0
  replace E0 := (List.cons.inj E0).1
  obtain rfl := E0
  obtain ⟨a1, K1, b1⟩ := (opens_int Tryz.underlying3 : Opens enc Tryz.prog w base spare held m (Kd.int .i64) (fun a => (Lit.int .i64 a).wf = true) 3) _ _ e1'
  have E1 : [c1] = [.int .i64 a1] := K1
  replace E1 := (List.cons.inj E1).1
  obtain rfl := E1
  obtain ⟨a2, K2, b2⟩ := (opens86 _ : Opens enc Tryz.prog w base spare held m k86 (fun a => B86 a) 86) _ _ e2'
  replace K2 : k86.K w a2 [c2, c3, c4] := K2
  have E2 := k86_open K2
  simp only [List.cons.injEq, and_true] at E2
  obtain ⟨rfl, rfl, rfl⟩ := E2
  exact ⟨⟨a0, a1, a2⟩, k88_mk w _ , b0, b1, b2⟩
theorem opens25 {H : Type} {enc : TypeId × Value → H} {w : World} {base : Nat} {spare : Nat → Bool} {held : Bool} : ∀ n, Opens enc Tryz.prog w base spare held n k25 B25 25 := by
  intro n
  intro cs x h
  obtain ⟨xs, m, rfl, _, hl, hlen, hf⟩ := DataW.trod_struct Tryz.underlying25 h
  have hl' : cs.length = 3 := hl.trans (by kernel_rfl)
  have hlen' : xs.length = 3 := hlen
  obtain ⟨c0, c1, c2, rfl⟩ := list3 hl'
  have e0 := (hf 0 _ rfl).trans (List.getElem?_eq_getElem (show 0 < xs.length by omega))
  have z0 : Tryz.prog.cellsOf 22 = 1 := by kernel_rfl
  have e0' : DataW.trod enc Tryz.prog w base spare held m 22 ((([c0, c1, c2] : List Value).drop 0).take (Tryz.prog.cellsOf 22)) = _ := e0
  rw [z0] at e0'
  have e1 := (hf 1 _ rfl).trans (List.getElem?_eq_getElem (show 1 < xs.length by omega))
  have z1 : Tryz.prog.cellsOf 3 = 1 := by kernel_rfl
  have e1' : DataW.trod enc Tryz.prog w base spare held m 3 ((([c0, c1, c2] : List Value).drop 1).take (Tryz.prog.cellsOf 3)) = _ := e1
  rw [z1] at e1'
  have e2 := (hf 2 _ rfl).trans (List.getElem?_eq_getElem (show 2 < xs.length by omega))
  have z2 : Tryz.prog.cellsOf 23 = 1 := by kernel_rfl
  have e2' : DataW.trod enc Tryz.prog w base spare held m 23 ((([c0, c1, c2] : List Value).drop 2).take (Tryz.prog.cellsOf 23)) = _ := e2
  rw [z2] at e2'
  obtain ⟨a0, K0, b0⟩ := (opens_slice Tryz.underlying22 (by kernel_rfl) (fun _ _ => opens_string Tryz.underlying9) : Opens enc Tryz.prog w base spare held m (Kd.slice 9 Kd.string) (fun a => (a.length ≤ maxLen ∧ ∀ x_ ∈ a, x_.size ≤ maxLen)) 22) _ _ e0'
  obtain ⟨A0, q0, E0, l0, g0⟩ := (K0 : ∃ A c, [c0] = [.slice A a0.length c] ∧ a0.length ≤ c ∧ Kd.string.C w A a0.length a0)
  replace E0 := (List.cons.inj E0).1
  obtain rfl := E0
  obtain ⟨a1, K1, b1⟩ := (opens_int Tryz.underlying3 : Opens enc Tryz.prog w base spare held m (Kd.int .i64) (fun a => (Lit.int .i64 a).wf = true) 3) _ _ e1'
  have E1 : [c1] = [.int .i64 a1] := K1
  replace E1 := (List.cons.inj E1).1
  obtain rfl := E1
  obtain ⟨a2, K2, b2⟩ := (opens_slice Tryz.underlying23 (by kernel_rfl) (fun _ _ => opens88 _) : Opens enc Tryz.prog w base spare held m (Kd.slice 88 k88) (fun a => (a.length ≤ maxLen ∧ ∀ x_ ∈ a, B88 x_)) 23) _ _ e2'
  obtain ⟨A2, q2, E2, l2, g2⟩ := (K2 : ∃ A c, [c2] = [.slice A a2.length c] ∧ a2.length ≤ c ∧ k88.C w A a2.length a2)
  replace E2 := (List.cons.inj E2).1
  obtain rfl := E2
  exact ⟨⟨a0, a1, a2⟩, k25_mk w _ l0 g0 l2 g2, b0, b1, b2⟩
theorem laid_met (os : Os) : laidMetH Tryz.prog Rows.fnExactProgramTextRow.laid ((World.doorLaid Tryz.prog 400 os).forCall (fun _ _ => 0) ⟨#[], #[Value.agg #[.slice none 0 0, .int .i64 0, .slice none 0 0]], []⟩).memory :=
  laidMetH_of_parts3 (fuel := 8) (laidMet_of_run' 8 (by kernel_rfl) (by kernel_rfl)) (by kernel_rfl) (by kernel_rfl)
set_option maxRecDepth 100000 in
theorem lifted (os : Os) (started : os.Started) (H : Type) (enc : TypeId × Value → H) (F : Stop.Interp) :
    ReturnsInHanded {} Tryz.checked os 3 .any ((OpenSpec.ofChange Rows.fnExactProgramTextSpec).preRow enc Tryz.prog Tryz.f3 Rows.fnExactProgramTextRow.domain false Rows.fnExactProgramTextRow.laid) (((OpenSpec.ofChange Rows.fnExactProgramTextSpec).at F).post enc Tryz.prog Tryz.f3 false true false false) := by
  obtain ⟨x, hx⟩ := Option.isSome_iff_exists.mp (show (DataW.whole enc Tryz.prog ((World.doorLaid Tryz.prog 400 os).forCall (fun _ _ => 0) ⟨#[], #[Value.agg #[.slice none 0 0, .int .i64 0, .slice none 0 0]], []⟩).memory Tryz.f3.params.toList Rows.fnExactProgramTextSpec.vars false #[Value.agg #[.slice none 0 0, .int .i64 0, .slice none 0 0]].toList 8).isSome = true by kernel_rfl)
  refine returnsInHanded_of_row (C := Tryz.checked) (s := OpenSpec.ofChange Rows.fnExactProgramTextSpec) own started (by kernel_rfl) Tryz.func3
    (witness_row_at (enc := enc) (C := Tryz.checked) false (World.doorLaid Tryz.prog 400 os) #[Value.agg #[.slice none 0 0, .int .i64 0, .slice none 0 0]] rfl (by kernel_rfl) (by kernel_rfl) (by kernel_rfl)
      (OpenSpec.preRow_of_cond 8 hx (by kernel_rfl) (fun k hk => by cases hk) (by kernel_rfl) (laid_met os))) ?_
  intro W base args ds gs before hval0 hW _ _ hsz0 hL hsh _
  have hval : ∀ (j : Nat) t v, Tryz.f3.params[j]? = some t → args[j]? = some v → Value.okWide Tryz.prog W .any base t v := hval0
  have hW' := hW
  obtain ⟨p, q, hA0, hV, rfl, hfz, hnd⟩ := hW
  have hA : DataW.TrodAll enc Tryz.prog W 0 (fun _ => true) true Tryz.f3.params.toList args.toList ds p := hA0
  rw [Tryz.params3] at hA hval
  obtain ⟨v0, vs0, d0, ds0, p0, q0, hargs, rfl, rfl, h0, r0⟩ := trodAll_cons hA
  obtain ⟨rfl, rfl, rfl⟩ := trodAll_nil r0
  obtain rfl : args = #[v0] := by cases args; simp_all
  obtain ⟨rfl, rfl⟩ := trodVars_none hV
  have k0 := h0
  have lt0 : ∀ x ∈ p0, x.block < W.heap.size := by obtain ⟨m, hm⟩ := k0; exact DataW.trod_lt m _ _ _ hm
  obtain ⟨f0, hf0⟩ := h0
  obtain ⟨cs0, rfl, _⟩ := okWide_struct Tryz.underlying25 (hval 0 25 v0 rfl rfl)
  obtain ⟨x0, K0, b0⟩ := opens25 f0 _ _ hf0
  obtain ⟨A0_0, c0_0, A0_2, c0_2, E0, lc0_0, g0_0, lc0_2, g0_2⟩ := k25_open K0
  obtain rfl : cs0 = #[.slice A0_0 (x0.f0).length c0_0, .int .i64 x0.f1, .slice A0_2 (x0.f2).length c0_2] := by cases cs0; simp_all [Value.cells]
  clear E0
  obtain ⟨k, h⟩ := Pure.FnExactProgramText (x0.f0) (x0.f1) (x0.f2) b0
  refine (laws_FnExactProgramText.calls k A0_0 c0_0 (x0.f0) (x0.f1) A0_2 c0_2 (x0.f2) true W g0_0 lc0_0 g0_2 lc0_2 (world_FnExactProgramText_LaidI hL hsh) ⟨rfl⟩ h).mono fun e W' he => ?_
  obtain ⟨rfl, bel0⟩ := he
  have bel : Below W.heap.size W W' := bel0
  exact ⟨_, rfl, _, _, _, [], _, [], hW', trodAll_mk1 (shut_bool Tryz.underlying4 _), (trodAll_cons_mk (Below.trod laidOut (by kernel_rfl) (of_decide_eq_true (by kernel_rfl)) k0 bel lt0) trodAll_mk0), rfl, bel.frame _, fun h => by cases h⟩
theorem over : Rows.fnExactProgramTextRow.holds Tryz.pinned (OpenSpec.ofChange Rows.fnExactProgramTextSpec) :=
  OpenClaim.holds_of_cond 3 Tryz.f3 rfl rfl rfl rfl rfl rfl rfl ⟨rfl, rfl, rfl, rfl, rfl⟩ rfl rfl rfl rfl rfl (by kernel_rfl) Tryz.func3 (by kernel_rfl)
    (of_decide_eq_true (by kernel_rfl)) (by unfold Func.isWrapper; first | (rw [if_pos (by decide +kernel)]; kernel_rfl) | (rw [if_neg (by decide +kernel)]; exact ⟨rfl, rfl⟩))
    (fun os started H enc _ F => by rw [OpenClaim.pre_eq_preRow]; exact lifted os started H enc F)
theorem plain (f : FuncId) (fn : Func) (hf : Tryz.pinned.checked.prog.funcNamed "loop.example/g00590/laws.FnExactProgramText" = some f) (hfn : Tryz.pinned.checked.prog.funcs[f]? = some fn) :
    true = Tryz.pinned.checked.prog.looks [] ∧ ∀ (j : Nat) t, fn.params[j]? = some t → Tryz.pinned.checked.prog.wantsStandIn t = false := by
  obtain rfl : f = 3 := Option.some.inj ((show Tryz.prog.funcNamed "loop.example/g00590/laws.FnExactProgramText" = some 3 by kernel_rfl).symm.trans hf) |>.symm
  obtain rfl : fn = Tryz.f3 := (Option.some.inj (Tryz.func3.symm.trans hfn)).symm
  refine ⟨by kernel_rfl, fun j t ht => ?_⟩
  rw [Tryz.params3] at ht
  have hm : t ∈ [25] := by simpa using Array.mem_of_getElem? ht
  have hall : ([25].all fun u => !Tryz.prog.wantsStandIn u) = true := by kernel_rfl
  exact (show Tryz.prog.wantsStandIn t = false by simpa using List.all_eq_true.1 hall t hm)
theorem card : Rows.FnExactProgramTextCardSaid :=
  Claim7.holds_tied_plain_at .later [] _ _ _ _ over (fun _ h => by cases h) (by kernel_rfl) (fun _ h => by cases h) fnExactProgramText_row_tie rfl ⟨rfl, rfl⟩ (by kernel_rfl) rfl plain (by kernel_rfl)
#print axioms card
end Go.Proofs.YtndkkpjofddfjaaGreatDoor.fnExactProgramText
namespace Go.Proofs.YtndkkpjofddfjaaGreatDoor
/-- The card, under a short name, for the claim. -/
theorem fnExactProgramText_card : Rows.FnExactProgramTextCardSaid := fnExactProgramText.card
end Go.Proofs.YtndkkpjofddfjaaGreatDoor
