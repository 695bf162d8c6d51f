/-
 The statement laws.FnPrograms of the given program: for every argument of its kinds the law answers true, and each argument reads behind the call as before; no further condition.
-/
import Derived.Test.YtndkkpjofddfjaaGreatDoorRows
import Derived.Test.YtndkkpjofddfjaaGreatDoorPFnProgramsx20
import Derived.Test.YtndkkpjofddfjaaGreatDoorPureFnPrograms
import Derived.Test.YtndkkpjofddfjaaGreatDoorXOpen
import Derived.WalkKit
import Derived.ProofKit
import Derived.OpenShut
import Derived.ShutString
import Derived.ChangeOld
import Derived.Below
import Derived.SizedLaws
import Derived.Test.YtndkkpjofddfjaaGreatDoorCards
import Derived.Test.YtndkkpjofddfjaaGreatDoorTie
import Derived.Test.YtndkkpjofddfjaaGreatDoorWorldFnPrograms
import Derived.LaidMore
import Derived.Lay
import Derived.Stop.Joined
import Derived.Deep.DeepHandedRow
import Derived.SevenTiedAt
import Derived.Lib.LaidTab
namespace Go.Proofs.YtndkkpjofddfjaaGreatDoor.fnPrograms
open Go.ChangeShapes Go.WideShapes Go.ChangeAt Go.RowKit
open Go.ChangeMaps (open_string shut_string)
open Go.Proofs.YtndkkpjofddfjaaGreatDoor.PFnPrograms Go.Proofs.YtndkkpjofddfjaaGreatDoorW.PrintWords Go.Proofs.YtndkkpjofddfjaaGreatDoorX
set_option linter.unusedVariables false
theorem own : ownKnob Tryz.prog.godebug = none := by kernel_rfl
theorem laidOut : laidOutB Tryz.prog = true := by kernel_rfl
theorem laid_met (os : Os) : laidMetH Tryz.prog Rows.fnProgramsRow.laid ((World.laidAll Tryz.prog os Rows.fnProgramsRow.laid).forCall (fun _ _ => 0) ⟨#[], #[Value.slice none 0 0], []⟩).memory :=
 by rw [MakeChecks.laidMetH_plain _ _ _ (by kernel_rfl)]; exact laidMet_laidAll _ (by kernel_rfl) (by kernel_rfl)
set_option maxRecDepth 100000 in
theorem lifted (os : Os) (started : os.Started) (H : Type) (enc : TypeId × Value → H) (F : Stop.Interp) :
  ReturnsInHanded {} Tryz.checked os 5 .any ((OpenSpec.ofChange Rows.fnProgramsSpec).preRow enc Tryz.prog Tryz.f5 Rows.fnProgramsRow.domain false Rows.fnProgramsRow.laid) (((OpenSpec.ofChange Rows.fnProgramsSpec).at F).post enc Tryz.prog Tryz.f5 false true false false) := by
 obtain ⟨x, hx⟩ := Option.isSome_iff_exists.mp (show (DataW.whole enc Tryz.prog ((World.laidAll Tryz.prog os Rows.fnProgramsRow.laid).forCall (fun _ _ => 0) ⟨#[], #[Value.slice none 0 0], []⟩).memory Tryz.f5.params.toList Rows.fnProgramsSpec.vars false #[Value.slice none 0 0].toList 8).isSome = true by kernel_rfl); refine returnsInHanded_of_row (C := Tryz.checked) (s := OpenSpec.ofChange Rows.fnProgramsSpec) own started (by kernel_rfl) Tryz.func5
  (witness_row_at (enc := enc) (C := Tryz.checked) false (World.laidAll Tryz.prog os Rows.fnProgramsRow.laid) #[Value.slice none 0 0] (World.laidAll_os _ _ _) (by kernel_rfl) (by kernel_rfl) (by kernel_rfl)
   (OpenSpec.preRow_of_cond 8 hx (by kernel_rfl) (fun k hk => by cases hk) (by kernel_rfl) (laid_met os))) ?_
 intro W base args ds gs before hval0 hW _ _ hsz0 hL hsh _; have hval : ∀ (j : Nat) t v, Tryz.f5.params[j]? = some t → args[j]? = some v → Value.okWide Tryz.prog W .any base t v := hval0; have hW' := hW; obtain ⟨p, q, hA0, hV, rfl, hfz, hnd⟩ := hW; have hA : DataW.TrodAll enc Tryz.prog W 0 (fun _ => true) true Tryz.f5.params.toList args.toList ds p := hA0; rw [Tryz.params5] at hA hval; obtain ⟨v0, vs0, d0, ds0, p0, q0, hargs, rfl, rfl, h0, r0⟩ := trodAll_cons hA; obtain ⟨rfl, rfl, rfl⟩ := trodAll_nil r0; obtain rfl : args = #[v0] := by cases args; simp_all
 obtain ⟨rfl, rfl⟩ := trodVars_none hV; have k0 := h0; have lt0 : ∀ x ∈ p0, x.block < W.heap.size := by obtain ⟨m, hm⟩ := k0; exact DataW.trod_lt m _ _ _ hm
 obtain ⟨f0, hf0⟩ := h0; obtain ⟨x0, len0, cap0, rfl⟩ := okWide_slice Tryz.underlying38 (hval 0 38 v0 rfl rfl); obtain ⟨l0, K0, b0⟩ := (opens_slice Tryz.underlying38 (by kernel_rfl) (fun _ _ => opens_int Tryz.underlying5) : Opens enc Tryz.prog W 0 (fun _ => true) true f0 (Kd.slice 5 (Kd.int .u8)) (fun a => (a.length ≤ maxLen ∧ ∀ x_ ∈ a, (Lit.int .u8 x_).wf = true)) 38) _ _ hf0; obtain ⟨A0, c0, E0, lc0, g0⟩ := (K0 : ∃ A c, [Value.slice x0 len0 cap0] = [.slice A l0.length c] ∧ l0.length ≤ c ∧ (Kd.int .u8).C W A l0.length l0); replace E0 := (List.cons.inj E0).1; rw [E0] at hW' k0 ⊢; clear E0; obtain ⟨k, h⟩ := Pure.FnPrograms l0 b0; refine (laws_FnPrograms.calls k A0 c0 l0 true W g0 lc0 (world_FnPrograms_LaidE hL hsh) (world_FnPrograms_LaidI hL hsh) (world_FnPrograms_LaidS hL hsh) ⟨rfl⟩ h).mono fun e W' he => ?_
 obtain ⟨rfl, bel0⟩ := he; have bel : Below W.heap.size W W' := bel0; exact ⟨_, rfl, _, _, _, [], _, [], hW', trodAll_mk1 (shut_bool Tryz.underlying4 _), (trodAll_cons_mk (Below.trod laidOut (by kernel_rfl) (of_decide_eq_true (by kernel_rfl)) k0 bel lt0) trodAll_mk0), rfl, bel.frame _, fun h => by cases h⟩
theorem over : Rows.fnProgramsRow.holds Tryz.pinned (OpenSpec.ofChange Rows.fnProgramsSpec) :=
 OpenClaim.holds_of_cond 5 Tryz.f5 rfl rfl rfl rfl rfl rfl rfl ⟨rfl, rfl, rfl, rfl, rfl⟩ rfl rfl rfl rfl rfl (by kernel_rfl) Tryz.func5 (by kernel_rfl)
  (of_decide_eq_true (by kernel_rfl)) (by unfold Func.isWrapper; first | (rw [if_pos (by decide +kernel)]; kernel_rfl) | (rw [if_neg (by decide +kernel)]; exact ⟨rfl, rfl⟩))
  (fun os started H enc _ F => by rw [OpenClaim.pre_eq_preRow]; exact lifted os started H enc F)
theorem plain (f : FuncId) (fn : Func) (hf : Tryz.pinned.checked.prog.funcNamed "loop.example/g00590/laws.FnPrograms" = some f) (hfn : Tryz.pinned.checked.prog.funcs[f]? = some fn) :
  true = Tryz.pinned.checked.prog.looks [] ∧ ∀ (j : Nat) t, fn.params[j]? = some t → Tryz.pinned.checked.prog.wantsStandIn t = false := by
 obtain rfl : f = 5 := Option.some.inj ((show Tryz.prog.funcNamed "loop.example/g00590/laws.FnPrograms" = some 5 by kernel_rfl).symm.trans hf) |>.symm; obtain rfl : fn = Tryz.f5 := (Option.some.inj (Tryz.func5.symm.trans hfn)).symm; refine ⟨by kernel_rfl, fun j t ht => ?_⟩; rw [Tryz.params5] at ht; have hm : t ∈ [38] := by simpa using Array.mem_of_getElem? ht
 have hall : ([38].all fun u => !Tryz.prog.wantsStandIn u) = true := by kernel_rfl
 exact (show Tryz.prog.wantsStandIn t = false by simpa using List.all_eq_true.1 hall t hm)
theorem card : Rows.FnProgramsCardSaid :=
 Claim7.holds_tied_plain_at .later [] _ _ _ _ over (fun _ h => by cases h) (by kernel_rfl) (fun _ h => by cases h) fnPrograms_row_tie rfl ⟨rfl, rfl⟩ (by kernel_rfl) rfl plain (by kernel_rfl)
#print axioms card
end Go.Proofs.YtndkkpjofddfjaaGreatDoor.fnPrograms
namespace Go.Proofs.YtndkkpjofddfjaaGreatDoor
/-- The card, under a short name, for the claim. -/
theorem fnPrograms_card : Rows.FnProgramsCardSaid := fnPrograms.card
end Go.Proofs.YtndkkpjofddfjaaGreatDoor
