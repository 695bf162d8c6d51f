/-
  The pure statement of laws.FnExactExecName: what the printed functions compute makes the law answer true, for every argument of its kinds (no further condition).
-/
import Derived.Test.YtejfkcoaobdmbaaPFnExactExecNamex1
namespace Go.Proofs.Ytejfkcoaobdmbaa.Pure
open Go.RowKit Go.Proofs.Ytejfkcoaobdmbaa.PFnExactExecName Go.Proofs.YtejfkcoaobdmbaaW.PrintWords Go.Proofs.YtejfkcoaobdmbaaW.PrintLast

theorem in_eq (a b c : Int) : spec_l1In.f a b c = some (decide (b ≤ a) && decide (a ≤ c)) := by
  unfold spec_l1In.f
  by_cases h : b ≤ a <;> simp [h]

theorem wi_eq (a b c : Int) : impl_within.f a b c = some (decide (b ≤ a) && decide (a ≤ c)) := by
  unfold impl_within.f
  by_cases h : b ≤ a <;> simp [h]

theorem same (a : Int) : impl_ExecName.f a = spec_ExecName.f a := by
  unfold impl_ExecName.f spec_ExecName.f
  rw [wi_eq, in_eq]

theorem total (a : Int) : ∃ r, spec_ExecName.f a = some r := by
  unfold spec_ExecName.f
  simp only [in_eq, Option.bind_some]
  split
  · rename_i h
    have h2 : 0 ≤ a ∧ a ≤ 7 := by simpa using h
    rw [if_pos h2.1, if_pos (by simp only [List.length_cons, List.length_nil]; omega)]
    exact ⟨_, rfl⟩
  · exact ⟨_, rfl⟩

theorem FnExactExecName : laws_FnExactExecName.Pure := by
  intro a _
  obtain ⟨r, hr⟩ := total a
  simp [laws_FnExactExecName.f, same, hr]

end Go.Proofs.Ytejfkcoaobdmbaa.Pure
