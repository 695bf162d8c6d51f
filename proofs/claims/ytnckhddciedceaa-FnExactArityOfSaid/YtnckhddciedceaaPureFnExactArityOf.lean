/-
  The pure statement of laws.FnExactArityOf: what the printed functions compute makes the law answer true, for every argument of its kinds (no further condition).
-/
import Derived.Test.YtnckhddciedceaaPFnExactArityOfx1
import Derived.Test.YtnckhddciedceaaXPure
namespace Go.Proofs.Ytnckhddciedceaa.Pure.LFnExactArityOf
open Go.RowKit Go.Proofs.Ytnckhddciedceaa.PFnExactArityOf Go.Proofs.YtnckhddciedceaaW.PrintWords Go.Proofs.YtnckhddciedceaaW.PrintLast Go.Proofs.YtnckhddciedceaaX
set_option linter.unusedVariables false
set_option linter.unusedSimpArgs false

theorem in_eq (a b c : Int) : spec_l1In.f a b c = some (decide (b ≤ a) && decide (a ≤ c)) := by
  unfold spec_l1In.f
  by_cases h : b ≤ a <;> simp [h]


theorem wi_eq (a b c : Int) : impl_within.f a b c = some (decide (b ≤ a) && decide (a ≤ c)) := by
  unfold impl_within.f
  by_cases h : b ≤ a <;> simp [h]


theorem same (a : Int) : impl_ArityOf.f 1 a = spec_ArityOf.f 1 a := by
  unfold impl_ArityOf.f spec_ArityOf.f
  simp only [wi_eq, in_eq, Option.bind_some, impl_ArityOf.j0, spec_ArityOf.j0]

theorem total (a : Int) : ∃ r, spec_ArityOf.f 1 a = some r := by
  unfold spec_ArityOf.f
  simp only [in_eq, Option.bind_some, spec_ArityOf.j0]
  repeat' split
  all_goals exact ⟨_, rfl⟩

theorem FnExactArityOf : laws_FnExactArityOf.Pure := by
  intro a _
  obtain ⟨r, hr⟩ := total a
  exact ⟨1, by simp [laws_FnExactArityOf.f, same, hr]⟩

end Go.Proofs.Ytnckhddciedceaa.Pure.LFnExactArityOf
namespace Go.Proofs.Ytnckhddciedceaa.Pure
open Go.Proofs.Ytnckhddciedceaa.PFnExactArityOf
theorem FnExactArityOf : laws_FnExactArityOf.Pure := LFnExactArityOf.FnExactArityOf
end Go.Proofs.Ytnckhddciedceaa.Pure
