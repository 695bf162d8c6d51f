/-
  The pure statement of laws.FnExactOrOf: what the printed functions compute makes the law answer true, for every argument of its kinds (no further condition).
-/
import Derived.Test.YtnckhddciedceaaPFnExactOrOfx1
import Derived.Test.YtnckhddciedceaaXPure
namespace Go.Proofs.Ytnckhddciedceaa.Pure.LFnExactOrOf
open Go.RowKit Go.Proofs.Ytnckhddciedceaa.PFnExactOrOf Go.Proofs.YtnckhddciedceaaW.PrintWords Go.Proofs.YtnckhddciedceaaW.PrintLast Go.Proofs.YtnckhddciedceaaX
set_option linter.unusedVariables false
set_option linter.unusedSimpArgs false

theorem in_eq (a b c : Int) : spec_l1In.f a b c = some (decide (b ≤ a) && decide (a ≤ c)) := by
  unfold spec_l1In.f
  by_cases h : b ≤ a <;> simp [h]


theorem wi_eq (a b c : Int) : impl_within.f a b c = some (decide (b ≤ a) && decide (a ≤ c)) := by
  unfold impl_within.f
  by_cases h : b ≤ a <;> simp [h]


theorem st_eq (a : Int) : spec_IsTruth.f a = some (decide (0 ≤ a) && decide (a ≤ 2)) := by
  simp [spec_IsTruth.f, in_eq]

theorem it_eq (a : Int) : impl_IsTruth.f a = some (decide (0 ≤ a) && decide (a ≤ 2)) := by
  simp [impl_IsTruth.f, wi_eq]

theorem st_it : spec_IsTruth.f = impl_IsTruth.f := by
  funext a
  rw [st_eq, it_eq]

theorem max_eq (a b : Int) : spec_l1Max.f a b = some (mx a b) := by
  unfold spec_l1Max.f mx
  split <;> congr 1 <;> omega

theorem same (a b : Int) : impl_OrOf.f a b = spec_OrOf.f a b := by
  unfold impl_OrOf.f spec_OrOf.f
  simp only [st_it, max_eq, Option.bind_some]

theorem total (a b : Int) : ∃ r, spec_OrOf.f a b = some r := by
  unfold spec_OrOf.f
  simp only [st_eq, max_eq, Option.bind_some]
  repeat' split
  all_goals exact ⟨_, rfl⟩

theorem FnExactOrOf : laws_FnExactOrOf.Pure := by
  intro a b _ _
  obtain ⟨r, hr⟩ := total a b
  simp [laws_FnExactOrOf.f, same, hr]

end Go.Proofs.Ytnckhddciedceaa.Pure.LFnExactOrOf
namespace Go.Proofs.Ytnckhddciedceaa.Pure
open Go.Proofs.Ytnckhddciedceaa.PFnExactOrOf
theorem FnExactOrOf : laws_FnExactOrOf.Pure := LFnExactOrOf.FnExactOrOf
end Go.Proofs.Ytnckhddciedceaa.Pure
