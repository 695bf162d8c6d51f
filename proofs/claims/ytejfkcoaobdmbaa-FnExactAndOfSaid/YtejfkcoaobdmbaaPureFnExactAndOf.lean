/-
  The pure statement of laws.FnExactAndOf: what the printed functions compute makes the law answer true, for every argument of its kinds (no further condition).
-/
import Derived.Test.YtejfkcoaobdmbaaPFnExactAndOfx1
namespace Go.Proofs.Ytejfkcoaobdmbaa.Pure
open Go.RowKit Go.Proofs.Ytejfkcoaobdmbaa.PFnExactAndOf Go.Proofs.YtejfkcoaobdmbaaW.PrintWords Go.Proofs.YtejfkcoaobdmbaaW.PrintLast

theorem in_eq (a b c : Int) : spec_l1In.f a b c = some (decide (b ≤ a) && decide (a ≤ c)) := by
  unfold spec_l1In.f
  by_cases h : b ≤ a <;> simp [h]

theorem wi_eq (a b c : Int) : impl_within.f a b c = some (decide (b ≤ a) && decide (a ≤ c)) := by
  unfold impl_within.f
  by_cases h : b ≤ a <;> simp [h]

theorem st_eq (a : Int) : spec_IsTruth.f a = some (decide (0 ≤ a) && decide (a ≤ 2)) := by
  simp [spec_IsTruth.f, in_eq]

theorem it_eq (a : Int) : impl_IsTruth.f a = some (decide (0 ≤ a) && decide (a ≤ 2)) := by
  simp [impl_IsTruth.f, wi_eq]

theorem st_it : spec_IsTruth.f = impl_IsTruth.f := by
  funext a
  rw [st_eq, it_eq]

theorem min_eq (a b : Int) : spec_l1Min.f a b = some (mn a b) := by
  unfold spec_l1Min.f mn
  split <;> congr 1 <;> omega

theorem same (a b : Int) : impl_AndOf.f a b = spec_AndOf.f a b := by
  unfold impl_AndOf.f spec_AndOf.f
  simp only [st_it, min_eq, Option.bind_some]

theorem total (a b : Int) : ∃ r, spec_AndOf.f a b = some r := by
  unfold spec_AndOf.f
  simp only [st_eq, min_eq, Option.bind_some]
  repeat' split
  all_goals exact ⟨_, rfl⟩

theorem FnExactAndOf : laws_FnExactAndOf.Pure := by
  intro a b _ _
  obtain ⟨r, hr⟩ := total a b
  simp [laws_FnExactAndOf.f, same, hr]

end Go.Proofs.Ytejfkcoaobdmbaa.Pure
