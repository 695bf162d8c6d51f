/-
  The pure statement of laws.FnExactIsTruth: what the printed functions compute makes the law answer true, for every argument of its kinds (no further condition).
-/
import Derived.Test.YtejfkcoaobdmbaaPFnExactIsTruthx1
namespace Go.Proofs.Ytejfkcoaobdmbaa.Pure
open Go.RowKit Go.Proofs.Ytejfkcoaobdmbaa.PFnExactIsTruth Go.Proofs.YtejfkcoaobdmbaaW.PrintWords Go.Proofs.YtejfkcoaobdmbaaW.PrintLast

theorem in_eq (a b c : Int) : spec_l1In.f a b c = some (decide (b ≤ a) && decide (a ≤ c)) := by
  unfold spec_l1In.f
  by_cases h : b ≤ a <;> simp [h]

theorem wi_eq (a b c : Int) : impl_within.f a b c = some (decide (b ≤ a) && decide (a ≤ c)) := by
  unfold impl_within.f
  by_cases h : b ≤ a <;> simp [h]

theorem FnExactIsTruth : laws_FnExactIsTruth.Pure := by
  intro a0 _
  simp [laws_FnExactIsTruth.f, spec_IsTruth.f, impl_IsTruth.f, in_eq, wi_eq]

end Go.Proofs.Ytejfkcoaobdmbaa.Pure
