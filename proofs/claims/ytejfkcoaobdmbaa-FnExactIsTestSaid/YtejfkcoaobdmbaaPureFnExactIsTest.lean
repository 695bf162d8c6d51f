/-
  The pure statement of laws.FnExactIsTest: what the printed functions compute makes the law answer true, for every argument of its kinds (no further condition).
-/
import Derived.Test.YtejfkcoaobdmbaaPFnExactIsTestx1
namespace Go.Proofs.Ytejfkcoaobdmbaa.Pure
open Go.RowKit Go.Proofs.Ytejfkcoaobdmbaa.PFnExactIsTest Go.Proofs.YtejfkcoaobdmbaaW.PrintWords Go.Proofs.YtejfkcoaobdmbaaW.PrintLast

theorem in_eq (a b c : Int) : spec_l1In.f a b c = some (decide (b ≤ a) && decide (a ≤ c)) := by
  unfold spec_l1In.f
  by_cases h : b ≤ a <;> simp [h]

theorem wi_eq (a b c : Int) : impl_within.f a b c = some (decide (b ≤ a) && decide (a ≤ c)) := by
  unfold impl_within.f
  by_cases h : b ≤ a <;> simp [h]

theorem FnExactIsTest : laws_FnExactIsTest.Pure := by
  intro a0 a1 a2 _
  unfold laws_FnExactIsTest.f laws_szStmt.f
  simp [laws_toStmt.f, spec_IsTest.f, impl_IsTest.f, in_eq, wi_eq]
  repeat' split
  all_goals simp_all

end Go.Proofs.Ytejfkcoaobdmbaa.Pure
