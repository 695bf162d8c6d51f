/-
  The pure statement of laws.FnExactNamesOf: what the printed functions compute makes the law answer true, for every argument of its kinds (no further condition).
-/
import Derived.Test.YtejfkcoaobdmbaaPFnExactNamesOfx1
namespace Go.Proofs.Ytejfkcoaobdmbaa.Pure
open Go.RowKit Go.Proofs.Ytejfkcoaobdmbaa.PFnExactNamesOf Go.Proofs.YtejfkcoaobdmbaaW.PrintWords Go.Proofs.YtejfkcoaobdmbaaW.PrintLast

theorem wi_eq (a b c : Int) : impl_within.f a b c = some (decide (b ≤ a) && decide (a ≤ c)) := by
  unfold impl_within.f
  by_cases h : b ≤ a <;> simp [h]

theorem FnExactNamesOf : laws_FnExactNamesOf.Pure := by
  intro a _
  refine ⟨1, ?_⟩
  by_cases h : 1 ≤ a ∧ a ≤ 12
  · have h2 : a = 1 ∨ a = 2 ∨ a = 3 ∨ a = 4 ∨ a = 5 ∨ a = 6 ∨ a = 7 ∨ a = 8 ∨ a = 9 ∨ a = 10 ∨ a = 11 ∨ a = 12 := by omega
    rcases h2 with rfl | rfl | rfl | rfl | rfl | rfl | rfl | rfl | rfl | rfl | rfl | rfl <;> decide +kernel
  · have e : impl_NamesOf.f a = some (-1) := by
      have h3 : (decide (1 ≤ a) && decide (a ≤ 12)) = false := by simpa using h
      simp [impl_NamesOf.f, wi_eq, h3]
    have g : spec_NamesOf.f 1 a = some (-1) := by
      unfold spec_NamesOf.f
      rw [if_neg (by omega), if_neg (by omega), if_neg (by omega), if_neg (by omega), if_neg (by omega), if_neg (by omega)]
      have h10 : (a == 10) = false := beq_eq_false_iff_ne.mpr (by omega)
      simp only [spec_NamesOf.j0]
      rw [h10, if_neg (by decide), if_neg (by omega), if_neg (by omega), if_neg (by omega), if_neg (by omega), if_neg (by omega)]
    simp [laws_FnExactNamesOf.f, e, g]

end Go.Proofs.Ytejfkcoaobdmbaa.Pure
