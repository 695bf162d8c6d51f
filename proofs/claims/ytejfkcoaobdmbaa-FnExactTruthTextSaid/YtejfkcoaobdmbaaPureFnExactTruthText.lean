/-
  The pure statement of laws.FnExactTruthText: what the printed functions compute makes the law answer true, for every argument of its kinds (no further condition).
-/
import Derived.Test.YtejfkcoaobdmbaaPFnExactTruthTextx1
namespace Go.Proofs.Ytejfkcoaobdmbaa.Pure
open Go.RowKit Go.Proofs.Ytejfkcoaobdmbaa.PFnExactTruthText Go.Proofs.YtejfkcoaobdmbaaW.PrintWords Go.Proofs.YtejfkcoaobdmbaaW.PrintLast

theorem in_eq (a b c : Int) : spec_l1In.f a b c = some (decide (b ≤ a) && decide (a ≤ c)) := by
  unfold spec_l1In.f
  by_cases h : b ≤ a <;> simp [h]

theorem wi_eq (a b c : Int) : impl_within.f a b c = some (decide (b ≤ a) && decide (a ≤ c)) := by
  unfold impl_within.f
  by_cases h : b ≤ a <;> simp [h]

theorem st_eq (a : Int) : spec_IsTruth.f a = some (decide (0 ≤ a) && decide (a ≤ 2)) := by
  simp [spec_IsTruth.f, in_eq]

theorem it_eq (a : Int) : impl_IsTruth.f a = some (decide (0 ≤ a) && decide (a ≤ 2)) := by
  simp [impl_IsTruth.f, wi_eq]

theorem st_it : spec_IsTruth.f = impl_IsTruth.f := by
  funext a
  rw [st_eq, it_eq]

theorem same (a : Int) : impl_TruthText.f a = spec_TruthText.f a := by
  unfold impl_TruthText.f spec_TruthText.f
  rw [st_it]

theorem total (a : Int) : ∃ r, spec_TruthText.f a = some r := by
  unfold spec_TruthText.f
  simp only [st_eq, Option.bind_some]
  split
  · rename_i h
    have h2 : 0 ≤ a ∧ a ≤ 2 := by simpa using h
    have e : wrap64 (a + 1) = a + 1 := by unfold wrap64; omega
    rw [e, if_pos h2.1, if_pos (by omega), if_pos (by omega)]
    exact ⟨_, rfl⟩
  · exact ⟨_, rfl⟩

theorem FnExactTruthText : laws_FnExactTruthText.Pure := by
  intro a _
  obtain ⟨r, hr⟩ := total a
  simp [laws_FnExactTruthText.f, same, hr]

end Go.Proofs.Ytejfkcoaobdmbaa.Pure
