/-
  The pure statement of laws.FnExactOppositeOf: what the printed functions compute makes the law answer true, for every argument of its kinds (no further condition).
-/
import Derived.Test.YtnckhddciedceaaPFnExactOppositeOfx1
import Derived.Test.YtnckhddciedceaaXPure
namespace Go.Proofs.Ytnckhddciedceaa.Pure.LFnExactOppositeOf
open Go.RowKit Go.Proofs.Ytnckhddciedceaa.PFnExactOppositeOf Go.Proofs.YtnckhddciedceaaW.PrintWords Go.Proofs.YtnckhddciedceaaW.PrintLast Go.Proofs.YtnckhddciedceaaX
set_option linter.unusedVariables false
set_option linter.unusedSimpArgs false

theorem in_eq (a b c : Int) : spec_l1In.f a b c = some (decide (b ≤ a) && decide (a ≤ c)) := by
  unfold spec_l1In.f
  by_cases h : b ≤ a <;> simp [h]


theorem wi_eq (a b c : Int) : impl_within.f a b c = some (decide (b ≤ a) && decide (a ≤ c)) := by
  unfold impl_within.f
  by_cases h : b ≤ a <;> simp [h]


theorem st_eq (a : Int) (s t : ByteArray) : spec_IsTest.f a s t = some (decide (9 ≤ a) && decide (a ≤ 12)) := by
  simp [spec_IsTest.f, in_eq]

theorem it_eq (a : Int) (s t : ByteArray) : impl_IsTest.f a s t = some (decide (9 ≤ a) && decide (a ≤ 12)) := by
  simp [impl_IsTest.f, wi_eq]

theorem same (a : Int) (s t : ByteArray) : ∃ r, spec_OppositeOf.f a s t = some r ∧ impl_OppositeOf.f a s t = some r := by
  unfold spec_OppositeOf.f impl_OppositeOf.f
  rw [st_eq, it_eq]
  simp only [Option.bind_some]
  by_cases h : (9 ≤ a ∧ a ≤ 12)
  · have e : (decide (9 ≤ a) && decide (a ≤ 12)) = true := by simpa using h
    rw [if_pos e, if_pos e]
    have h4 : a = 9 ∨ a = 10 ∨ a = 11 ∨ a = 12 := by omega
    rcases h4 with rfl | rfl | rfl | rfl
    · exact ⟨(10, s, t, true), by simp [wrap64], by simp [wrap64, rd]⟩
    · exact ⟨(9, s, t, true), by simp [wrap64], by simp [wrap64, rd]⟩
    · exact ⟨(12, s, t, true), by simp [wrap64], by simp [wrap64, rd]⟩
    · exact ⟨(11, s, t, true), by simp [wrap64], by simp [wrap64, rd]⟩
  · have e : ¬ (decide (9 ≤ a) && decide (a ≤ 12)) = true := by simpa using h
    rw [if_neg e, if_neg e]
    exact ⟨_, rfl, rfl⟩

theorem FnExactOppositeOf : laws_FnExactOppositeOf.Pure := by
  intro a s t hB
  obtain ⟨⟨x, y, z, u⟩, h1, h2⟩ := same a s t
  unfold laws_FnExactOppositeOf.f laws_szStmt.f
  simp only [laws_toStmt.f, Option.bind_some, h1, h2, laws_eqStmt.f, if_true]
  repeat' split
  all_goals simp_all

end Go.Proofs.Ytnckhddciedceaa.Pure.LFnExactOppositeOf
namespace Go.Proofs.Ytnckhddciedceaa.Pure
open Go.Proofs.Ytnckhddciedceaa.PFnExactOppositeOf
theorem FnExactOppositeOf : laws_FnExactOppositeOf.Pure := LFnExactOppositeOf.FnExactOppositeOf
end Go.Proofs.Ytnckhddciedceaa.Pure
