/- UnitMatrix answers what the reference answers, for every number; what it hands back is its own. No condition. -/
import Derived.Test.YtclpgaoneoojiaaPFFnExactUnitMatrix
namespace Go.Proofs.Ytclpgaoneoojiaa.Pure
set_option linter.unusedVariables false
set_option linter.unusedSimpArgs false
open Go.RowKit Go.Proofs.Ytclpgaoneoojiaa.P Go.Proofs.YtclpgaoneoojiaaW.PrintWords Go.Proofs.YtclpgaoneoojiaaW.PrintLast
theorem in_no (a : Int) (h : ¬ (1 ≤ a ∧ a ≤ 4)) : spec_l1In.f a 1 4 = some false := by
  unfold spec_l1In.f
  by_cases h1 : a ≥ 1
  · have h2 : ¬ a ≤ 4 := fun h2 => h ⟨h1, h2⟩
    simp [h1, h2]
  · simp [h1]
theorem within_no (a : Int) (h : ¬ (1 ≤ a ∧ a ≤ 4)) : impl_within.f a 1 4 = some false := in_no a h
theorem FnExactUnitMatrix : laws_FnExactUnitMatrix.Pure := by
  intro a _
  by_cases h : 1 ≤ a ∧ a ≤ 4
  · have hc : a = 1 ∨ a = 2 ∨ a = 3 ∨ a = 4 := by omega
    rcases hc with rfl | rfl | rfl | rfl
    · exact ⟨30, by decide +kernel⟩
    · exact ⟨30, by decide +kernel⟩
    · exact ⟨30, by decide +kernel⟩
    · exact ⟨30, by decide +kernel⟩
  · refine ⟨0, ?_⟩
    unfold laws_FnExactUnitMatrix.f spec_UnitMatrix.f impl_UnitMatrix.f
    rw [in_no a h, within_no a h]
    simp [total]
end Go.Proofs.Ytclpgaoneoojiaa.Pure
