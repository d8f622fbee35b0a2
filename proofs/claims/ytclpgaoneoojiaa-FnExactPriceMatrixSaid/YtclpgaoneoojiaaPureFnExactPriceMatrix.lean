/- PriceMatrix answers what the reference answers, for every number; what it hands back is its own. No condition. -/
import Derived.Test.YtclpgaoneoojiaaPFFnExactPriceMatrix
namespace Go.Proofs.Ytclpgaoneoojiaa.Pure
set_option linter.unusedVariables false
set_option linter.unusedSimpArgs false
open Go.RowKit Go.Proofs.Ytclpgaoneoojiaa.P Go.Proofs.YtclpgaoneoojiaaW.PrintWords Go.Proofs.YtclpgaoneoojiaaW.PrintLast
theorem FnExactPriceMatrix : laws_FnExactPriceMatrix.Pure := by
  intro a _
  refine ⟨0, ?_⟩
  unfold laws_FnExactPriceMatrix.f spec_PriceMatrix.f impl_PriceMatrix.f
  by_cases h0 : a = 0
  · simp [h0, total]
  · by_cases h1 : a = 1
    · simp [h1, total]
    · by_cases h2 : a = 2
      · simp [h2, total]
      · simp [h0, h1, h2, total]
end Go.Proofs.Ytclpgaoneoojiaa.Pure
