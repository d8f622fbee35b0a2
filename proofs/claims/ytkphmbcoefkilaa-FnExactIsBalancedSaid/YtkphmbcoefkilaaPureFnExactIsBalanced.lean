/- IsBalanced answers what the reference answers, for every text. No condition. -/
import Derived.Test.YtkphmbcoefkilaaPFFnExactIsBalanced
import Derived.Test.YtkphmbcoefkilaaUchBalanced
namespace Go.Proofs.Ytkphmbcoefkilaa.Pure
set_option linter.unusedVariables false
set_option linter.unusedSimpArgs false
open Go.RowKit Go.Proofs.Ytkphmbcoefkilaa.P Go.Proofs.YtkphmbcoefkilaaW.PrintWords Go.Proofs.YtkphmbcoefkilaaW.PrintLast
theorem FnExactIsBalanced : laws_FnExactIsBalanced.Pure := by
  intro s _
  refine Ev.rounds ?_
  unfold laws_FnExactIsBalanced.f
  by_cases h : (s.size : Int) > 1048576
  · simp only [h, if_true]
    exact Ev.is rfl
  · simp only [h, if_false]
    refine Ev.bind (isBalanced_both s).1 (Ev.bind (isBalanced_both s).2 ?_)
    simp only [bne_self_eq_false, Bool.false_eq_true, if_false]
    exact Ev.is rfl
end Go.Proofs.Ytkphmbcoefkilaa.Pure
