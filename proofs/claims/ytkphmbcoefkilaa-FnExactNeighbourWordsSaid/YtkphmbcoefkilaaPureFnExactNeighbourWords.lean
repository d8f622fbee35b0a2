/- NeighbourWords answers what the reference answers, for every text. No condition. -/
import Derived.Test.YtkphmbcoefkilaaPFFnExactNeighbourWords
import Derived.Test.YtkphmbcoefkilaaUchNeighbour
namespace Go.Proofs.Ytkphmbcoefkilaa.Pure
set_option linter.unusedVariables false
set_option linter.unusedSimpArgs false
open Go.RowKit Go.Proofs.Ytkphmbcoefkilaa.P Go.Proofs.YtkphmbcoefkilaaW.PrintWords Go.Proofs.YtkphmbcoefkilaaW.PrintLast
theorem FnExactNeighbourWords : laws_FnExactNeighbourWords.Pure := by
  intro s _
  refine Ev.rounds ?_
  unfold laws_FnExactNeighbourWords.f
  by_cases h : (s.size : Int) > 1048576
  · simp only [h, if_true]
    exact Ev.is rfl
  · simp only [h, if_false]
    refine Ev.bind (neighbours_both s).1 (Ev.bind (neighbours_both s).2 ?_)
    simp only [if_true, bne_self_eq_false, Bool.false_eq_true, if_false]
    exact Ev.is rfl
end Go.Proofs.Ytkphmbcoefkilaa.Pure
