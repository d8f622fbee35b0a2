/- IsLetters answers what the reference answers, for every text. No condition. -/
import Derived.Test.YtbpdjlpfmhanlaaPFFnExactIsLetters
import Derived.Test.YtbpdjlpfmhanlaaUletters
namespace Go.Proofs.Ytbpdjlpfmhanlaa.Pure
set_option linter.unusedVariables false
set_option linter.unusedSimpArgs false
open Go.RowKit Go.Proofs.Ytbpdjlpfmhanlaa.P Go.Proofs.YtbpdjlpfmhanlaaW.PrintWords Go.Proofs.YtbpdjlpfmhanlaaW.PrintLast
theorem FnExactIsLetters : laws_FnExactIsLetters.Pure := by
  intro s hs
  refine Ev.rounds ?_
  unfold laws_FnExactIsLetters.f
  by_cases h : (s.size : Int) > 1048576
  · simp only [h, if_true]
    exact Ev.is rfl
  · simp only [h, if_false]
    unfold spec_IsLetters.f
    refine Ev.bind (Ev.bind (chLetters_ev s) (Ev.is rfl)) ?_
    refine Ev.bind0 (impl_IsLetters_is s) ?_
    simp only [bne_self_eq_false, Bool.false_eq_true, if_false]
    exact Ev.is rfl
end Go.Proofs.Ytbpdjlpfmhanlaa.Pure
