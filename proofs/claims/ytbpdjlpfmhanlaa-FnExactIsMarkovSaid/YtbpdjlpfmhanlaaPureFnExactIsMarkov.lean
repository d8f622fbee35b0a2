/- IsMarkov answers what the reference answers, for every list. No condition. -/
import Derived.Test.YtbpdjlpfmhanlaaPFFnExactIsMarkov
import Derived.Test.YtbpdjlpfmhanlaaUisMarkov
import Derived.Test.YtbpdjlpfmhanlaaUtoIntS
import Derived.Test.YtbpdjlpfmhanlaaUeqIntS
namespace Go.Proofs.Ytbpdjlpfmhanlaa.Pure
set_option linter.unusedVariables false
set_option linter.unusedSimpArgs false
open Go.RowKit Go.Proofs.Ytbpdjlpfmhanlaa.P Go.Proofs.YtbpdjlpfmhanlaaW.PrintWords Go.Proofs.YtbpdjlpfmhanlaaW.PrintLast
theorem FnExactIsMarkov : laws_FnExactIsMarkov.Pure := by
  intro l _ hl _
  refine Ev.rounds ?_
  unfold laws_FnExactIsMarkov.f
  by_cases h : (l.length : Int) > 1048576
  · simp only [h, if_true]
    exact Ev.is rfl
  · simp only [h, if_false]
    refine Ev.bind (toIntS_ev l hl) (Ev.bind0 (spec_IsMarkov_is l) (Ev.bind (toIntS_ev l hl) (Ev.bind (IsMarkov_ev l) ?_)))
    simp only [bne_self_eq_false, Bool.false_eq_true, if_false]
    refine Ev.bind (toIntS_ev l hl) (Ev.bind (eqIntS_ev l l (by omega)) ?_)
    simp only [decide_true, if_true]
    exact Ev.is rfl
end Go.Proofs.Ytbpdjlpfmhanlaa.Pure
