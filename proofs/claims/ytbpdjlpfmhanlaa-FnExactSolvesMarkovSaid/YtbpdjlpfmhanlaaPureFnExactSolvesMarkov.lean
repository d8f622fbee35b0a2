/- SolvesMarkov answers what the reference answers, for every list. No condition. -/
import Derived.Test.YtbpdjlpfmhanlaaPFFnExactSolvesMarkov
import Derived.Test.YtbpdjlpfmhanlaaUSolvesMarkov
import Derived.Test.YtbpdjlpfmhanlaaUtoIntS
import Derived.Test.YtbpdjlpfmhanlaaUeqIntS
namespace Go.Proofs.Ytbpdjlpfmhanlaa.Pure
set_option linter.unusedVariables false
set_option linter.unusedSimpArgs false
open Go.RowKit Go.Proofs.Ytbpdjlpfmhanlaa.P Go.Proofs.YtbpdjlpfmhanlaaW.PrintWords Go.Proofs.YtbpdjlpfmhanlaaW.PrintLast
theorem FnExactSolvesMarkov : laws_FnExactSolvesMarkov.Pure := by
  intro l _ hl _
  refine Ev.rounds ?_
  unfold laws_FnExactSolvesMarkov.f
  by_cases h : (l.length : Int) > 1048576
  · simp only [h, if_true]
    exact Ev.is rfl
  · simp only [h, if_false]
    obtain ⟨b1, b2⟩ := SolvesMarkov_both l
    refine Ev.bind (toIntS_ev l hl) (Ev.bind b1 (Ev.bind (toIntS_ev l hl) (Ev.bind0 b2 ?_)))
    simp only [bne_self_eq_false, Bool.false_eq_true, if_false]
    refine Ev.step (fun k => by simp only [laws_FnExactSolvesMarkov.j0, Bool.false_eq_true, if_false]; rfl) ?_
    refine Ev.bind (toIntS_ev l hl) (Ev.bind (eqIntS_ev l l (by omega)) ?_)
    simp only [decide_true, if_true]
    exact Ev.is rfl
end Go.Proofs.Ytbpdjlpfmhanlaa.Pure
