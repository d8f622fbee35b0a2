/- RootOf answers what the reference answers, for every number. No condition. -/
import Derived.Test.YtbpdjlpfmhanlaaPFFnExactRootOf
import Derived.Test.YtbpdjlpfmhanlaaURootOf
namespace Go.Proofs.Ytbpdjlpfmhanlaa.Pure
set_option linter.unusedVariables false
set_option linter.unusedSimpArgs false
open Go.RowKit Go.Proofs.Ytbpdjlpfmhanlaa.P Go.Proofs.YtbpdjlpfmhanlaaW.PrintWords Go.Proofs.YtbpdjlpfmhanlaaW.PrintLast
theorem FnExactRootOf : laws_FnExactRootOf.Pure := by
  intro n _
  refine Ev.rounds ?_
  unfold laws_FnExactRootOf.f
  obtain ⟨r, hs, hi, _⟩ := RootOf_both n
  refine Ev.bind hs (Ev.bind hi ?_)
  simp only [bne_self_eq_false, Bool.false_eq_true, if_false, if_true]
  exact Ev.is rfl
end Go.Proofs.Ytbpdjlpfmhanlaa.Pure
