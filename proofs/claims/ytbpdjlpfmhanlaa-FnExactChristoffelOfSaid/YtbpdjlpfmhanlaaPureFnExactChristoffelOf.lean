/- ChristoffelOf answers what the reference answers, for all numbers. No condition. -/
import Derived.Test.YtbpdjlpfmhanlaaPFFnExactChristoffelOf
import Derived.Test.YtbpdjlpfmhanlaaUChristoffelOf
namespace Go.Proofs.Ytbpdjlpfmhanlaa.Pure
set_option linter.unusedVariables false
set_option linter.unusedSimpArgs false
open Go.RowKit Go.Proofs.Ytbpdjlpfmhanlaa.P Go.Proofs.YtbpdjlpfmhanlaaW.PrintWords Go.Proofs.YtbpdjlpfmhanlaaW.PrintLast
theorem FnExactChristoffelOf : laws_FnExactChristoffelOf.Pure := by
  intro a b ha hb
  have wa := i64_of ha
  have wb := i64_of hb
  refine Ev.rounds ?_
  unfold laws_FnExactChristoffelOf.f
  obtain ⟨c1, c2⟩ := ChristoffelOf_both a b wa.1 wa.2 wb.1 wb.2
  refine Ev.bind c1 (Ev.bind c2 ?_)
  simp only [bne_self_eq_false, Bool.false_eq_true, if_false, if_true]
  exact Ev.is rfl
end Go.Proofs.Ytbpdjlpfmhanlaa.Pure
