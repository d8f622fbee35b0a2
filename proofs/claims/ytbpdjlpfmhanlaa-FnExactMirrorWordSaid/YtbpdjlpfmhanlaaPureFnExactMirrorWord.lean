/- MirrorWord answers what the reference answers, for every text. No condition. -/
import Derived.Test.YtbpdjlpfmhanlaaPFFnExactMirrorWord
import Derived.Test.YtbpdjlpfmhanlaaUMirrorWord
namespace Go.Proofs.Ytbpdjlpfmhanlaa.Pure
set_option linter.unusedVariables false
set_option linter.unusedSimpArgs false
open Go.RowKit Go.Proofs.Ytbpdjlpfmhanlaa.P Go.Proofs.YtbpdjlpfmhanlaaW.PrintWords Go.Proofs.YtbpdjlpfmhanlaaW.PrintLast
theorem FnExactMirrorWord : laws_FnExactMirrorWord.Pure := by
  intro s hs
  refine Ev.rounds ?_
  unfold laws_FnExactMirrorWord.f
  obtain ⟨c1, c2⟩ := MirrorWord_both s (by omega)
  by_cases h : (s.size : Int) > 1048576
  · simp only [h, if_true]
    exact Ev.is rfl
  · simp only [h, if_false]
    refine Ev.bind c1 (Ev.bind0 c2 ?_)
    simp only [bne_self_eq_false, Bool.false_eq_true, if_false, if_true]
    exact Ev.is rfl
end Go.Proofs.Ytbpdjlpfmhanlaa.Pure
