/- WordOfRank answers what the reference answers, for every number; what it hands back is its own. No condition. -/
import Derived.Test.YtbpdjlpfmhanlaaPFFnExactWordOfRank
import Derived.Test.YtbpdjlpfmhanlaaUWordOfRank
import Derived.Test.YtbpdjlpfmhanlaaUmarkLaw
namespace Go.Proofs.Ytbpdjlpfmhanlaa.Pure
set_option linter.unusedVariables false
set_option linter.unusedSimpArgs false
open Go.RowKit Go.Proofs.Ytbpdjlpfmhanlaa.P Go.Proofs.YtbpdjlpfmhanlaaW.PrintWords Go.Proofs.YtbpdjlpfmhanlaaW.PrintLast
theorem FnExactWordOfRank : laws_FnExactWordOfRank.Pure := by
  intro a ha
  have wa := i64_of ha
  refine Ev.rounds ?_
  unfold laws_FnExactWordOfRank.f
  obtain ⟨r, hl, c1, c2⟩ := WordOfRank_both a wa.1 wa.2
  replace hl : r.1.length ≤ 1152921504606846976 := by omega
  have hne : ¬ (1 + (r.1.length : Int) < 0) := by omega
  refine Ev.bind c1 (Ev.bind c2 (Ev.bind (eqIntS_ev r.1 r.1 (by omega)) ?_))
  simp only [decide_true, if_true, bne_self_eq_false]
  refine Ev.step (fun k => by simp only [laws_FnExactWordOfRank.j0, Bool.false_eq_true, if_false]; rfl) ?_
  refine Ev.bind (mark_one r.1 hl) (Ev.bind (held_one _ hl) ?_)
  simp only [hne, if_false, if_true]
  refine Ev.bind c2 (Ev.bind (eqIntS_ev r.1 r.1 (by omega)) ?_)
  simp only [decide_true, if_true, bne_self_eq_false]
  refine Ev.step (fun k => by simp only [laws_FnExactWordOfRank.j1, Bool.false_eq_true, if_false]; rfl) ?_
  refine Ev.bind (held_one _ hl) ?_
  simp only [hne, if_false, if_true]
  exact Ev.is rfl
end Go.Proofs.Ytbpdjlpfmhanlaa.Pure
