/- MarkovOfWord answers what the reference answers, for every text; what it hands back is its own. No condition. -/
import Derived.Test.YthkmbkibceojlaaPFFnExactMarkovOfWord
import Derived.Test.YthkmbkibceojlaaUmkWord
import Derived.Test.YthkmbkibceojlaaUheldLaw
namespace Go.Proofs.Ythkmbkibceojlaa.Pure
set_option linter.unusedVariables false
set_option linter.unusedSimpArgs false
open Go.RowKit Go.Proofs.Ythkmbkibceojlaa.P Go.Proofs.YthkmbkibceojlaaW.PrintWords Go.Proofs.YthkmbkibceojlaaW.PrintLast
theorem FnExactMarkovOfWord : laws_FnExactMarkovOfWord.Pure := by
  intro s _
  refine Ev.rounds ?_
  unfold laws_FnExactMarkovOfWord.f
  by_cases h : (s.size : Int) > 1048576
  · simp only [h, if_true]
    exact Ev.is rfl
  · simp only [h, if_false]
    obtain ⟨r, hr, e1, e2⟩ := Word_both s
    refine Ev.bind e1 (Ev.bind e2 (Ev.bind (eqIntS_ev r.1 r.1 (by omega)) ?_))
    simp only [decide_true, if_true, bne_self_eq_false]
    refine Ev.step (fun k => by simp only [laws_FnExactMarkovOfWord.j0, Bool.false_eq_true, if_false]; rfl) ?_
    refine held_then r.1 false true _ (by omega) ?_
    refine Ev.bind e2 (Ev.bind (eqIntS_ev r.1 r.1 (by omega)) ?_)
    simp only [decide_true, if_true, bne_self_eq_false]
    refine Ev.step (fun k => by simp only [laws_FnExactMarkovOfWord.j1, Bool.false_eq_true, if_false]; rfl) ?_
    exact held_last r.1.length (by omega)
end Go.Proofs.Ythkmbkibceojlaa.Pure
