/- ModMove answers what the reference answers, for every list and all numbers; what it hands back is its own. No condition. -/
import Derived.Test.YthkmbkibceojlaaPFFnExactModMove
import Derived.Test.YthkmbkibceojlaaUmodMove
import Derived.Test.YthkmbkibceojlaaUtoIntS
import Derived.Test.YthkmbkibceojlaaUheldLaw
namespace Go.Proofs.Ythkmbkibceojlaa.Pure
set_option linter.unusedVariables false
set_option linter.unusedSimpArgs false
open Go.RowKit Go.Proofs.Ythkmbkibceojlaa.P Go.Proofs.YthkmbkibceojlaaW.PrintWords Go.Proofs.YthkmbkibceojlaaW.PrintLast
theorem FnExactModMove : laws_FnExactModMove.Pure := by
  intro p l i hp _ hl _ hi
  refine Ev.rounds ?_
  unfold laws_FnExactModMove.f
  by_cases h : (l.length : Int) > 1048576
  · simp only [h, if_true]
    exact Ev.is rfl
  · simp only [h, if_false]
    obtain ⟨r, hr, e1, e2⟩ := ModMove_both p l i (by omega) (i64_of hi)
    refine Ev.bind (toIntS_ev l hl) (Ev.bind e1 (Ev.bind (toIntS_ev l hl) (Ev.bind e2 (Ev.bind (eqIntS_ev r.1 r.1 (by omega)) ?_))))
    simp only [decide_true, if_true, bne_self_eq_false]
    refine Ev.step (fun k => by simp only [laws_FnExactModMove.j0, Bool.false_eq_true, if_false]; rfl) ?_
    refine Ev.bind (toIntS_ev l hl) (Ev.bind (eqIntS_ev l l (by omega)) ?_)
    simp only [decide_true, if_true]
    refine Ev.bind (markIntS_ev l 1 (by omega) (by omega) (by omega)) ?_
    have h1 : ¬ (1 + (l.length : Int) < 0) := by omega
    simp only [h1, if_false]
    refine Ev.bind (eqIntS_ev r.1 r.1 (by omega)) ?_
    simp only [decide_true, if_true, bne_self_eq_false]
    refine Ev.step (fun k => by simp only [laws_FnExactModMove.j1, Bool.false_eq_true, if_false]; rfl) ?_
    refine held_then r.1 false true _ (by omega) ?_
    refine Ev.bind (toIntS_ev l hl) (Ev.bind e2 (Ev.bind (eqIntS_ev r.1 r.1 (by omega)) ?_))
    simp only [decide_true, if_true, bne_self_eq_false]
    refine Ev.step (fun k => by simp only [laws_FnExactModMove.j2, Bool.false_eq_true, if_false]; rfl) ?_
    exact held_last r.1.length (by omega)
end Go.Proofs.Ythkmbkibceojlaa.Pure
