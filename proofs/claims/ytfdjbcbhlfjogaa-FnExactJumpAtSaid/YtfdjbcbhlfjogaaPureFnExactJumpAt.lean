/- JumpAt answers what the reference answers, for every list and all numbers; what it hands back is its own. No condition. -/
import Derived.Test.YtfdjbcbhlfjogaaPFFnExactJumpAt
import Derived.Test.YtfdjbcbhlfjogaaUhuJumpAt
import Derived.Test.YtfdjbcbhlfjogaaUtoIntS
import Derived.Test.YtfdjbcbhlfjogaaUheldLaw
namespace Go.Proofs.Ytfdjbcbhlfjogaa.Pure
set_option linter.unusedVariables false
set_option linter.unusedSimpArgs false
open Go.RowKit Go.Proofs.Ytfdjbcbhlfjogaa.P Go.Proofs.YtfdjbcbhlfjogaaW.PrintWords Go.Proofs.YtfdjbcbhlfjogaaW.PrintLast
theorem FnExactJumpAt : laws_FnExactJumpAt.Pure := by
  intro l a b i _ hl _ _ _ hi
  refine Ev.rounds ?_
  unfold laws_FnExactJumpAt.f
  by_cases h : (l.length : Int) > 1048576
  · simp only [h, if_true]
    exact Ev.is rfl
  · simp only [h, if_false]
    have e1 := spec_JumpAt_ev l a b i (by omega)
    have e2 := impl_JumpAt_ev l a b i
    have hr := jumpAt_length l a b i
    generalize jumpAt l a b i = r at e1 e2 hr
    refine Ev.bind (toIntS_ev l hl) (Ev.bind e1 (Ev.bind (toIntS_ev l hl) (Ev.bind e2 (Ev.bind (eqIntS_ev r.1 r.1 (by omega)) ?_))))
    simp only [decide_true, if_true, bne_self_eq_false]
    refine Ev.step (fun k => by simp only [laws_FnExactJumpAt.j0, Bool.false_eq_true, if_false]; rfl) ?_
    refine Ev.bind (toIntS_ev l hl) (Ev.bind (eqIntS_ev l l (by omega)) ?_)
    simp only [decide_true, if_true]
    refine Ev.bind (markIntS_ev l 1 (by omega) (by omega) (by omega)) ?_
    have h1 : ¬ (1 + (l.length : Int) < 0) := by omega
    simp only [h1, if_false]
    refine Ev.bind (eqIntS_ev r.1 r.1 (by omega)) ?_
    simp only [decide_true, if_true, bne_self_eq_false]
    refine Ev.step (fun k => by simp only [laws_FnExactJumpAt.j1, Bool.false_eq_true, if_false]; rfl) ?_
    refine held_then r.1 false true _ (by omega) ?_
    refine Ev.bind (toIntS_ev l hl) (Ev.bind e2 (Ev.bind (eqIntS_ev r.1 r.1 (by omega)) ?_))
    simp only [decide_true, if_true, bne_self_eq_false]
    refine Ev.step (fun k => by simp only [laws_FnExactJumpAt.j2, Bool.false_eq_true, if_false]; rfl) ?_
    exact held_last r.1.length (by omega)
end Go.Proofs.Ytfdjbcbhlfjogaa.Pure
