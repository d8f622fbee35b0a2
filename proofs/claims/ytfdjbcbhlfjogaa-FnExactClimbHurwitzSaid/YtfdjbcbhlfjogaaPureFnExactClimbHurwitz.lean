/- ClimbHurwitz answers what the reference answers, for all lists and numbers; what it hands back is its own. No condition. -/
import Derived.Test.YtfdjbcbhlfjogaaPFFnExactClimbHurwitz
import Derived.Test.YtfdjbcbhlfjogaaUhuClimb
import Derived.Test.YtfdjbcbhlfjogaaUtoIntS
import Derived.Test.YtfdjbcbhlfjogaaUheldLaw
namespace Go.Proofs.Ytfdjbcbhlfjogaa.Pure
set_option linter.unusedVariables false
set_option linter.unusedSimpArgs false
open Go.RowKit Go.Proofs.Ytfdjbcbhlfjogaa.P Go.Proofs.YtfdjbcbhlfjogaaW.PrintWords Go.Proofs.YtfdjbcbhlfjogaaW.PrintLast
theorem FnExactClimbHurwitz : laws_FnExactClimbHurwitz.Pure := by
  intro l a b m _ hl _ _ _ _ hm _
  refine Ev.rounds ?_
  unfold laws_FnExactClimbHurwitz.f
  by_cases h : (l.length : Int) > 1048576
  · simp only [h, if_true]
    exact Ev.is rfl
  · by_cases h' : (m.length : Int) > 1048576
    · simp only [h, h', if_true, if_false]
      exact Ev.is rfl
    · simp only [h, h', if_false]
      obtain ⟨e2, e1⟩ := climb_both l a b m (by omega) (by omega)
      have hr := climbOf_length l a b m
      generalize climbOf l a b m = r at e1 e2 hr
      refine Ev.bind (toIntS_ev l hl) (Ev.bind (toIntS_ev m hm) (Ev.bind e1 (Ev.bind (toIntS_ev l hl) (Ev.bind (toIntS_ev m hm) (Ev.bind e2 (Ev.bind (eqIntS_ev r.1 r.1 (by omega)) ?_))))))
      simp only [decide_true, if_true, bne_self_eq_false]
      refine Ev.step (fun k => by simp only [laws_FnExactClimbHurwitz.j0, Bool.false_eq_true, if_false]; rfl) ?_
      refine Ev.bind (toIntS_ev l hl) (Ev.bind (eqIntS_ev l l (by omega)) ?_)
      simp only [decide_true, if_true]
      refine Ev.bind (toIntS_ev m hm) (Ev.bind (eqIntS_ev m m (by omega)) ?_)
      simp only [decide_true, if_true]
      refine Ev.bind (markIntS_ev l 1 (by omega) (by omega) (by omega)) (Ev.bind (markIntS_ev m _ (by omega) (by omega) (by omega)) ?_)
      have h1 : ¬ (1 + (l.length : Int) + (m.length : Int) < 0) := by omega
      simp only [h1, if_false]
      refine Ev.bind (eqIntS_ev r.1 r.1 (by omega)) ?_
      simp only [decide_true, if_true, bne_self_eq_false]
      refine Ev.step (fun k => by simp only [laws_FnExactClimbHurwitz.j1, Bool.false_eq_true, if_false]; rfl) ?_
      refine held_then r.1 false true _ (by omega) ?_
      refine Ev.bind (toIntS_ev l hl) (Ev.bind (toIntS_ev m hm) (Ev.bind e2 (Ev.bind (eqIntS_ev r.1 r.1 (by omega)) ?_)))
      simp only [decide_true, if_true, bne_self_eq_false]
      refine Ev.step (fun k => by simp only [laws_FnExactClimbHurwitz.j2, Bool.false_eq_true, if_false]; rfl) ?_
      exact held_last r.1.length (by omega)
end Go.Proofs.Ytfdjbcbhlfjogaa.Pure
