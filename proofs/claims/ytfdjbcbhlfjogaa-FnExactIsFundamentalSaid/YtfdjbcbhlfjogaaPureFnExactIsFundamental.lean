/- IsFundamental answers what the reference answers, for every list and all numbers. No condition. -/
import Derived.Test.YtfdjbcbhlfjogaaPFFnExactIsFundamental
import Derived.Test.YtfdjbcbhlfjogaaUhuLast
import Derived.Test.YtfdjbcbhlfjogaaUtoIntS
import Derived.Test.YtfdjbcbhlfjogaaUeqIntS
namespace Go.Proofs.Ytfdjbcbhlfjogaa.Pure
set_option linter.unusedVariables false
set_option linter.unusedSimpArgs false
open Go.RowKit Go.Proofs.Ytfdjbcbhlfjogaa.P Go.Proofs.YtfdjbcbhlfjogaaW.PrintWords Go.Proofs.YtfdjbcbhlfjogaaW.PrintLast
theorem FnExactIsFundamental : laws_FnExactIsFundamental.Pure := by
  intro l a b _ hl _ _ _
  refine Ev.rounds ?_
  unfold laws_FnExactIsFundamental.f
  by_cases h : (l.length : Int) > 1048576
  · simp only [h, if_true]
    exact Ev.is rfl
  · simp only [h, if_false]
    refine Ev.bind (toIntS_ev l hl) (Ev.bind (spec_IsFundamental_ev l a b (by omega)) (Ev.bind (toIntS_ev l hl) (Ev.bind (impl_IsFundamental_ev l a b) ?_)))
    simp only [bne_self_eq_false, Bool.false_eq_true, if_false]
    refine Ev.step (f := fun k => (laws_toIntS.f k l).bind fun t141 => ((laws_eqIntS.f k l t141).bind fun t144 => (if t144 = true then (some true) else (some false)))) (fun k => by simp only [laws_FnExactIsFundamental.j0, Bool.false_eq_true, if_false]) ?_
    refine Ev.bind (toIntS_ev l hl) (Ev.bind (eqIntS_ev l l (by omega)) ?_)
    simp only [decide_true, if_true]
    exact Ev.is rfl
end Go.Proofs.Ytfdjbcbhlfjogaa.Pure
