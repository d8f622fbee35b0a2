/- IsHurwitz answers what the reference answers, for every list and all numbers. No condition. -/
import Derived.Test.YtfdjbcbhlfjogaaPFFnExactIsHurwitz
import Derived.Test.YtfdjbcbhlfjogaaUhurwitz
import Derived.Test.YtfdjbcbhlfjogaaUtoIntS
import Derived.Test.YtfdjbcbhlfjogaaUeqIntS
namespace Go.Proofs.Ytfdjbcbhlfjogaa.Pure
set_option linter.unusedVariables false
set_option linter.unusedSimpArgs false
open Go.RowKit Go.Proofs.Ytfdjbcbhlfjogaa.P Go.Proofs.YtfdjbcbhlfjogaaW.PrintWords Go.Proofs.YtfdjbcbhlfjogaaW.PrintLast
theorem FnExactIsHurwitz : laws_FnExactIsHurwitz.Pure := by
  intro l a b _ hl _ _ _
  refine Ev.rounds ?_
  unfold laws_FnExactIsHurwitz.f
  by_cases h : (l.length : Int) > 1048576
  · simp only [h, if_true]
    exact Ev.is rfl
  · simp only [h, if_false]
    have h1 : Ev (fun k => spec_IsHurwitz.f k l a b) (huGv a b && huIs l a b, huGv a b) := by
      unfold spec_IsHurwitz.f
      refine Ev.bind0 (huGiven_is a b) ?_
      cases hg : huGv a b with
      | false =>
        simp only [Bool.false_eq_true, if_false, Bool.false_and]
        exact Ev.is rfl
      | true =>
        simp only [if_true, Bool.true_and]
        exact Ev.bind (huGood_ev l a b hg (by omega)) (Ev.is rfl)
    have h2 : Ev (fun k => impl_IsHurwitz.f k l a b) (huGv a b && huIs l a b, huGv a b) := by
      unfold impl_IsHurwitz.f
      refine Ev.bind0 (areGiven_is a b) ?_
      cases hg : huGv a b with
      | false =>
        simp only [Bool.false_eq_true, if_false, Bool.false_and]
        exact Ev.is rfl
      | true =>
        simp only [if_true, Bool.true_and]
        exact Ev.bind (isHurwitz_ev l a b hg) (Ev.is rfl)
    refine Ev.bind (toIntS_ev l hl) (Ev.bind h1 (Ev.bind (toIntS_ev l hl) (Ev.bind h2 ?_)))
    simp only [bne_self_eq_false, Bool.false_eq_true, if_false]
    refine Ev.step (f := fun k => (laws_toIntS.f k l).bind fun t141 => ((laws_eqIntS.f k l t141).bind fun t144 => (if t144 = true then (some true) else (some false)))) (fun k => by simp only [laws_FnExactIsHurwitz.j0, Bool.false_eq_true, if_false]) ?_
    refine Ev.bind (toIntS_ev l hl) (Ev.bind (eqIntS_ev l l (by omega)) ?_)
    simp only [decide_true, if_true]
    exact Ev.is rfl
end Go.Proofs.Ytfdjbcbhlfjogaa.Pure
