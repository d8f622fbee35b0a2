/- IsChristoffel answers what the reference answers, for every text. No condition. -/
import Derived.Test.YtkphmbcoefkilaaPFFnExactIsChristoffel
import Derived.Test.YtkphmbcoefkilaaUchW
namespace Go.Proofs.Ytkphmbcoefkilaa.Pure
set_option linter.unusedVariables false
set_option linter.unusedSimpArgs false
open Go.RowKit Go.Proofs.Ytkphmbcoefkilaa.P Go.Proofs.YtkphmbcoefkilaaW.PrintWords Go.Proofs.YtkphmbcoefkilaaW.PrintLast
theorem FnExactIsChristoffel : laws_FnExactIsChristoffel.Pure := by
  intro s _
  refine Ev.rounds ?_
  unfold laws_FnExactIsChristoffel.f spec_IsChristoffel.f impl_IsChristoffel.f
  by_cases h : (s.size : Int) > 1048576
  · simp only [h, if_true]
    exact Ev.is rfl
  · simp only [h, if_false]
    refine Ev.bind (a := (isLet s && isW (bytesOf s), isLet s)) (Ev.bind (chLetters_ev s) ?_) (Ev.bind (a := (isLet s && isW (bytesOf s), isLet s)) (Ev.bind0 (impl_IsLetters_is s) ?_) ?_)
    · cases hs : isLet s with
      | false =>
        simp only [Bool.false_eq_true, if_false, Bool.false_and]
        exact Ev.is rfl
      | true =>
        obtain ⟨h1, h40, hl⟩ := isLet_iff.1 hs
        simp only [if_true, Bool.true_and]
        exact Ev.bind (isChristoffel_both s h40 hl).2 (Ev.is rfl)
    · cases hs : isLet s with
      | false =>
        simp only [Bool.false_eq_true, if_false, Bool.false_and]
        exact Ev.is rfl
      | true =>
        obtain ⟨h1, h40, hl⟩ := isLet_iff.1 hs
        simp only [if_true, Bool.true_and]
        exact Ev.bind (isChristoffel_both s h40 hl).1 (Ev.is rfl)
    · simp only [bne_self_eq_false, Bool.false_eq_true, if_false]
      exact Ev.is rfl
end Go.Proofs.Ytkphmbcoefkilaa.Pure
