/- CountsOf answers what the reference answers, for every text. No condition. -/
import Derived.Test.YtkphmbcoefkilaaPFFnExactCountsOf
import Derived.Test.YtkphmbcoefkilaaUcounts
namespace Go.Proofs.Ytkphmbcoefkilaa.Pure
set_option linter.unusedVariables false
set_option linter.unusedSimpArgs false
open Go.RowKit Go.Proofs.Ytkphmbcoefkilaa.P Go.Proofs.YtkphmbcoefkilaaW.PrintWords Go.Proofs.YtkphmbcoefkilaaW.PrintLast
theorem FnExactCountsOf : laws_FnExactCountsOf.Pure := by
  intro s _
  refine Ev.rounds ?_
  unfold laws_FnExactCountsOf.f spec_CountsOf.f impl_CountsOf.f
  by_cases h : (s.size : Int) > 1048576
  · simp only [h, if_true]
    exact Ev.is rfl
  · simp only [h, if_false]
    rw [impl_IsLetters_is]
    cases hs : isLet s with
    | false =>
      rw [← hs] 
      refine Ev.bind (a := (0, 0, false)) (Ev.bind (chLetters_ev s) ?_) ?_
      · simp only [hs, Bool.false_eq_true, if_false]
        exact Ev.is rfl
      · simp only [hs, Option.bind_some, Bool.false_eq_true, if_false, if_true, bne_self_eq_false]
        exact Ev.is rfl
    | true =>
      obtain ⟨h1, h40, hl⟩ := isLet_iff.1 hs
      have hn := lets_num hl
      have hb := num_both hl
      rw [bytesOf_length] at hb
      refine Ev.bind (a := ((numA (bytesOf s) : Int), (numB (bytesOf s) : Int), true)) (Ev.bind (chLetters_ev s) ?_) ?_
      · simp only [hs, if_true]
        refine Ev.bind (chMany_ev s (by omega)) (Ev.bind (chMany_ev s (by omega)) (Ev.is ?_))
        rw [hn, w64 (by omega) (by omega)]
      · simp only [Option.bind_some, if_true, counts_is, bne_self_eq_false, Bool.false_eq_true, if_false]
        exact Ev.is rfl
end Go.Proofs.Ytkphmbcoefkilaa.Pure
