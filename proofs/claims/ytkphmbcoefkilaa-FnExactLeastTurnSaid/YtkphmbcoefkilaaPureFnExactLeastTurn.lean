/- LeastTurn answers what the reference answers, for every text. No condition. -/
import Derived.Test.YtkphmbcoefkilaaPFFnExactLeastTurn
import Derived.Test.YtkphmbcoefkilaaUturnsOf
namespace Go.Proofs.Ytkphmbcoefkilaa.Pure
set_option linter.unusedVariables false
set_option linter.unusedSimpArgs false
open Go.RowKit Go.Proofs.Ytkphmbcoefkilaa.P Go.Proofs.YtkphmbcoefkilaaW.PrintWords Go.Proofs.YtkphmbcoefkilaaW.PrintLast
theorem FnExactLeastTurn : laws_FnExactLeastTurn.Pure := by
  intro s _
  refine Ev.rounds ?_
  unfold laws_FnExactLeastTurn.f spec_LeastTurn.f impl_LeastTurn.f
  by_cases h : (s.size : Int) > 1048576
  · simp only [h, if_true]
    exact Ev.is rfl
  · simp only [h, if_false]
    rw [impl_IsLetters_is]
    have hc := chLetters_ev s
    cases hs : isLet s with
    | false =>
      rw [hs] at hc
      refine Ev.bind (a := ((⟨#[]⟩ : ByteArray), false)) (Ev.bind hc ?_) ?_
      · simp only [Bool.false_eq_true, if_false]
        exact Ev.is rfl
      · simp only [Option.bind_some, Bool.false_eq_true, if_false, if_true, bne_self_eq_false]
        exact Ev.is rfl
    | true =>
      rw [hs] at hc
      obtain ⟨h1, h40, hl⟩ := isLet_iff.1 hs
      have hlen : (0 : Int) < (((turnsOf s).map ofBytes).length : Int) := by
        have := turnsOf_some s h1
        rw [List.length_map]
        omega
      refine Ev.bind (a := (rdOf ByteArray.empty ((turnsOf s).map ofBytes) 0, true)) (Ev.bind hc ?_) (Ev.bind (a := (rdOf ByteArray.empty ((turnsOf s).map ofBytes) 0, true)) ?_ ?_)
      · simp only [if_true]
        refine Ev.bind (spec_turns_ev s (by omega)) ?_
        simp only [hlen, if_true]
        exact Ev.is rfl
      · simp only [Option.bind_some, if_true]
        refine Ev.bind (impl_turns_ev s (by omega)) ?_
        simp only [hlen, if_true]
        exact Ev.is rfl
      · simp only [if_true, bne_self_eq_false, Bool.false_eq_true, if_false]
        exact Ev.is rfl
end Go.Proofs.Ytkphmbcoefkilaa.Pure
