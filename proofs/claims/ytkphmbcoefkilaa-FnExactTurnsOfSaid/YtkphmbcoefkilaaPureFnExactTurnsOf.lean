/- TurnsOf answers what the reference answers, for every text; what it hands back is its own. No condition. -/
import Derived.Test.YtkphmbcoefkilaaPFFnExactTurnsOf
import Derived.Test.YtkphmbcoefkilaaUturnsOf
import Derived.Test.YtkphmbcoefkilaaUmarkStringS
namespace Go.Proofs.Ytkphmbcoefkilaa.Pure
set_option linter.unusedVariables false
set_option linter.unusedSimpArgs false
open Go.RowKit Go.Proofs.Ytkphmbcoefkilaa.P Go.Proofs.YtkphmbcoefkilaaW.PrintWords Go.Proofs.YtkphmbcoefkilaaW.PrintLast
def turnsAll (s : ByteArray) : List ByteArray × Bool := if isLet s then ((turnsOf s).map ofBytes, true) else ([], false)
theorem spec_TurnsOf_ev (s : ByteArray) : Ev (fun k => spec_TurnsOf.f k s) (turnsAll s) := by
  unfold spec_TurnsOf.f turnsAll
  refine Ev.bind (chLetters_ev s) ?_
  cases hs : isLet s with
  | false =>
    simp only [Bool.false_eq_true, if_false]
    exact Ev.is rfl
  | true =>
    simp only [if_true]
    obtain ⟨h1, h40, hl⟩ := isLet_iff.1 hs
    exact Ev.bind (spec_turns_ev s (by omega)) (Ev.is rfl)
theorem impl_TurnsOf_ev (s : ByteArray) : Ev (fun k => impl_TurnsOf.f k s) (turnsAll s) := by
  unfold impl_TurnsOf.f turnsAll
  rw [impl_IsLetters_is]
  cases hs : isLet s with
  | false =>
    simp only [Option.bind_some, Bool.false_eq_true, if_false]
    exact Ev.is rfl
  | true =>
    simp only [Option.bind_some, if_true]
    obtain ⟨h1, h40, hl⟩ := isLet_iff.1 hs
    refine Ev.bind (impl_turns_ev s (by omega)) ?_
    have hl := turnsOf_length s
    unfold slices_Clone_string_string.f
    rw [if_pos (by rw [List.length_map]; omega)]
    exact Ev.is rfl
theorem turnsAll_length (s : ByteArray) : (turnsAll s).1.length ≤ 1000 := by
  unfold turnsAll
  cases hs : isLet s with
  | false => simp
  | true =>
    obtain ⟨h1, h40, hl⟩ := isLet_iff.1 hs
    have := turnsOf_length s
    simp only [if_true, List.length_map]
    omega
theorem FnExactTurnsOf : laws_FnExactTurnsOf.Pure := by
  intro s _
  refine Ev.rounds ?_
  unfold laws_FnExactTurnsOf.f
  by_cases h : (s.size : Int) > 1048576
  · simp only [h, if_true]
    exact Ev.is rfl
  · simp only [h, if_false]
    have e1 := spec_TurnsOf_ev s
    have e2 := impl_TurnsOf_ev s
    have hr := turnsAll_length s
    generalize turnsAll s = r at e1 e2 hr
    refine Ev.bind e1 (Ev.bind e2 (Ev.bind (eqStringS_ev r.1 (by omega)) ?_))
    simp only [if_true, bne_self_eq_false]
    refine Ev.step (fun k => by simp only [laws_FnExactTurnsOf.j0, Bool.false_eq_true, if_false]; rfl) ?_
    refine heldS_then r.1 false true _ (by omega) ?_
    refine Ev.bind e2 (Ev.bind (eqStringS_ev r.1 (by omega)) ?_)
    simp only [if_true, bne_self_eq_false]
    refine Ev.step (fun k => by simp only [laws_FnExactTurnsOf.j1, Bool.false_eq_true, if_false]; rfl) ?_
    exact heldS_last r.1.length (by omega)
end Go.Proofs.Ytkphmbcoefkilaa.Pure
