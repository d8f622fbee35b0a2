/- Letters that are a Christoffel word of two letters or more. -/
import Derived.Test.YtkphmbcoefkilaaUchW
import Derived.Test.YtkphmbcoefkilaaPFspecchTwo
namespace Go.Proofs.Ytkphmbcoefkilaa.P
set_option linter.unusedVariables false
set_option linter.unusedSimpArgs false
open Go.RowKit Go.Proofs.YtkphmbcoefkilaaW.PrintWords Go.Proofs.YtkphmbcoefkilaaW.PrintLast Go.Proofs.YtkphmbcoefkilaaW.PrintMore
/-- Letters that are a Christoffel word of two letters or more. -/
def isTwo (s : ByteArray) : Bool := isLet s && (decide (2 ≤ s.size) && isW (bytesOf s))
theorem chTwo_ev (s : ByteArray) : Ev (fun k => spec_chTwo.f k s) (isTwo s) := by
  unfold spec_chTwo.f isTwo
  refine Ev.bind (chLetters_ev s) ?_
  cases h : isLet s with
  | false =>
    simp only [Bool.false_eq_true, if_false, Bool.false_and]
    exact Ev.is rfl
  | true =>
    obtain ⟨h1, h40, hl⟩ := isLet_iff.1 h
    simp only [if_true, Bool.true_and]
    by_cases h2 : 2 ≤ s.size
    · have h3 : (s.size : Int) > 1 := by omega
      rw [decide_eq_true h2, Bool.true_and]
      simp only [h3, if_true]
      exact Ev.bind (isChristoffel_both s h40 hl).2 (Ev.is rfl)
    · have h3 : ¬ (s.size : Int) > 1 := by omega
      rw [decide_eq_false h2, Bool.false_and]
      simp only [h3, if_false]
      exact Ev.is rfl
theorem isTwo_iff {s : ByteArray} : isTwo s = true ↔ isLet s = true ∧ 2 ≤ s.size ∧ isW (bytesOf s) = true := by simp [isTwo]
end Go.Proofs.Ytkphmbcoefkilaa.P
