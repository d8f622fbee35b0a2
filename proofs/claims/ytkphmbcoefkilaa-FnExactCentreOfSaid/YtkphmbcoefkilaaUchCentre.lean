/- The centre of a Christoffel word: both texts. -/
import Derived.Test.YtkphmbcoefkilaaUchTwo
import Derived.Test.YtkphmbcoefkilaaPFimplCentreOf
import Derived.Test.YtkphmbcoefkilaaPFspecCentreOf
namespace Go.Proofs.Ytkphmbcoefkilaa.P
set_option linter.unusedVariables false
set_option linter.unusedSimpArgs false
open Go.RowKit Go.Proofs.YtkphmbcoefkilaaW.PrintWords Go.Proofs.YtkphmbcoefkilaaW.PrintLast Go.Proofs.YtkphmbcoefkilaaW.PrintMore
def centreOf (s : ByteArray) : ByteArray × Bool := if isTwo s then (s.extract 1 (s.size - 1), true) else ((⟨#[]⟩ : ByteArray), false)
theorem spec_CentreOf_ev (s : ByteArray) : Ev (fun k => spec_CentreOf.f k s) (centreOf s) := by
  unfold spec_CentreOf.f centreOf
  refine Ev.bind (chTwo_ev s) ?_
  cases h : isTwo s with
  | false =>
    simp only [Bool.false_eq_true, if_false]
    exact Ev.is rfl
  | true =>
    obtain ⟨h1, h2, h3⟩ := isTwo_iff.1 h
    obtain ⟨_, h40, hl⟩ := isLet_iff.1 h1
    have w1 : wrap64 ((s.size : Int) - 1) = ((s.size - 1 : Nat) : Int) := by rw [w64 (by omega) (by omega)]; omega
    have c1 : (1 : Int) ≤ ((s.size - 1 : Nat) : Int) := by omega
    have c2 : ((s.size - 1 : Nat) : Int) ≤ (s.size : Int) := by omega
    simp only [if_true, w1, c1, c2, Int.toNat_natCast]
    exact Ev.is rfl
theorem impl_CentreOf_ev (s : ByteArray) : Ev (fun k => impl_CentreOf.f k s) (centreOf s) := by
  unfold impl_CentreOf.f centreOf isTwo
  refine Ev.bind0 (impl_IsLetters_is s) ?_
  cases h : isLet s with
  | false =>
    simp only [Bool.false_eq_true, if_false, Bool.false_and]
    exact Ev.is rfl
  | true =>
    obtain ⟨h1, h40, hl⟩ := isLet_iff.1 h
    simp only [if_true, Bool.true_and]
    refine Ev.bind (isChristoffel_both s h40 hl).1 ?_
    cases hw : isW (bytesOf s) with
    | false =>
      simp only [Bool.and_false, Bool.false_eq_true, if_false]
      exact Ev.is rfl
    | true =>
      simp only [Bool.and_true, if_true]
      by_cases h2 : 2 ≤ s.size
      · have w1 : wrap64 ((s.size : Int) - 1) = ((s.size - 1 : Nat) : Int) := by rw [w64 (by omega) (by omega)]; omega
        have c0 : ¬ (s.size : Int) < 2 := by omega
        have c1 : (1 : Int) ≤ ((s.size - 1 : Nat) : Int) := by omega
        have c2 : ((s.size - 1 : Nat) : Int) ≤ (s.size : Int) := by omega
        rw [decide_eq_true h2]
        simp only [if_true, w1, c0, c1, c2, if_false, Int.toNat_natCast]
        exact Ev.is rfl
      · have c0 : (s.size : Int) < 2 := by omega
        rw [decide_eq_false h2]
        simp only [c0, if_true, Bool.false_eq_true, if_false]
        exact Ev.is rfl
end Go.Proofs.Ytkphmbcoefkilaa.P
