/- Is a solution fundamental: both texts. -/
import Derived.Test.YtfdjbcbhlfjogaaUhuAt
import Derived.Test.YtfdjbcbhlfjogaaPFimplisFundamental
import Derived.Test.YtfdjbcbhlfjogaaPFspechuLast
import Derived.Test.YtfdjbcbhlfjogaaPFimplIsFundamental
import Derived.Test.YtfdjbcbhlfjogaaPFspecIsFundamental
namespace Go.Proofs.Ytfdjbcbhlfjogaa.P
set_option linter.unusedVariables false
set_option linter.unusedSimpArgs false
open Go.RowKit Go.Proofs.YtfdjbcbhlfjogaaW.PrintWords Go.Proofs.YtfdjbcbhlfjogaaW.PrintLast Go.Proofs.YtfdjbcbhlfjogaaW.PrintMore
def lastOf (l : List Int) (a : Int) : Bool := !inB 1 (rd l 0 - 1) (oth l a 0)
theorem last_both {l : List Int} {a b : Int} (hg : huGv a b = true) (h : huIs l a b = true) : Ev (fun k => impl_isFundamental.f k l a) (lastOf l a) ∧ Ev (fun k => spec_huLast.f k l a) (lastOf l a) := by
  obtain ⟨h1, h2, h3, h4⟩ := huIs_iff.1 h
  obtain ⟨e1, e2⟩ := other_both hg h 0 (by omega)
  have hr := h2 _ (rd_mem (l := l) (i := 0) (by omega))
  have c : (0 : Int) < (l.length : Int) := by omega
  have w1 : wrap64 (rd l 0 - 1) = rd l 0 - 1 := w64 (by have : rd l 0 = rd l ((0 : Nat) : Int) := rfl; omega) (by have : rd l 0 = rd l ((0 : Nat) : Int) := rfl; omega)
  unfold impl_isFundamental.f spec_huLast.f lastOf
  simp only [c, if_true, w1]
  constructor
  · refine Ev.bind e1 ?_
    rw [within_inB]
    exact Ev.is rfl
  · refine Ev.bind e2 ?_
    rw [l1In_inB]
    exact Ev.is rfl
def isFund (l : List Int) (a b : Int) : Bool × Bool := if huSol l a b then (lastOf l a, true) else (false, false)
theorem spec_IsFundamental_ev (l : List Int) (a b : Int) (hn : l.length ≤ 4611686018427387904) : Ev (fun k => spec_IsFundamental.f k l a b) (isFund l a b) := by
  unfold spec_IsFundamental.f isFund huSol
  refine Ev.bind0 (huGiven_is a b) ?_
  cases hg : huGv a b with
  | false =>
    simp only [Bool.false_eq_true, if_false, Bool.false_and]
    exact Ev.is rfl
  | true =>
    simp only [if_true, Bool.true_and]
    refine Ev.bind (huGood_ev l a b hg hn) ?_
    cases hs : huIs l a b with
    | false =>
      simp only [Bool.false_eq_true, if_false]
      exact Ev.is rfl
    | true =>
      simp only [if_true]
      exact Ev.bind (last_both hg hs).2 (Ev.is rfl)
theorem impl_IsFundamental_ev (l : List Int) (a b : Int) : Ev (fun k => impl_IsFundamental.f k l a b) (isFund l a b) := by
  unfold impl_IsFundamental.f isFund
  refine Ev.bind (isSolution_ev l a b) ?_
  cases hs : huSol l a b with
  | false =>
    simp only [Bool.false_eq_true, if_false]
    exact Ev.is rfl
  | true =>
    simp only [if_true]
    exact Ev.bind (last_both (huSol_iff.1 hs).1 (huSol_iff.1 hs).2).1 (Ev.is rfl)
end Go.Proofs.Ytfdjbcbhlfjogaa.P
