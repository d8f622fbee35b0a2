/- Is it a solution, and the other root at an index: both texts. -/
import Derived.Test.YtfdjbcbhlfjogaaUhurwitz
import Derived.Test.YtfdjbcbhlfjogaaPFimplisSolution
import Derived.Test.YtfdjbcbhlfjogaaPFimplOtherRootAt
import Derived.Test.YtfdjbcbhlfjogaaPFspecOtherRootAt
namespace Go.Proofs.Ytfdjbcbhlfjogaa.P
set_option linter.unusedVariables false
set_option linter.unusedSimpArgs false
open Go.RowKit Go.Proofs.YtfdjbcbhlfjogaaW.PrintWords Go.Proofs.YtfdjbcbhlfjogaaW.PrintLast Go.Proofs.YtfdjbcbhlfjogaaW.PrintMore

def huSol (l : List Int) (a b : Int) : Bool := huGv a b && huIs l a b
theorem isSolution_ev (l : List Int) (a b : Int) : Ev (fun k => impl_isSolution.f k l a b) (huSol l a b) := by
  unfold impl_isSolution.f huSol
  refine Ev.bind0 (areGiven_is a b) ?_
  cases hg : huGv a b with
  | false =>
    simp only [Bool.false_eq_true, if_false, Bool.false_and]
    exact Ev.is rfl
  | true =>
    simp only [if_true, Bool.true_and]
    exact Ev.bind (isHurwitz_ev l a b hg) (Ev.is rfl)
theorem huSol_iff {l : List Int} {a b : Int} : huSol l a b = true ↔ huGv a b = true ∧ huIs l a b = true := by simp [huSol]
/-- What stands behind both texts' tests: the index is one of the list's. -/
theorem index_of {l : List Int} {i : Int} (hl : 1 ≤ l.length) (hn : l.length ≤ 4) : inB 0 (wrap64 ((l.length : Int) - 1)) i = decide (0 ≤ i ∧ i < l.length) := by
  rw [w64 (by omega) (by omega)]
  unfold inB
  simp only [Bool.decide_and]
  congr 1
  exact decide_eq_decide.2 (by omega)
/-- If it's a solution and an index, go on; otherwise say no: the reference's tests. -/
theorem spec_tests {α : Type} (l : List Int) (a b i : Int) (hn : l.length ≤ 4611686018427387904) (no r : α) (f : Nat → Option α) (h : huSol l a b = true → 0 ≤ i → i < l.length → Ev f r) (hno : (huSol l a b && decide (0 ≤ i ∧ i < l.length)) = false → r = no) :
    Ev (fun k => (spec_huGiven.f a b).bind fun t => if t = true then ((spec_huGood.f k l a b).bind fun t => if t = true then ((spec_l1In.f i 0 (wrap64 ((l.length : Int) - 1))).bind fun t => if t = true then f k else some no) else some no) else some no) r := by
  refine Ev.bind0 (huGiven_is a b) ?_
  cases hg : huGv a b with
  | false =>
    simp only [Bool.false_eq_true, if_false]
    exact Ev.is (by rw [hno (by simp [huSol, hg])])
  | true =>
    simp only [if_true]
    refine Ev.bind (huGood_ev l a b hg hn) ?_
    cases hs : huIs l a b with
    | false =>
      simp only [Bool.false_eq_true, if_false]
      exact Ev.is (by rw [hno (by simp [huSol, hs])])
    | true =>
      simp only [if_true]
      have h1 := (huIs_iff.1 hs).1
      rw [l1In_inB, index_of (by omega) h1.2]
      refine Ev.bind0 rfl ?_
      by_cases hi : 0 ≤ i ∧ i < l.length
      · rw [decide_eq_true hi]
        simp only [if_true]
        exact h (by simp [huSol, hg, hs]) hi.1 hi.2
      · rw [decide_eq_false hi]
        simp only [Bool.false_eq_true, if_false]
        exact Ev.is (by rw [hno (by rw [decide_eq_false hi, Bool.and_false])])
/-- The same: the program's tests. -/
theorem impl_tests {α : Type} (l : List Int) (a b i : Int) (no r : α) (f : Nat → Option α) (h : huSol l a b = true → 0 ≤ i → i < l.length → Ev f r) (hno : (huSol l a b && decide (0 ≤ i ∧ i < l.length)) = false → r = no) :
    Ev (fun k => (impl_isSolution.f k l a b).bind fun t => if t = true then ((impl_within.f i 0 (wrap64 ((l.length : Int) - 1))).bind fun t => if t = true then f k else some no) else some no) r := by
  refine Ev.bind (isSolution_ev l a b) ?_
  cases hs : huSol l a b with
  | false =>
    simp only [Bool.false_eq_true, if_false]
    exact Ev.is (by rw [hno (by simp [hs])])
  | true =>
    simp only [if_true]
    have h1 := (huIs_iff.1 (huSol_iff.1 hs).2).1
    rw [within_inB, index_of (by omega) h1.2]
    refine Ev.bind0 rfl ?_
    by_cases hi : 0 ≤ i ∧ i < l.length
    · rw [decide_eq_true hi]
      simp only [if_true]
      exact h hs hi.1 hi.2
    · rw [decide_eq_false hi]
      simp only [Bool.false_eq_true, if_false]
      exact Ev.is (by rw [hno (by rw [decide_eq_false hi, Bool.and_false])])

def othAt (l : List Int) (a b i : Int) : Int × Bool := if huSol l a b && decide (0 ≤ i ∧ i < l.length) then (oth l a i.toNat, true) else (0, false)
theorem spec_OtherRootAt_ev (l : List Int) (a b i : Int) (hn : l.length ≤ 4611686018427387904) : Ev (fun k => spec_OtherRootAt.f k l a b i) (othAt l a b i) := by
  unfold spec_OtherRootAt.f othAt
  refine spec_tests l a b i hn (0, false) _ _ (fun hs h0 h1 => ?_) (fun h => by rw [h]; rfl)
  rw [hs, decide_eq_true ⟨h0, h1⟩]
  have hE := (other_both (huSol_iff.1 hs).1 (huSol_iff.1 hs).2 i.toNat (by omega)).2
  rw [Int.toNat_of_nonneg h0] at hE
  exact Ev.bind hE (Ev.is rfl)
theorem impl_OtherRootAt_ev (l : List Int) (a b i : Int) : Ev (fun k => impl_OtherRootAt.f k l a b i) (othAt l a b i) := by
  unfold impl_OtherRootAt.f othAt
  refine impl_tests l a b i (0, false) _ _ (fun hs h0 h1 => ?_) (fun h => by rw [h]; rfl)
  rw [hs, decide_eq_true ⟨h0, h1⟩]
  have hE := (other_both (huSol_iff.1 hs).1 (huSol_iff.1 hs).2 i.toNat (by omega)).1
  rw [Int.toNat_of_nonneg h0] at hE
  exact Ev.bind hE (Ev.is rfl)
end Go.Proofs.Ytfdjbcbhlfjogaa.P
