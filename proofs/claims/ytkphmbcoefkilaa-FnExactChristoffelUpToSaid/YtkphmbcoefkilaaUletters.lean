/- spec.chLetters and impl.isWord tell the same: a text of 1 to 40 letters a and b. -/
import Derived.Test.YtkphmbcoefkilaaUbase
import Derived.Test.YtkphmbcoefkilaaPFspecchLetters
import Derived.Test.YtkphmbcoefkilaaPFimplIsLetters
import Derived.Test.YtkphmbcoefkilaaGisWord
namespace Go.Proofs.Ytkphmbcoefkilaa.P
set_option linter.unusedVariables false
set_option linter.unusedSimpArgs false
open Go.RowKit Go.Proofs.YtkphmbcoefkilaaW.PrintWords Go.Proofs.YtkphmbcoefkilaaW.PrintLast

/-- A text of 1 to 40 letters a and b. -/
def isLet (s : ByteArray) : Bool := decide (1 ≤ s.size) && (decide (s.size ≤ 40) && (bytesOf s).all (oneOf 97 98))
theorem bytes_drop (s : ByteArray) (i : Nat) (h : i < s.size) : (bytesOf s).drop i = bt s (i : Int) :: (bytesOf s).drop (i + 1) := by
  rw [rd_drop _ i (by rw [bytesOf_length]; exact h), rd_bytesOf]
theorem chLetters_from (s : ByteArray) (hn : s.size ≤ 4611686018427387904) (d : Nat) : ∀ i : Nat, i + d = s.size → Ev (fun k => spec_chLetters.l0 k s (i : Int)) (((bytesOf s).drop i).all (oneOf 97 98)) := by
  induction d with
  | zero =>
    intro i hi
    refine Ev.step (fun k => by simp only [spec_chLetters.l0]; rw [if_neg (by omega)]) ?_
    rw [List.drop_eq_nil_of_le (by rw [bytesOf_length]; omega)]
    exact Ev.is rfl
  | succ d ih =>
    intro i hi
    refine Ev.step (fun k => by simp only [spec_chLetters.l0]; rw [if_pos (by omega), if_pos (by omega), w64_succ (n := s.size) (by omega) hn]) ?_
    rw [bytes_drop s i (by omega), List.all_cons]
    by_cases h1 : bt s (i : Int) = 97
    · have e : oneOf 97 98 (bt s (i : Int)) = true := by simp [oneOf, h1]
      simp only [h1, if_true]
      rw [h1] at e
      rw [e, Bool.true_and]
      exact ih (i + 1) (by omega)
    · by_cases h2 : bt s (i : Int) = 98
      · have e : oneOf 97 98 (bt s (i : Int)) = true := by simp [oneOf, h2]
        simp only [h2, if_true, if_false]
        rw [h2] at e
        rw [e, Bool.true_and]
        exact ih (i + 1) (by omega)
      · have e : oneOf 97 98 (bt s (i : Int)) = false := by simp [oneOf, h1, h2]
        simp only [h1, h2, if_false]
        rw [e]
        exact Ev.is rfl
theorem chLetters_ev (s : ByteArray) : Ev (fun k => spec_chLetters.f k s) (isLet s) := by
  unfold spec_chLetters.f spec_l1In.f isLet
  by_cases h1 : 1 ≤ s.size
  · have e1 : (s.size : Int) ≥ 1 := by omega
    rw [decide_eq_true h1, Bool.true_and]
    by_cases h2 : s.size ≤ 40
    · have e2 : decide ((s.size : Int) ≤ 40) = true := decide_eq_true (by omega)
      simp only [e1, e2, if_true, Option.bind_some]
      rw [decide_eq_true h2, Bool.true_and]
      exact chLetters_from s (by omega) s.size 0 (by omega)
    · have e2 : decide ((s.size : Int) ≤ 40) = false := decide_eq_false (by omega)
      simp only [e1, e2, if_true, Option.bind_some]
      rw [decide_eq_false h2]
      exact Ev.is rfl
  · have e1 : ¬ (s.size : Int) ≥ 1 := by omega
    simp only [e1, if_false, Option.bind_some]
    rw [decide_eq_false h1]
    exact Ev.is rfl
theorem impl_IsLetters_is (s : ByteArray) : impl_IsLetters.f s = some (isLet s) := by
  unfold impl_IsLetters.f impl_isWord.f isLet
  have hl : s.toList.length = s.size := by rw [ByteArray.toList_eq, data_length]
  by_cases h1 : 1 ≤ s.size
  · have e : ¬ s.toList = [] := by
      intro h
      rw [h] at hl
      simp at hl
      omega
    rw [if_neg e, decide_eq_true h1, Bool.true_and]
    simp only [Option.bind_some]
    congr 2
    exact decide_eq_decide.2 (by omega)
  · have e : s.toList = [] := List.eq_nil_of_length_eq_zero (by omega)
    rw [if_pos e, decide_eq_false h1]
    rfl
end Go.Proofs.Ytkphmbcoefkilaa.P
