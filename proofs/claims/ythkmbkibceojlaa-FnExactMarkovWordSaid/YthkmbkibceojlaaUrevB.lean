/- slices.Reverse at bytes turns a list. -/
import Derived.Test.YthkmbkibceojlaaUbase
import Derived.Test.YthkmbkibceojlaaPFslicesReversebytebyte
namespace Go.Proofs.Ythkmbkibceojlaa.P
set_option linter.unusedVariables false
set_option linter.unusedSimpArgs false
open Go.RowKit Go.Proofs.YthkmbkibceojlaaW.PrintWords Go.Proofs.YthkmbkibceojlaaW.PrintLast

def turnedB (xs : List Int) (i : Nat) : List Int := (List.range xs.length).map fun p => if p < i ∨ xs.length - i ≤ p then xs.getD (xs.length - 1 - p) 0 else xs.getD p 0
theorem turnedB_length (xs : List Int) (i : Nat) : (turnedB xs i).length = xs.length := by simp [turnedB]
theorem turnedB_zero (xs : List Int) : turnedB xs 0 = xs := by
  apply List.ext_getElem
  · simp [turnedB]
  · intro p h1 h2
    simp [turnedB, List.getD_eq_getElem?_getD, h2]
    omega
theorem turnedB_end (xs : List Int) (i : Nat) (h : xs.length ≤ 2 * i + 1) : turnedB xs i = xs.reverse := by
  apply List.ext_getElem
  · simp [turnedB]
  · intro p h1 h2
    have h3 : p < xs.length := by simpa using h2
    rw [List.getElem_reverse]
    simp only [turnedB, List.getElem_map, List.getElem_range]
    by_cases c : p < i ∨ xs.length - i ≤ p
    · rw [if_pos c]
      simp [List.getD_eq_getElem?_getD, show xs.length - 1 - p < xs.length by omega]
    · rw [if_neg c]
      have e : p = xs.length - 1 - p := by omega
      simp only [List.getD_eq_getElem?_getD]
      rw [List.getElem?_eq_getElem h3, Option.getD_some]
      congr 1
theorem turnedB_succ (xs : List Int) (i : Nat) (h : 2 * i + 1 < xs.length) : turnedB xs (i + 1) = ((turnedB xs i).set i ((turnedB xs i).getD (xs.length - 1 - i) 0)).set (xs.length - 1 - i) ((turnedB xs i).getD i 0) := by
  have g : ∀ p, p < xs.length → (turnedB xs i).getD p 0 = if p < i ∨ xs.length - i ≤ p then xs.getD (xs.length - 1 - p) 0 else xs.getD p 0 := by
    intro p hp
    simp [turnedB, List.getD_eq_getElem?_getD, hp]
  rw [g i (by omega), g (xs.length - 1 - i) (by omega), if_neg (by omega), if_neg (by omega)]
  apply List.ext_getElem
  · simp [turnedB]
  · intro p h1 h2
    have h3 : p < xs.length := by simpa [turnedB] using h1
    rw [List.getElem_set, List.getElem_set]
    simp only [turnedB, List.getElem_map, List.getElem_range]
    by_cases e1 : xs.length - 1 - i = p
    · rw [if_pos e1, if_pos (by omega)]
      congr 1
      omega
    · rw [if_neg e1]
      by_cases e2 : i = p
      · rw [if_pos e2, if_pos (by omega)]
        congr 1
        omega
      · rw [if_neg e2]
        by_cases c : p < i ∨ xs.length - i ≤ p
        · rw [if_pos (by omega), if_pos c]
        · rw [if_neg (by omega), if_neg c]
theorem reverseB_upto (xs : List Int) (hn : xs.length ≤ 4611686018427387904) (d : Nat) : ∀ i : Nat, xs.length ≤ 2 * i + 2 * d → Ev (fun k => slices_Reverse_byte_byte.l0 k (turnedB xs i) (i : Int) ((xs.length : Int) - 1 - i)) xs.reverse := by
  induction d with
  | zero =>
    intro i hid
    refine Ev.step (f := fun _ => some (turnedB xs i)) (fun k => by simp only [slices_Reverse_byte_byte.l0]; rw [if_neg (by omega)]) ?_
    exact Ev.is (by rw [turnedB_end xs i (by omega)])
  | succ d ih =>
    intro i hid
    by_cases h : 2 * i + 1 < xs.length
    · have hl := turnedB_length xs i
      have e1 : wrap64 ((i : Int) + 1) = ((i + 1 : Nat) : Int) := w64_succ (n := xs.length) (by omega) hn
      have e2 : wrap64 ((xs.length : Int) - 1 - i - 1) = (xs.length : Int) - 1 - ((i + 1 : Nat) : Int) := by rw [w64 (by omega) (by omega)]; omega
      have e3 : ((xs.length : Int) - 1 - i).toNat = xs.length - 1 - i := by omega
      refine Ev.step (f := fun k => slices_Reverse_byte_byte.l0 k (turnedB xs (i + 1)) ((i + 1 : Nat) : Int) ((xs.length : Int) - 1 - ((i + 1 : Nat) : Int))) (fun k => ?_) (ih (i + 1) (by omega))
      simp only [slices_Reverse_byte_byte.l0]
      rw [if_pos (by omega), if_pos (by omega), if_pos (by omega), if_pos (by omega), if_pos (by omega), e1, e2, turnedB_succ xs i h]
      simp only [rd, e3, Int.toNat_natCast]
    · refine Ev.step (f := fun _ => some (turnedB xs i)) (fun k => by simp only [slices_Reverse_byte_byte.l0]; rw [if_neg (by omega)]) ?_
      exact Ev.is (by rw [turnedB_end xs i (by omega)])
theorem reverseB_ev (xs : List Int) (hn : xs.length ≤ 4611686018427387904) : Ev (fun k => slices_Reverse_byte_byte.f k xs) xs.reverse := by
  unfold slices_Reverse_byte_byte.f
  rw [w64 (by omega) (by omega)]
  have h := reverseB_upto xs hn xs.length 0 (by omega)
  rw [turnedB_zero] at h
  have e : (xs.length : Int) - 1 - ((0 : Nat) : Int) = (xs.length : Int) - 1 := by omega
  rw [e] at h
  exact h
end Go.Proofs.Ythkmbkibceojlaa.P
