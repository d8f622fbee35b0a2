/- Numbers in falling order: the library's sort and reverse. -/
import Derived.Test.YtfdjbcbhlfjogaaUbase
import Derived.Test.YtfdjbcbhlfjogaaGsortInts
import Derived.Test.YtfdjbcbhlfjogaaPFslicesReverseintint
namespace Go.Proofs.Ytfdjbcbhlfjogaa.P
set_option linter.unusedVariables false
set_option linter.unusedSimpArgs false
open Go.RowKit Go.Proofs.YtfdjbcbhlfjogaaW.PrintWords Go.Proofs.YtfdjbcbhlfjogaaW.PrintLast

def up (l : List Int) : List Int := l.mergeSort fun x y => decide (x ≤ y)
def down (l : List Int) : List Int := (up l).reverse
theorem up_perm (l : List Int) : (up l).Perm l := List.mergeSort_perm _ _
theorem up_pairwise (l : List Int) : (up l).Pairwise (· ≤ ·) := by
  have h := List.pairwise_mergeSort (le := fun x y : Int => decide (x ≤ y)) (by intro a b c h1 h2; simp at *; omega) (by intro a b; simp; omega) l
  exact h.imp (by intro a b h; simpa using h)
theorem up_unique {l m : List Int} (hp : m.Perm l) (hs : m.Pairwise (· ≤ ·)) : m = up l :=
  List.Perm.eq_of_pairwise (le := (· ≤ ·)) (fun a b _ _ h1 h2 => by omega) hs (up_pairwise l) (hp.trans (up_perm l).symm)
theorem down_perm (l : List Int) : (down l).Perm l := (List.reverse_perm _).trans (up_perm l)
theorem down_pairwise (l : List Int) : (down l).Pairwise (· ≥ ·) := by
  unfold down
  rw [List.pairwise_reverse]
  exact up_pairwise l
theorem down_unique {l m : List Int} (hp : m.Perm l) (hs : m.Pairwise (· ≥ ·)) : m = down l :=
  List.Perm.eq_of_pairwise (le := (· ≥ ·)) (fun a b _ _ h1 h2 => by omega) hs (down_pairwise l) (hp.trans (down_perm l).symm)
theorem down_length (l : List Int) : (down l).length = l.length := (down_perm l).length_eq
theorem up_length (l : List Int) : (up l).length = l.length := (up_perm l).length_eq
theorem sort_is (l : List Int) (h : l.length < 4611686018427387904) : slices_Sort_int_int.f l = some (up l) := by
  unfold slices_Sort_int_int.f
  rw [if_pos h]
  rfl

/-- The first i and the last i have changed places. -/
def turned (xs : List Int) (i : Nat) : List Int := (List.range xs.length).map fun p => if p < i ∨ xs.length - i ≤ p then xs.getD (xs.length - 1 - p) 0 else xs.getD p 0
theorem turned_length (xs : List Int) (i : Nat) : (turned xs i).length = xs.length := by simp [turned]
theorem turned_zero (xs : List Int) : turned xs 0 = xs := by
  apply List.ext_getElem
  · simp [turned]
  · intro p h1 h2
    simp [turned, List.getD_eq_getElem?_getD, h2]
    omega
theorem turned_end (xs : List Int) (i : Nat) (h : xs.length ≤ 2 * i + 1) : turned xs i = xs.reverse := by
  apply List.ext_getElem
  · simp [turned]
  · intro p h1 h2
    have h3 : p < xs.length := by simpa using h2
    rw [List.getElem_reverse]
    simp only [turned, List.getElem_map, List.getElem_range]
    by_cases c : p < i ∨ xs.length - i ≤ p
    · rw [if_pos c]
      simp [List.getD_eq_getElem?_getD, show xs.length - 1 - p < xs.length by omega]
    · rw [if_neg c]
      have e : p = xs.length - 1 - p := by omega
      simp only [List.getD_eq_getElem?_getD]
      rw [List.getElem?_eq_getElem h3, Option.getD_some]
      congr 1
theorem turned_succ (xs : List Int) (i : Nat) (h : 2 * i + 1 < xs.length) : turned xs (i + 1) = ((turned xs i).set i ((turned xs i).getD (xs.length - 1 - i) 0)).set (xs.length - 1 - i) ((turned xs i).getD i 0) := by
  have g : ∀ p, p < xs.length → (turned xs i).getD p 0 = if p < i ∨ xs.length - i ≤ p then xs.getD (xs.length - 1 - p) 0 else xs.getD p 0 := by
    intro p hp
    simp [turned, List.getD_eq_getElem?_getD, hp]
  rw [g i (by omega), g (xs.length - 1 - i) (by omega), if_neg (by omega), if_neg (by omega)]
  apply List.ext_getElem
  · simp [turned]
  · intro p h1 h2
    have h3 : p < xs.length := by simpa [turned] using h1
    rw [List.getElem_set, List.getElem_set]
    simp only [turned, List.getElem_map, List.getElem_range]
    by_cases e1 : xs.length - 1 - i = p
    · rw [if_pos e1, if_pos (by omega)]
      congr 1
      omega
    · rw [if_neg e1]
      by_cases e2 : i = p
      · rw [if_pos e2, if_pos (by omega)]
        congr 1
        omega
      · rw [if_neg e2]
        by_cases c : p < i ∨ xs.length - i ≤ p
        · rw [if_pos (by omega), if_pos c]
        · rw [if_neg (by omega), if_neg c]
theorem reverse_upto (xs : List Int) (hn : xs.length ≤ 4611686018427387904) (d : Nat) : ∀ i : Nat, xs.length ≤ 2 * i + 2 * d → Ev (fun k => slices_Reverse_int_int.l0 k (turned xs i) (i : Int) ((xs.length : Int) - 1 - i)) xs.reverse := by
  induction d with
  | zero =>
    intro i hid
    refine Ev.step (f := fun _ => some (turned xs i)) (fun k => by simp only [slices_Reverse_int_int.l0]; rw [if_neg (by omega)]) ?_
    exact Ev.is (by rw [turned_end xs i (by omega)])
  | succ d ih =>
    intro i hid
    by_cases h : 2 * i + 1 < xs.length
    · have hl := turned_length xs i
      have e1 : wrap64 ((i : Int) + 1) = ((i + 1 : Nat) : Int) := w64_succ (n := xs.length) (by omega) hn
      have e2 : wrap64 ((xs.length : Int) - 1 - i - 1) = (xs.length : Int) - 1 - ((i + 1 : Nat) : Int) := by rw [w64 (by omega) (by omega)]; omega
      have e3 : ((xs.length : Int) - 1 - i).toNat = xs.length - 1 - i := by omega
      refine Ev.step (f := fun k => slices_Reverse_int_int.l0 k (turned xs (i + 1)) ((i + 1 : Nat) : Int) ((xs.length : Int) - 1 - ((i + 1 : Nat) : Int))) (fun k => ?_) (ih (i + 1) (by omega))
      simp only [slices_Reverse_int_int.l0]
      rw [if_pos (by omega), if_pos (by omega), if_pos (by omega), if_pos (by omega), if_pos (by omega), e1, e2, turned_succ xs i h]
      simp only [rd, e3, Int.toNat_natCast]
    · refine Ev.step (f := fun _ => some (turned xs i)) (fun k => by simp only [slices_Reverse_int_int.l0]; rw [if_neg (by omega)]) ?_
      exact Ev.is (by rw [turned_end xs i (by omega)])
theorem reverse_ev (xs : List Int) (hn : xs.length ≤ 4611686018427387904) : Ev (fun k => slices_Reverse_int_int.f k xs) xs.reverse := by
  unfold slices_Reverse_int_int.f
  rw [w64 (by omega) (by omega)]
  have h := reverse_upto xs hn xs.length 0 (by omega)
  rw [turned_zero] at h
  have e : (xs.length : Int) - 1 - ((0 : Nat) : Int) = (xs.length : Int) - 1 := by omega
  rw [e] at h
  exact h
end Go.Proofs.Ytfdjbcbhlfjogaa.P
