/- Numbers in rising order: the library's sort. -/
import Derived.Test.YthkmbkibceojlaaUbase
import Derived.Test.YthkmbkibceojlaaGsortInts
namespace Go.Proofs.Ythkmbkibceojlaa.P
set_option linter.unusedVariables false
set_option linter.unusedSimpArgs false
open Go.RowKit Go.Proofs.YthkmbkibceojlaaW.PrintWords Go.Proofs.YthkmbkibceojlaaW.PrintLast

def up (l : List Int) : List Int := l.mergeSort fun x y => decide (x ≤ y)
theorem up_perm (l : List Int) : (up l).Perm l := List.mergeSort_perm _ _
theorem up_pairwise (l : List Int) : (up l).Pairwise (· ≤ ·) := by
  have h := List.pairwise_mergeSort (le := fun x y : Int => decide (x ≤ y)) (by intro a b c h1 h2; simp at *; omega) (by intro a b; simp; omega) l
  exact h.imp (by intro a b h; simpa using h)
theorem up_unique {l m : List Int} (hp : m.Perm l) (hs : m.Pairwise (· ≤ ·)) : m = up l :=
  List.Perm.eq_of_pairwise (le := (· ≤ ·)) (fun a b _ _ h1 h2 => by omega) hs (up_pairwise l) (hp.trans (up_perm l).symm)
theorem up_length (l : List Int) : (up l).length = l.length := (up_perm l).length_eq
theorem sort_is (l : List Int) (h : l.length < 4611686018427387904) : slices_Sort_int_int.f l = some (up l) := by
  unfold slices_Sort_int_int.f
  rw [if_pos h]
  rfl
end Go.Proofs.Ythkmbkibceojlaa.P
