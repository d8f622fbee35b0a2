/- IsMarkov: the program and the reference. -/
import Derived.Test.YthkmbkibceojlaaUmarkov
import Derived.Test.YthkmbkibceojlaaPFimplIsMarkov
namespace Go.Proofs.Ythkmbkibceojlaa.P
set_option linter.unusedVariables false
set_option linter.unusedSimpArgs false
open Go.RowKit Go.Proofs.YthkmbkibceojlaaW.PrintWords Go.Proofs.YthkmbkibceojlaaW.PrintLast Go.Proofs.YthkmbkibceojlaaW.PrintMore

theorem areThree_no (l : List Int) (h : ¬ l.length = 3) : impl_areThree.f l = some false := by
  unfold impl_areThree.f
  rw [if_neg (by omega)]
theorem areThree_is (x y z : Int) : impl_areThree.f [x, y, z] = some ([x, y, z].all (inB 1 1000000000)) := rfl
theorem isMk_no (l : List Int) (h : ¬ l.length = 3) : isMk l = false := by
  match l with
  | [] => rfl
  | [_] => rfl
  | [_, _] => rfl
  | [_, _, _] => simp at h
  | _ :: _ :: _ :: _ :: _ => rfl
theorem three_of (l : List Int) (h : l.length = 3) : ∃ x y z, l = [x, y, z] := by
  match l, h with
  | [x, y, z], _ => exact ⟨x, y, z, rfl⟩
theorem IsMarkov_ev (l : List Int) : Ev (fun k => impl_IsMarkov.f k l) (isMk l) := by
  unfold impl_IsMarkov.f
  by_cases h3 : l.length = 3
  · obtain ⟨x, y, z, rfl⟩ := three_of l h3
    refine Ev.bind0 (areThree_is x y z) ?_
    have he : isMk [x, y, z] = ([x, y, z].all (inB 1 1000000000) && (decide (x ≤ y) && (decide (y ≤ z) && mkEq x y z))) := rfl
    rw [he]
    cases h : [x, y, z].all (inB 1 1000000000) with
    | false =>
      simp only [Bool.false_eq_true, if_false, Bool.false_and]
      exact Ev.is rfl
    | true =>
      obtain ⟨h1, h2, h4⟩ := three_all h
      simp only [if_true, Bool.true_and]
      refine Ev.bind (sorted_three x y z) ?_
      rw [solves_is x y z h1 h2 h4]
      by_cases c1 : x ≤ y <;> by_cases c2 : y ≤ z
      all_goals
        simp only [c1, c2, decide_true, decide_false, Bool.and_true, Bool.true_and, Bool.false_and, Bool.and_false, if_true, Bool.false_eq_true, if_false, Option.bind_some]
        exact Ev.is rfl
  · refine Ev.bind0 (areThree_no l h3) ?_
    simp only [Bool.false_eq_true, if_false]
    rw [isMk_no l h3]
    exact Ev.is rfl
end Go.Proofs.Ythkmbkibceojlaa.P
