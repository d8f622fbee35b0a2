/- spec.l1Has tells whether a number is in a list. -/
import Derived.Test.YthkmbkibceojlaaUbase
import Derived.Test.YthkmbkibceojlaaPFspecl1Has
namespace Go.Proofs.Ythkmbkibceojlaa.P
set_option linter.unusedVariables false
set_option linter.unusedSimpArgs false
open Go.RowKit Go.Proofs.YthkmbkibceojlaaW.PrintWords Go.Proofs.YthkmbkibceojlaaW.PrintLast
theorem l1Has_upto (l : List Int) (n : Int) (hn : l.length ≤ 4611686018427387904) (d : Nat) : ∀ i : Nat, i + d = l.length → Ev (fun k => spec_l1Has.l0 k n l (l.length : Int) (i : Int)) ((l.drop i).any (· == n)) := by
  induction d with
  | zero =>
    intro i hid
    refine Ev.step (f := fun _ => some false) (fun k => by simp only [spec_l1Has.l0]; rw [if_neg (by omega)]) ?_
    rw [List.drop_eq_nil_of_le (by omega)]
    exact Ev.is rfl
  | succ d ih =>
    intro i hid
    refine Ev.step (f := fun k => if rd l (i : Int) = n then some true else spec_l1Has.l0 k n l (l.length : Int) ((i + 1 : Nat) : Int)) (fun k => ?_) ?_
    · simp only [spec_l1Has.l0]
      rw [if_pos (by omega), if_pos (by omega), if_pos (by omega), w64_succ (n := l.length) (by omega) hn]
    · rw [rd_drop l i (by omega), List.any_cons]
      by_cases h : rd l (i : Int) = n
      · simp only [h, if_true, beq_self_eq_true, Bool.true_or]
        exact Ev.is rfl
      · simp only [h, if_false]
        rw [beq_eq_false_iff_ne.2 h, Bool.false_or]
        exact ih (i + 1) (by omega)
theorem l1Has_ev (l : List Int) (n : Int) (hn : l.length ≤ 4611686018427387904) : Ev (fun k => spec_l1Has.f k l n) (l.any (· == n)) := by
  unfold spec_l1Has.f
  exact l1Has_upto l n hn l.length 0 (by omega)
end Go.Proofs.Ythkmbkibceojlaa.P
