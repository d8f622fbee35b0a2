/- laws.eqIntS tells whether two lists are one. -/
import Derived.Test.YthkmbkibceojlaaUbase
import Derived.Test.YthkmbkibceojlaaPFeqIntS
namespace Go.Proofs.Ythkmbkibceojlaa.P
set_option linter.unusedVariables false
set_option linter.unusedSimpArgs false
open Go.RowKit Go.Proofs.YthkmbkibceojlaaW.PrintWords Go.Proofs.YthkmbkibceojlaaW.PrintLast

theorem eqIntS_from (a b : List Int) (hl : a.length = b.length) (hn : a.length ≤ 4611686018427387904) (d : Nat) : ∀ i : Nat, i + d = a.length → a.take i = b.take i → Ev (fun k => laws_eqIntS.l0 k a b (i : Int)) (decide (a = b)) := by
  induction d with
  | zero =>
    intro i hi ht
    refine Ev.step (fun k => by simp only [laws_eqIntS.l0]; rw [if_neg (by omega)]) ?_
    rw [List.take_of_length_le (by omega), List.take_of_length_le (by omega)] at ht
    exact Ev.is (by rw [decide_eq_true ht])
  | succ d ih =>
    intro i hi ht
    refine Ev.step (fun k => by simp only [laws_eqIntS.l0]; rw [if_pos (by omega), if_pos (by omega), if_pos (by omega), w64_succ (n := a.length) (by omega) hn]) ?_
    by_cases h : rd a (i : Int) = rd b (i : Int)
    · simp only [h, if_true]
      refine ih (i + 1) (by omega) ?_
      rw [List.take_succ_eq_append_getElem (by omega), List.take_succ_eq_append_getElem (by omega), ht, ← rd_lt a i (by omega), ← rd_lt b i (by omega), h]
    · simp only [h, if_false]
      exact Ev.is (by rw [decide_eq_false (fun e => h (by rw [e]))])
theorem eqIntS_ev (a b : List Int) (hn : a.length ≤ 4611686018427387904) : Ev (fun k => laws_eqIntS.f k a b) (decide (a = b)) := by
  unfold laws_eqIntS.f
  by_cases hl : a.length = b.length
  · simp only [hl, if_true]
    exact eqIntS_from a b hl hn a.length 0 (by omega) rfl
  · have h : ¬ (a.length : Int) = (b.length : Int) := by omega
    simp only [h, if_false]
    exact Ev.is (by rw [decide_eq_false (fun e => hl (by rw [e]))])
end Go.Proofs.Ythkmbkibceojlaa.P
