/- MarkovMove, MarkovDown: both texts. -/
import Derived.Test.YthkmbkibceojlaaUmkMove
import Derived.Test.YthkmbkibceojlaaPFimplMarkovMove
import Derived.Test.YthkmbkibceojlaaPFimplMarkovDown
import Derived.Test.YthkmbkibceojlaaPFspecMarkovMove
import Derived.Test.YthkmbkibceojlaaPFspecMarkovDown
namespace Go.Proofs.Ythkmbkibceojlaa.P
set_option linter.unusedVariables false
set_option linter.unusedSimpArgs false
open Go.RowKit Go.Proofs.YthkmbkibceojlaaW.PrintWords Go.Proofs.YthkmbkibceojlaaW.PrintLast Go.Proofs.YthkmbkibceojlaaW.PrintMore
theorem isMk_three {l : List Int} (h : isMk l = true) : ∃ x y z, l = [x, y, z] := by
  rcases Nat.decEq l.length 3 with h4 | h4
  · rw [isMk_no l h4] at h; simp at h
  · exact three_of l h4
theorem within_in (x lo hi : Int) : impl_within.f x lo hi = some (inB lo hi x) := by
  unfold impl_within.f inB
  by_cases h : lo ≤ x <;> simp [h]
theorem l1In_in (x lo hi : Int) : spec_l1In.f x lo hi = some (inB lo hi x) := by
  unfold spec_l1In.f inB
  by_cases h : lo ≤ x <;> simp [h]
theorem index_in {i : Int} (h : inB 0 2 i = true) : ∃ n : Nat, i = (n : Int) ∧ n ≤ 2 := by
  simp [inB] at h
  exact ⟨i.toNat, by omega, by omega⟩
theorem mv_length (x y z : Int) (i : Nat) : (mv x y z i).length = 3 := by
  obtain ⟨a, b, c, e⟩ := mv_three x y z i
  rw [e]
  rfl
/-- What a call tells of a move: no triple, no index, too great, or the triple. -/
theorem Move_both (l : List Int) (i : Int) : ∃ r : List Int × Bool, r.1.length ≤ 3 ∧ Ev (fun _ => spec_MarkovMove.f l i) r ∧ Ev (fun k => impl_MarkovMove.f k l i) r := by
  have hI := IsMarkov_ev l
  have no : Ev (fun k => impl_MarkovMove.j0 k l i true) ([], false) := Ev.step (f := fun _ => some ([], false)) (fun k => by simp only [impl_MarkovMove.j0, if_true]) (Ev.is rfl)
  unfold spec_MarkovMove.f impl_MarkovMove.f
  rw [mkGood_is l]
  cases h : isMk l with
  | false =>
    rw [h] at hI
    refine ⟨([], false), by simp, ?_, Ev.bind hI ?_⟩
    · simp only [Option.bind_some, Bool.false_eq_true, if_false]
      exact Ev.is rfl
    · simp only [Bool.false_eq_true, if_false]
      exact no
  | true =>
    rw [h] at hI
    obtain ⟨x, y, z, rfl⟩ := isMk_three h
    rw [l1In_in, within_in]
    cases hi : inB 0 2 i with
    | false =>
      refine ⟨([], false), by simp, ?_, Ev.bind hI ?_⟩
      · simp only [Option.bind_some, if_true, Bool.false_eq_true, if_false]
        exact Ev.is rfl
      · simp only [Option.bind_some, if_true, Bool.not_false]
        exact no
    | true =>
      obtain ⟨n, rfl, hn⟩ := index_in hi
      have hm := mkMove_is h n hn
      have hv := moved_is h n hn
      have h2 := mv_two h n hn
      have hlen := mv_length x y z n
      refine ⟨mvOf x y z n, ?_, ?_, Ev.bind hI ?_⟩
      · unfold mvOf
        split
        · simp
        · rw [hlen]; exact Nat.le_refl _
      · simp only [Option.bind_some, if_true, hm]
        exact Ev.is rfl
      · simp only [Option.bind_some, if_true, Bool.not_true]
        refine Ev.step (f := fun _ => some (mvOf x y z n)) (fun k => ?_) (Ev.is rfl)
        have c : (2 : Int) < ((mv x y z n).length : Int) := by rw [hlen]; decide
        simp only [impl_MarkovMove.j0, Bool.false_eq_true, if_false, hv, Option.bind_some, c, if_true]
        unfold mvOf
        by_cases h3 : mvN x y z n > 1000000000
        · rw [if_pos (h2.2 h3), if_pos h3]
        · rw [if_neg (fun h4 => h3 (h2.1 h4)), if_neg h3]
theorem Down_both (l : List Int) : ∃ r : List Int × Bool, r.1.length ≤ 3 ∧ Ev (fun _ => spec_MarkovDown.f l) r ∧ Ev (fun k => impl_MarkovDown.f k l) r := by
  have hI := IsMarkov_ev l
  unfold spec_MarkovDown.f impl_MarkovDown.f
  rw [mkGood_is l]
  cases h : isMk l with
  | false =>
    rw [h] at hI
    refine ⟨([], false), by simp, ?_, Ev.bind hI ?_⟩
    · simp only [Option.bind_some, Bool.false_eq_true, if_false]
      exact Ev.is rfl
    · simp only [Bool.false_eq_true, if_false]
      exact Ev.is rfl
  | true =>
    rw [h] at hI
    obtain ⟨x, y, z, rfl⟩ := isMk_three h
    have hl : (([x, y, z] : List Int).length : Int) = 3 := rfl
    have r2 : rd [x, y, z] 2 = z := rfl
    have c : (2 : Int) < 3 := by decide
    have hv := moved_is h 2 (Nat.le_refl 2)
    have hd := mkDown_is h
    rw [show ((2 : Nat) : Int) = 2 from rfl] at hv
    by_cases h1 : z = 1
    · refine ⟨([], false), by simp, ?_, Ev.bind hI ?_⟩
      · simp only [Option.bind_some, if_true, hl, r2, c, h1]
        exact Ev.is rfl
      · simp only [if_true, hl, r2, c, h1]
        exact Ev.is rfl
    · refine ⟨(mv x y z 2, true), by rw [mv_length]; exact Nat.le_refl _, ?_, Ev.bind hI ?_⟩
      · simp only [Option.bind_some, if_true, hl, r2, c, h1, if_false, hd]
        exact Ev.is rfl
      · simp only [if_true, hl, r2, c, h1, if_false, hv]
        exact Ev.is rfl
end Go.Proofs.Ythkmbkibceojlaa.P
