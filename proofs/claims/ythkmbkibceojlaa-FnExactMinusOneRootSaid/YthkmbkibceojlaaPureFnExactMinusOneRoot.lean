/- MinusOneRoot answers what the reference answers, for every list. No condition. -/
import Derived.Test.YthkmbkibceojlaaPFFnExactMinusOneRoot
import Derived.Test.YthkmbkibceojlaaUinverse
import Derived.Test.YthkmbkibceojlaaUisMarkov
import Derived.Test.YthkmbkibceojlaaUtoIntS
import Derived.Test.YthkmbkibceojlaaUeqIntS
namespace Go.Proofs.Ythkmbkibceojlaa.Pure
set_option linter.unusedVariables false
set_option linter.unusedSimpArgs false
open Go.RowKit Go.Proofs.Ythkmbkibceojlaa.P Go.Proofs.YthkmbkibceojlaaW.PrintWords Go.Proofs.YthkmbkibceojlaaW.PrintLast Go.Proofs.YthkmbkibceojlaaW.PrintMore
theorem root_both (l : List Int) : ∃ v, Ev (fun k => spec_MinusOneRoot.f k l) v ∧ Ev (fun k => impl_MinusOneRoot.f k l) v := by
  unfold spec_MinusOneRoot.f impl_MinusOneRoot.f
  rw [mkGood_is l]
  have hI := IsMarkov_ev l
  cases h : isMk l with
  | false =>
    rw [h] at hI
    refine ⟨(0, false), ?_, Ev.bind hI ?_⟩
    · simp only [Option.bind_some, Bool.false_eq_true, if_false]
      exact Ev.is rfl
    · simp only [Bool.false_eq_true, if_false]
      exact Ev.is rfl
  | true =>
    rw [h] at hI
    have h3 : l.length = 3 := by
      rcases Nat.decEq l.length 3 with h4 | h4
      · rw [isMk_no l h4] at h; simp at h
      · exact h4
    obtain ⟨x, y, z, rfl⟩ := three_of l h3
    have he : isMk [x, y, z] = ([x, y, z].all (inB 1 1000000000) && (decide (x ≤ y) && (decide (y ≤ z) && mkEq x y z))) := rfl
    rw [he, Bool.and_eq_true] at h
    obtain ⟨b1, b2, b3⟩ := three_all h.1
    have hl : (([x, y, z] : List Int).length : Int) = 3 := rfl
    have r0 : rd [x, y, z] 0 = x := rfl
    have r1 : rd [x, y, z] 1 = y := rfl
    have r2 : rd [x, y, z] 2 = z := rfl
    have c0 : ¬ z = 0 := by omega
    have c1 : (0 : Int) < 3 := by decide
    have c2 : (1 : Int) < 3 := by decide
    have c3 : (2 : Int) < 3 := by decide
    obtain ⟨v, e1, e2⟩ := inverse_both x z (by omega) b3
    refine ⟨(Int.tmod (wrap64 (v * Int.tmod y z)) z, true), ?_, Ev.bind hI ?_⟩
    · simp only [Option.bind_some, if_true, hl, r0, r1, r2, c0, c1, c2, c3, if_false]
      exact Ev.bind e2 (Ev.is rfl)
    · simp only [if_true, hl, r0, r1, r2, c0, c1, c2, c3, if_false]
      exact Ev.bind e1 (Ev.is (by rw [Int.mul_comm]))
theorem FnExactMinusOneRoot : laws_FnExactMinusOneRoot.Pure := by
  intro l _ hl _
  refine Ev.rounds ?_
  unfold laws_FnExactMinusOneRoot.f
  by_cases h : (l.length : Int) > 1048576
  · simp only [h, if_true]
    exact Ev.is rfl
  · simp only [h, if_false]
    obtain ⟨v, e1, e2⟩ := root_both l
    refine Ev.bind (toIntS_ev l hl) (Ev.bind e1 (Ev.bind (toIntS_ev l hl) (Ev.bind e2 ?_)))
    simp only [bne_self_eq_false, if_true]
    refine Ev.step (f := fun k => (laws_toIntS.f k l).bind fun t141 => ((laws_eqIntS.f k l t141).bind fun t144 => (if t144 = true then (some true) else (some false)))) (fun k => by simp only [laws_FnExactMinusOneRoot.j0, Bool.false_eq_true, if_false]) ?_
    refine Ev.bind (toIntS_ev l hl) (Ev.bind (eqIntS_ev l l (by omega)) ?_)
    simp only [decide_true, if_true]
    exact Ev.is rfl
end Go.Proofs.Ythkmbkibceojlaa.Pure
