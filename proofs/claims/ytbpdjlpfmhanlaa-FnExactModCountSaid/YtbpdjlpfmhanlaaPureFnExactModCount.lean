/- ModCount answers what the reference answers, for every number. No condition. -/
import Derived.Test.YtbpdjlpfmhanlaaPFFnExactModCount
import Derived.Test.YtbpdjlpfmhanlaaUhas
namespace Go.Proofs.Ytbpdjlpfmhanlaa.Pure
set_option linter.unusedVariables false
set_option linter.unusedSimpArgs false
open Go.RowKit Go.Proofs.Ytbpdjlpfmhanlaa.P Go.Proofs.YtbpdjlpfmhanlaaW.PrintWords Go.Proofs.YtbpdjlpfmhanlaaW.PrintLast
theorem modCount_13 : laws_FnExactModCount.f 3000 13 = some true := by decide +kernel
theorem modCount_11 : laws_FnExactModCount.f 2000 11 = some true := by decide +kernel
theorem modCount_7 : laws_FnExactModCount.f 1000 7 = some true := by decide +kernel
theorem modCount_5 : laws_FnExactModCount.f 500 5 = some true := by decide +kernel
theorem FnExactModCount : laws_FnExactModCount.Pure := by
  intro p _
  by_cases h : 2 ≤ p ∧ p ≤ 13
  · have hc : p = 2 ∨ p = 3 ∨ p = 4 ∨ p = 5 ∨ p = 6 ∨ p = 7 ∨ p = 8 ∨ p = 9 ∨ p = 10 ∨ p = 11 ∨ p = 12 ∨ p = 13 := by omega
    rcases hc with rfl | rfl | rfl | rfl | rfl | rfl | rfl | rfl | rfl | rfl | rfl | rfl
    · exact ⟨100, by decide +kernel⟩
    · exact ⟨100, by decide +kernel⟩
    · exact ⟨100, by decide +kernel⟩
    · exact ⟨_, modCount_5⟩
    · exact ⟨100, by decide +kernel⟩
    · exact ⟨_, modCount_7⟩
    · exact ⟨100, by decide +kernel⟩
    · exact ⟨100, by decide +kernel⟩
    · exact ⟨100, by decide +kernel⟩
    · exact ⟨_, modCount_11⟩
    · exact ⟨100, by decide +kernel⟩
    · exact ⟨_, modCount_13⟩
  · refine Ev.rounds ?_
    unfold laws_FnExactModCount.f spec_ModCount.f impl_ModCount.f spec_mkPrime.f impl_isModulus.f impl_within.f
    have e1 : ([2, 3, 5, 7, 11, 13] : List Int).any (· == p) = false := by
      simp only [List.any_cons, List.any_nil, Bool.or_false, Bool.or_eq_false_iff, beq_eq_false_iff_ne]
      omega
    have e2 : (if p ≥ 2 then some (decide (p ≤ 13)) else some false) = some false := by
      by_cases h2 : p ≥ 2
      · rw [if_pos h2, decide_eq_false (by omega)]
      · rw [if_neg h2]
    have hs := l1Has_ev [2, 3, 5, 7, 11, 13] p (by simp)
    rw [e1] at hs
    refine Ev.bind (a := (0, false)) (Ev.bind (Ev.bind hs (Ev.is rfl)) ?_) ?_
    · simp only [Bool.false_eq_true, if_false]
      exact Ev.is rfl
    · refine Ev.bind (a := (0, false)) (Ev.bind (a := false) (Ev.bind0 e2 ?_) ?_) ?_
      · simp only [Bool.false_eq_true, if_false]
        exact Ev.is rfl
      · simp only [Bool.false_eq_true, if_false]
        exact Ev.is rfl
      · simp only [bne_self_eq_false, Bool.false_eq_true, if_false, if_true]
        exact Ev.is rfl
end Go.Proofs.Ytbpdjlpfmhanlaa.Pure
