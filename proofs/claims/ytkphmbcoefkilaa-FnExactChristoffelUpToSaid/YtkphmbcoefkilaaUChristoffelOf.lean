/- ChristoffelOf: the program and the reference. -/
import Derived.Test.YtkphmbcoefkilaaUchristoffel
import Derived.Test.YtkphmbcoefkilaaPFspecChristoffelOf
import Derived.Test.YtkphmbcoefkilaaPFimplChristoffelOf
namespace Go.Proofs.Ytkphmbcoefkilaa.P
set_option linter.unusedVariables false
set_option linter.unusedSimpArgs false
open Go.RowKit Go.Proofs.YtkphmbcoefkilaaW.PrintWords Go.Proofs.YtkphmbcoefkilaaW.PrintLast Go.Proofs.YtkphmbcoefkilaaW.PrintMore

def chOf (a b : Int) : ByteArray × Bool := if 0 ≤ a ∧ 0 ≤ b ∧ a + b ≤ 40 ∧ (Int.gcd a b : Int) = 1 then (chText a b, true) else ((⟨#[]⟩ : ByteArray), false)
theorem in_is (x lo hi : Int) : spec_l1In.f x lo hi = some (decide (lo ≤ x ∧ x ≤ hi)) := by
  unfold spec_l1In.f
  by_cases h : x ≥ lo
  · rw [if_pos h]
    congr 1
    exact decide_eq_decide.2 (by omega)
  · rw [if_neg h, decide_eq_false (by omega)]
theorem within_is (x lo hi : Int) : impl_within.f x lo hi = some (decide (lo ≤ x ∧ x ≤ hi)) := in_is x lo hi
theorem ChristoffelOf_both (a b : Int) (ha : -9223372036854775808 ≤ a) (ha2 : a ≤ 9223372036854775807) (hb : -9223372036854775808 ≤ b) (hb2 : b ≤ 9223372036854775807) :
    Ev (fun k => spec_ChristoffelOf.f k a b) (chOf a b) ∧ Ev (fun k => impl_ChristoffelOf.f k a b) (chOf a b) := by
  unfold spec_ChristoffelOf.f impl_ChristoffelOf.f chOf
  simp only [in_is, within_is, Option.bind_some, decide_eq_true_eq]
  by_cases h1 : 0 ≤ a ∧ a ≤ 40
  · have hw : wrap64 (40 - a) = 40 - a := w64 (by omega) (by omega)
    simp only [h1, and_self, if_true, hw]
    by_cases h2 : 0 ≤ b ∧ b ≤ 40 - a
    · have hw2 : wrap64 (a + b) = a + b := w64 (by omega) (by omega)
      have h3 : 0 ≤ b ∧ b ≤ 40 := by omega
      obtain ⟨c1, c2⟩ := chText_both a b h1.1 h2.1 (by omega)
      have g1 := foGcd_ev a b (by omega) (by omega) (by omega) (by omega)
      have g2 := divisor_ev a b (by omega) (by omega) (by omega) (by omega)
      simp only [h2, h3, and_self, if_true, hw2]
      by_cases h4 : (Int.gcd a b : Int) = 1
      · have h5 : 1 ≤ a + b := by
          rcases Int.lt_or_le (a + b) 1 with h | h
          · exfalso
            obtain rfl : a = 0 := by omega
            obtain rfl : b = 0 := by omega
            simp at h4
          · exact h
        have h6 : a + b ≤ 40 := by omega
        simp only [h4, h5, h6, and_self, if_true]
        constructor
        · refine Ev.bind g1 ?_
          simp only [h4, if_true]
          exact Ev.bind c1 (Ev.is rfl)
        · refine Ev.bind g2 ?_
          simp only [h4, if_true]
          exact Ev.bind c2 (Ev.is rfl)
      · simp only [h4, and_false, if_false]
        constructor
        · refine Ev.bind g1 ?_
          simp only [h4, if_false]
          exact Ev.is rfl
        · by_cases h5 : 1 ≤ a + b ∧ a + b ≤ 40
          · simp only [h5, and_self, if_true]
            refine Ev.bind g2 ?_
            simp only [h4, if_false]
            exact Ev.is rfl
          · simp only [h5, if_false]
            exact Ev.is rfl
    · have h7 : ¬ (0 ≤ a ∧ 0 ≤ b ∧ a + b ≤ 40 ∧ (Int.gcd a b : Int) = 1) := by omega
      have h8 : ¬ (True ∧ 0 ≤ b ∧ a + b ≤ 40 ∧ (Int.gcd a b : Int) = 1) := by omega
      simp only [h2, h8, if_false]
      refine ⟨Ev.is rfl, ?_⟩
      by_cases h3 : 0 ≤ b ∧ b ≤ 40
      · have hw2 : wrap64 (a + b) = a + b := w64 (by omega) (by omega)
        have h5 : ¬ (1 ≤ a + b ∧ a + b ≤ 40) := by omega
        simp only [h3, and_self, if_true, hw2, h5, if_false]
        exact Ev.is rfl
      · simp only [h3, if_false]
        exact Ev.is rfl
  · have h7 : ¬ (0 ≤ a ∧ 0 ≤ b ∧ a + b ≤ 40 ∧ (Int.gcd a b : Int) = 1) := by omega
    simp only [h1, h7, if_false]
    exact ⟨Ev.is rfl, Ev.is rfl⟩
end Go.Proofs.Ytkphmbcoefkilaa.P
