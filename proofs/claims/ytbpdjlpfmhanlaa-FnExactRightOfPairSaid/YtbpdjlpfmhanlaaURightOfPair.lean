/- RightOfPair: the program and the reference. -/
import Derived.Test.YtbpdjlpfmhanlaaUgcd
import Derived.Test.YtbpdjlpfmhanlaaPFspecRightOfPair
import Derived.Test.YtbpdjlpfmhanlaaPFimplRightOfPair
namespace Go.Proofs.Ytbpdjlpfmhanlaa.P
set_option linter.unusedVariables false
set_option linter.unusedSimpArgs false
open Go.RowKit Go.Proofs.YtbpdjlpfmhanlaaW.PrintWords Go.Proofs.YtbpdjlpfmhanlaaW.PrintLast Go.Proofs.YtbpdjlpfmhanlaaW.PrintMore

/-- The triple of a pair, in the words of both texts. -/
def rightL (m n : Int) : List Int := [wrap64 ((wrap64 (m * m)) - (wrap64 (n * n))), wrap64 ((wrap64 (2 * m)) * n), wrap64 ((wrap64 (m * m)) + (wrap64 (n * n)))]
def rightOf (m n : Int) : List Int × Bool := if (1 ≤ n ∧ n < m) ∧ m ≤ 31623 ∧ (m + n) % 2 = 1 ∧ (Int.gcd m n : Int) = 1 ∧ m * m + n * n ≤ 1000000000 then (rightL m n, true) else ([], false)
theorem RightOfPair_both (m n : Int) (hm : -9223372036854775808 ≤ m) (hm2 : m ≤ 9223372036854775807) (hn : -9223372036854775808 ≤ n) (hn2 : n ≤ 9223372036854775807) :
    Ev (fun k => spec_RightOfPair.f k m n) (rightOf m n) ∧ Ev (fun k => impl_RightOfPair.f k m n) (rightOf m n) := by
  have hin : ∀ x lo hi : Int, spec_l1In.f x lo hi = some (decide (lo ≤ x ∧ x ≤ hi)) := by
    intro x lo hi
    unfold spec_l1In.f
    by_cases h : x ≥ lo
    · rw [if_pos h]
      congr 1
      exact decide_eq_decide.2 (by omega)
    · rw [if_neg h, decide_eq_false (by omega)]
  unfold spec_RightOfPair.f impl_RightOfPair.f spec_riIf.f spec_riPair.f impl_pair_isPair.f rightOf
  simp only [hin, Option.bind_some, decide_eq_true_eq]
  by_cases h1 : 1 ≤ n ∧ n < m
  · have g1 := foGcd_ev m n (by omega) (by omega) (by omega) (by omega)
    have g2 := divisor_ev m n (by omega) (by omega) (by omega) (by omega)
    have hw : wrap64 (m - 1) = m - 1 := w64 (by omega) (by omega)
    have hw2 : wrap64 (m - n) = m - n := w64 (by omega) (by omega)
    have hb2 : 1 ≤ n ∧ n ≤ m - 1 := by omega
    have hgt : m > n := by omega
    have hge : n ≥ 1 := by omega
    have ht : Int.tmod (m - n) 2 = (m - n) % 2 := Int.tmod_eq_emod_of_nonneg (by omega)
    simp only [h1, hw, hw2, hb2, hgt, hge, ht, and_self, if_true, true_and]
    have himp : ∀ (r : List Int × Bool), ((m - n) % 2 = 1 ∧ (Int.gcd m n : Int) = 1 → impl_pair_right.f m n = some r) → (¬ ((m - n) % 2 = 1 ∧ (Int.gcd m n : Int) = 1) → r = ([], false)) →
        Ev (fun k => (if (m - n) % 2 = 1 then (impl_divisor.f k m n).bind fun t => some (t == 1) else some false).bind fun t => if t = true then (impl_pair_right.f m n).bind fun bt => some (bt.1, bt.2) else some ([], false)) r := by
      intro r hr1 hr2
      by_cases h2 : (m - n) % 2 = 1
      · simp only [h2, if_true]
        refine Ev.bind (Ev.bind g2 (Ev.is rfl)) ?_
        by_cases h4 : (Int.gcd m n : Int) = 1
        · simp only [h4, beq_self_eq_true, if_true]
          exact Ev.bind0 (hr1 ⟨h2, h4⟩) (Ev.is rfl)
        · simp only [beq_eq_false_iff_ne.2 h4, Bool.false_eq_true, if_false]
          exact Ev.is (by rw [hr2 (fun h => h4 h.2)])
      · simp only [h2, if_false, Option.bind_some, Bool.false_eq_true]
        exact Ev.is (by rw [hr2 (fun h => h2 h.1)])
    by_cases h3 : m ≤ 31623
    · have hb1 : 2 ≤ m ∧ m ≤ 31623 := by omega
      have hw3 : wrap64 (m + n) = m + n := w64 (by omega) (by omega)
      have ht2 : Int.tmod (m + n) 2 = (m + n) % 2 := Int.tmod_eq_emod_of_nonneg (by omega)
      have b1 : 0 ≤ m * m ∧ m * m ≤ 31623 * 31623 := ⟨Int.mul_nonneg (by omega) (by omega), Int.mul_le_mul (by omega) (by omega) (by omega) (by omega)⟩
      have b2 : 0 ≤ n * n ∧ n * n ≤ 31623 * 31623 := ⟨Int.mul_nonneg (by omega) (by omega), Int.mul_le_mul (by omega) (by omega) (by omega) (by omega)⟩
      have v1 : wrap64 (m * m) = m * m := w64 (by omega) (by omega)
      have v2 : wrap64 (n * n) = n * n := w64 (by omega) (by omega)
      have v3 : wrap64 (m * m + n * n) = m * m + n * n := w64 (by omega) (by omega)
      have hpar : (m + n) % 2 = 1 ↔ (m - n) % 2 = 1 := by omega
      have hR : impl_pair_right.f m n = some (if m * m + n * n ≤ 1000000000 then (rightL m n, true) else ([], false)) := by
        unfold impl_pair_right.f rightL
        rw [v1, v2, v3, if_neg (by omega)]
        by_cases h5 : m * m + n * n ≤ 1000000000
        · rw [if_neg (by omega), if_pos h5]
        · rw [if_pos (by omega), if_neg h5]
      have hO : spec_riOf.f m n = some (rightL m n) := rfl
      constructor
      · simp only [hb1, h3, hw3, ht2, v1, v2, v3, hO, and_self, if_true, true_and, Option.bind_some]
        by_cases h2 : (m + n) % 2 = 1
        · simp only [h2, if_true, true_and]
          by_cases h4 : (Int.gcd m n : Int) = 1
          · by_cases h5 : m * m + n * n ≤ 1000000000
            · simp only [h4, h5, and_self, if_true]
              refine Ev.bind (a := (rightL m n, true)) (Ev.bind (a := true) (Ev.bind g1 ?_) ?_) (Ev.is rfl)
              · simp only [h4, h5, if_true, decide_true]
                exact Ev.is rfl
              · simp only [if_true]
                exact Ev.is rfl
            · simp only [h4, h5, and_false, if_false]
              refine Ev.bind (a := ([], false)) (Ev.bind (a := false) (Ev.bind g1 ?_) ?_) (Ev.is rfl)
              · simp only [h4, h5, if_true, decide_false]
                exact Ev.is rfl
              · simp only [Bool.false_eq_true, if_false]
                exact Ev.is rfl
          · simp only [h4, false_and, if_false]
            refine Ev.bind (a := ([], false)) (Ev.bind (a := false) (Ev.bind g1 ?_) ?_) (Ev.is rfl)
            · simp only [h4, if_false]
              exact Ev.is rfl
            · simp only [Bool.false_eq_true, if_false]
              exact Ev.is rfl
        · simp only [h2, if_false, false_and, Option.bind_some, Bool.false_eq_true]
          exact Ev.is rfl
      · refine himp _ (fun h => ?_) (fun h => ?_)
        · rw [hR]
          congr 1
          by_cases h5 : m * m + n * n ≤ 1000000000
          · rw [if_pos h5, if_pos ⟨h3, hpar.2 h.1, h.2, h5⟩]
          · rw [if_neg h5, if_neg (fun h6 => h5 h6.2.2.2)]
        · rw [if_neg (fun h6 => h ⟨hpar.1 h6.2.1, h6.2.2.1⟩)]
    · have hb1 : ¬ (2 ≤ m ∧ m ≤ 31623) := by omega
      have h7 : ¬ (m ≤ 31623 ∧ (m + n) % 2 = 1 ∧ (Int.gcd m n : Int) = 1 ∧ m * m + n * n ≤ 1000000000) := fun h => h3 h.1
      rw [if_neg h7]
      constructor
      · simp only [hb1, if_false, Option.bind_some, Bool.false_eq_true]
        exact Ev.is rfl
      · refine himp _ (fun h => ?_) (fun h => rfl)
        unfold impl_pair_right.f
        by_cases h8 : m > 40000
        · rw [if_pos h8]
        · have b0 : 31624 * 31624 ≤ m * m := Int.mul_le_mul (by omega) (by omega) (by omega) (by omega)
          have b1 : m * m ≤ 40000 * 40000 := Int.mul_le_mul (by omega) (by omega) (by omega) (by omega)
          have b2 : 0 ≤ n * n ∧ n * n ≤ 40000 * 40000 := ⟨Int.mul_nonneg (by omega) (by omega), Int.mul_le_mul (by omega) (by omega) (by omega) (by omega)⟩
          have v1 : wrap64 (m * m) = m * m := w64 (by omega) (by omega)
          have v2 : wrap64 (n * n) = n * n := w64 (by omega) (by omega)
          have v3 : wrap64 (m * m + n * n) = m * m + n * n := w64 (by omega) (by omega)
          rw [v1, v2, v3, if_neg h8, if_pos (by omega)]
  · have h7 : ¬ ((1 ≤ n ∧ n < m) ∧ m ≤ 31623 ∧ (m + n) % 2 = 1 ∧ (Int.gcd m n : Int) = 1 ∧ m * m + n * n ≤ 1000000000) := fun h => h1 h.1
    rw [if_neg h7]
    constructor
    · by_cases h2 : 2 ≤ m ∧ m ≤ 31623
      · have hw : wrap64 (m - 1) = m - 1 := w64 (by omega) (by omega)
        have h3 : ¬ (1 ≤ n ∧ n ≤ m - 1) := by omega
        simp only [h2, and_self, if_true, hw, h3, if_false, Option.bind_some, Bool.false_eq_true]
        exact Ev.is rfl
      · simp only [h2, if_false, Option.bind_some, Bool.false_eq_true]
        exact Ev.is rfl
    · by_cases h2 : m > n
      · have h3 : ¬ n ≥ 1 := by omega
        simp only [h2, h3, if_true, if_false, Option.bind_some, Bool.false_eq_true]
        exact Ev.is rfl
      · simp only [h2, if_false, Option.bind_some, Bool.false_eq_true]
        exact Ev.is rfl
end Go.Proofs.Ytbpdjlpfmhanlaa.P
