/- The inverse modulo a number: both texts make the same steps. -/
import Derived.Test.YthkmbkibceojlaaUbase
import Derived.Test.YthkmbkibceojlaaPFimplinverse
import Derived.Test.YthkmbkibceojlaaPFspecmkInverse
namespace Go.Proofs.Ythkmbkibceojlaa.P
set_option linter.unusedVariables false
set_option linter.unusedSimpArgs false
open Go.RowKit Go.Proofs.YthkmbkibceojlaaW.PrintWords Go.Proofs.YthkmbkibceojlaaW.PrintLast Go.Proofs.YthkmbkibceojlaaW.PrintMore
theorem inverse_steps (m : Int) (hm : 1 ≤ m) (d : Nat) : ∀ (x y r s : Int), 0 ≤ s → s.toNat ≤ d → 0 ≤ r → r ≤ 1000000000 → s ≤ 1000000000 → ∃ v, Ev (fun k => impl_inverse.l0 k m x y r s) v ∧ Ev (fun k => spec_mkInverse.l0 k m r s x y) v := by
  have hm0 : ¬ m = 0 := by omega
  induction d with
  | zero =>
    intro x y r s h0 h1 h2 h3 h4
    have hs : s = 0 := by omega
    subst hs
    refine ⟨_, Ev.step (f := fun _ => some (Int.tmod (wrap64 (Int.tmod x m + m)) m)) (fun k => by simp only [impl_inverse.l0, if_true]; rw [if_neg hm0]) (Ev.is rfl), Ev.step (f := fun _ => some (Int.tmod (wrap64 (Int.tmod x m + m)) m)) (fun k => by simp only [spec_mkInverse.l0]; rw [if_neg (by omega), if_neg hm0]) (Ev.is rfl)⟩
  | succ d ih =>
    intro x y r s h0 h1 h2 h3 h4
    by_cases hs : s = 0
    · exact ih x y r s h0 (by omega) h2 h3 h4
    · have q0 : 0 ≤ r / s := Int.ediv_nonneg h2 h0
      have q1 : r / s ≤ r := Int.ediv_le_self _ h2
      have q2 : r / s * s + r % s = r := Int.ediv_mul_add_emod r s
      have q3 : 0 ≤ r % s := Int.emod_nonneg r hs
      have q4 : r % s < s := Int.emod_lt_of_pos r (by omega)
      have q5 : 0 ≤ r / s * s := Int.mul_nonneg q0 h0
      have t1 : Int.tdiv r s = r / s := Int.tdiv_eq_ediv_of_nonneg h2
      have w1 : wrap64 (r / s) = r / s := w64 (by omega) (by omega)
      have w2 : wrap64 (r / s * s) = r / s * s := w64 (by omega) (by omega)
      have w3 : wrap64 (r - r / s * s) = r % s := by rw [w64 (by omega) (by omega)]; omega
      obtain ⟨v, e1, e2⟩ := ih y (wrap64 (x - wrap64 (r / s * y))) s (r % s) q3 (by omega) h0 h4 (by omega)
      refine ⟨v, Ev.step (fun k => ?_) e1, Ev.step (fun k => ?_) e2⟩
      · simp only [impl_inverse.l0]
        rw [if_neg hs, t1, w1, w2, w3]
      · simp only [spec_mkInverse.l0]
        rw [if_pos (by omega), if_neg hs, t1, w1, w2, w3]
theorem inverse_both (a m : Int) (ha : 0 ≤ a) (hm : 1 ≤ m ∧ m ≤ 1000000000) : ∃ v, Ev (fun k => impl_inverse.f k a m) v ∧ Ev (fun k => spec_mkInverse.f k a m) v := by
  have hm0 : ¬ m = 0 := by omega
  have t0 : Int.tmod a m = a % m := Int.tmod_eq_emod_of_nonneg ha
  have q3 : 0 ≤ a % m := Int.emod_nonneg a hm0
  have q4 : a % m < m := Int.emod_lt_of_pos a (by omega)
  obtain ⟨v, e1, e2⟩ := inverse_steps m hm.1 (a % m).toNat 0 1 m (a % m) q3 (Nat.le_refl _) (by omega) hm.2 (by omega)
  have t1 : Int.tdiv (a % m) m = 0 := by rw [Int.tdiv_eq_ediv_of_nonneg q3]; exact Int.ediv_eq_zero_of_lt q3 q4
  unfold impl_inverse.f spec_mkInverse.f
  simp only [hm0, if_false, t0]
  refine ⟨v, Ev.step (fun k => ?_) e1, e2⟩
  simp only [impl_inverse.l0, t1]
  rw [if_neg hm0, show wrap64 0 = 0 by decide +kernel, Int.zero_mul, Int.zero_mul, show wrap64 0 = 0 by decide +kernel, show wrap64 (1 - 0) = 1 by decide +kernel, Int.sub_zero, w64 (x := a % m) (by omega) (by omega)]
end Go.Proofs.Ythkmbkibceojlaa.P
