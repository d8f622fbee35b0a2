/- Both searches tell the greatest number whose square is at most n. -/
import Derived.Test.YtclpgaoneoojiaaUbase
import Derived.Test.YtclpgaoneoojiaaPFspecfoRoot
import Derived.Test.YtclpgaoneoojiaaPFimplroot
namespace Go.Proofs.Ytclpgaoneoojiaa.P
set_option linter.unusedVariables false
set_option linter.unusedSimpArgs false
open Go.RowKit Go.Proofs.YtclpgaoneoojiaaW.PrintWords Go.Proofs.YtclpgaoneoojiaaW.PrintLast

/-- r is the root of n. -/
def IsRoot (n r : Int) : Prop := 0 ≤ r ∧ r * r ≤ n ∧ n < (r + 1) * (r + 1)
theorem sq_lt {a b : Int} (ha : 0 ≤ a) (h : a ≤ b) : a * a ≤ b * b := Int.mul_le_mul h h ha (by omega)
theorem IsRoot.le {n r s : Int} (h1 : IsRoot n r) (h2 : IsRoot n s) : r ≤ s := by
  rcases Int.lt_or_le s r with h | h
  · have h3 : (s + 1) * (s + 1) ≤ r * r := sq_lt (by have := h2.1; omega) (by omega)
    have h4 := h1.2.1
    have h5 := h2.2.2
    omega
  · exact h
theorem IsRoot.one {n r s : Int} (h1 : IsRoot n r) (h2 : IsRoot n s) : r = s := by
  have h3 := h1.le h2
  have h4 := h2.le h1
  omega
theorem half {x : Int} (h0 : 0 ≤ x) : Int.tdiv x 2 = x / 2 := Int.tdiv_eq_ediv_of_nonneg h0

theorem foRoot_from (n : Int) (d : Nat) : ∀ lo hi : Int, 0 ≤ lo → lo < hi → hi ≤ 1000000001 → hi - lo ≤ d → lo * lo ≤ n → n < hi * hi → ∃ r, Ev (fun k => spec_foRoot.l0 k n lo hi) r ∧ IsRoot n r := by
  induction d with
  | zero => intro lo hi h0 h1 h2 h3; omega
  | succ d ih =>
    intro lo hi h0 h1 h2 h3 h4 h5
    have hw1 : wrap64 (hi - lo) = hi - lo := w64 (by omega) (by omega)
    have hw2 : wrap64 (lo + hi) = lo + hi := w64 (by omega) (by omega)
    have hm : wrap64 (Int.tdiv (lo + hi) 2) = (lo + hi) / 2 := by rw [half (by omega)]; exact w64 (by omega) (by omega)
    by_cases hgt : hi - lo > 1
    · obtain ⟨m, hme⟩ : ∃ m, m = (lo + hi) / 2 := ⟨_, rfl⟩
      have hm1 : lo < m := by omega
      have hm2 : m < hi := by omega
      have hsq : m * m ≤ 1000000001 * 1000000001 := sq_lt (by omega) (by omega)
      have hsq0 : 0 ≤ m * m := Int.mul_nonneg (by omega) (by omega)
      have hw3 : wrap64 (m * m) = m * m := w64 (by omega) (by omega)
      rcases Int.lt_or_le n (m * m) with hc | hc
      · obtain ⟨r, hr, hR⟩ := ih lo m h0 hm1 (by omega) (by omega) h4 hc
        refine ⟨r, Ev.step (fun k => ?_) hr, hR⟩
        simp only [spec_foRoot.l0]
        rw [hw1, if_pos hgt, hw2, hm, ← hme, hw3, if_neg (by omega)]
      · obtain ⟨r, hr, hR⟩ := ih m hi (by omega) hm2 h2 (by omega) hc h5
        refine ⟨r, Ev.step (fun k => ?_) hr, hR⟩
        simp only [spec_foRoot.l0]
        rw [hw1, if_pos hgt, hw2, hm, ← hme, hw3, if_pos hc]
    · refine ⟨lo, Ev.step (f := fun _ => some lo) (fun k => ?_) (Ev.is rfl), h0, h4, ?_⟩
      · simp only [spec_foRoot.l0]
        rw [hw1, if_neg hgt]
      · have : hi = lo + 1 := by omega
        rw [← this]
        exact h5
theorem foRoot_ev (n : Int) (h0 : 0 ≤ n) (h1 : n ≤ 1000000000000000000) : ∃ r, Ev (fun k => spec_foRoot.f k n) r ∧ IsRoot n r := by
  unfold spec_foRoot.f
  exact foRoot_from n 1000000001 0 1000000001 (by omega) (by omega) (by omega) (by omega) (by omega) (by omega)

theorem root_from (n : Int) (d : Nat) : ∀ lo hi : Int, 0 ≤ lo → lo ≤ hi → hi ≤ 2000000000 → hi - lo ≤ d → lo * lo ≤ n → n < (hi + 1) * (hi + 1) → ∃ r, Ev (fun k => impl_root.l0 k n lo hi) r ∧ IsRoot n r := by
  induction d with
  | zero =>
    intro lo hi h0 h1 h2 h3 h4 h5
    obtain rfl : lo = hi := by omega
    refine ⟨lo, Ev.step (f := fun _ => some lo) (fun k => ?_) (Ev.is rfl), h0, h4, h5⟩
    simp only [impl_root.l0]
    rw [if_neg (by omega)]
  | succ d ih =>
    intro lo hi h0 h1 h2 h3 h4 h5
    have hw2 : wrap64 (wrap64 (lo + hi) + 1) = lo + hi + 1 := by rw [w64 (x := lo + hi) (by omega) (by omega)]; exact w64 (by omega) (by omega)
    have hm : wrap64 (Int.tdiv (lo + hi + 1) 2) = (lo + hi + 1) / 2 := by rw [half (by omega)]; exact w64 (by omega) (by omega)
    by_cases hgt : lo < hi
    · obtain ⟨m, hme⟩ : ∃ m, m = (lo + hi + 1) / 2 := ⟨_, rfl⟩
      have hm1 : lo < m := by omega
      have hm2 : m ≤ hi := by omega
      have hsq : m * m ≤ 2000000000 * 2000000000 := sq_lt (by omega) (by omega)
      have hsq0 : 0 ≤ m * m := Int.mul_nonneg (by omega) (by omega)
      have hw3 : wrap64 (m * m) = m * m := w64 (by omega) (by omega)
      rcases Int.lt_or_le n (m * m) with hc | hc
      · obtain ⟨r, hr, hR⟩ := ih lo (m - 1) h0 (by omega) (by omega) (by omega) h4 (by rw [Int.sub_add_cancel]; exact hc)
        refine ⟨r, Ev.step (fun k => ?_) hr, hR⟩
        simp only [impl_root.l0]
        rw [if_pos hgt, hw2, hm, ← hme, hw3, if_neg (by omega), w64 (x := m - 1) (by omega) (by omega)]
      · obtain ⟨r, hr, hR⟩ := ih m hi (by omega) hm2 h2 (by omega) hc h5
        refine ⟨r, Ev.step (fun k => ?_) hr, hR⟩
        simp only [impl_root.l0]
        rw [if_pos hgt, hw2, hm, ← hme, hw3, if_pos hc]
    · obtain rfl : lo = hi := by omega
      refine ⟨lo, Ev.step (f := fun _ => some lo) (fun k => ?_) (Ev.is rfl), h0, h4, h5⟩
      simp only [impl_root.l0]
      rw [if_neg (by omega)]
theorem root_ev (n : Int) (h0 : 0 ≤ n) (h1 : n ≤ 1000000000000000000) : ∃ r, Ev (fun k => impl_root.f k n) r ∧ IsRoot n r := by
  unfold impl_root.f
  exact root_from n 2000000000 0 2000000000 (by omega) (by omega) (by omega) (by omega) (by omega) (by omega)
end Go.Proofs.Ytclpgaoneoojiaa.P
