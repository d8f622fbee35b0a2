/- MarkovPath answers what the reference answers, for every list; what it hands back is its own. No condition. -/
import Derived.Test.YthkmbkibceojlaaPFFnExactMarkovPath
import Derived.Test.YthkmbkibceojlaaUmkPath
namespace Go.Proofs.Ythkmbkibceojlaa.Pure
set_option linter.unusedVariables false
set_option linter.unusedSimpArgs false
open Go.RowKit Go.Proofs.Ythkmbkibceojlaa.P Go.Proofs.YthkmbkibceojlaaW.PrintWords Go.Proofs.YthkmbkibceojlaaW.PrintLast
theorem spec_MarkovPath_ev (l : List Int) : Ev (fun k => spec_MarkovPath.f k l) (pathAll l) := by
  unfold spec_MarkovPath.f pathAll
  refine Ev.bind0 (mkGood_is l) ?_
  cases h : isMk l with
  | false =>
    simp only [Bool.false_eq_true, if_false]
    exact Ev.is rfl
  | true =>
    simp only [if_true]
    exact Ev.bind (mkPath_ev h) (Ev.is rfl)
theorem total_le (W : List (List Int)) (n : Nat) (h : ∀ x ∈ W, x.length ≤ n) : total W ≤ n * W.length := by
  induction W with
  | nil => simp [total]
  | cons x W ih =>
    have h1 := h x List.mem_cons_self
    have h2 := ih (fun y hy => h y (List.mem_cons_of_mem _ hy))
    simp only [total, List.length_cons, Nat.mul_succ]
    omega
/-- The middle number falls by half at least, at each step: a short way. -/
theorem short (d : Nat) : ∀ (e : Nat) (l : List Int), isMk l = true → rd l 2 < 2 ^ e → (mkp d l).length ≤ e + 1 := by
  induction d with
  | zero => intro e l h hz; simp [mkp]
  | succ d ih =>
    intro e l h hz
    rw [mkp]
    by_cases hz1 : rd l 2 > 1
    · rw [if_pos hz1]
      have hp := mk_pos h
      cases e with
      | zero =>
        have : rd l 2 < 1 := by simpa using hz
        omega
      | succ e =>
        have hg := (dn_good h hz1).1
        have h2 : 2 * rd (dn l) 2 ≤ rd l 2 := by
          obtain ⟨x, y, z, rfl⟩ := mk_three h
          obtain ⟨h1, h2, h3, h4, h5, h6⟩ := isMk_iff.1 h
          have hb := below h hz1
          have e2 : rd (dn [x, y, z]) 2 = y := by
            show rd (srt x y (3 * x * y - z)) 2 = y
            rw [srt_two]
            unfold hi2
            split <;> split <;> omega
          have e3 : rd [x, y, z] 2 = z := rfl
          rw [e2, e3]
          -- z ≥ 3 x y - y ≥ 2 y
          have e4 : y ≤ x * y := by
            have := Int.mul_le_mul_of_nonneg_right (show 1 ≤ x by omega) (show 0 ≤ y by omega)
            omega
          have e5 : 3 * x * y = 3 * (x * y) := Int.mul_assoc _ _ _
          omega
        have := ih e (dn l) hg (by rw [Int.pow_succ] at hz; omega)
        simp only [List.length_cons]
        omega
    · rw [if_neg hz1]
      simp
theorem pathAll_bd (l : List Int) : (pathAll l).1.length ≤ 1000000000 ∧ total (pathAll l).1 ≤ 1000000000 := by
  unfold pathAll
  cases h : isMk l with
  | false => simp [total]
  | true =>
    have hp := mk_pos h
    have hs := short 1000000000 30 l h (by rw [show (2 : Int) ^ 30 = 1073741824 by decide]; omega)
    have ht := total_le (pathOf l) 3 (fun x hx => by rw [mk_len (mkp_all 1000000000 l h x hx)]; exact Nat.le_refl _)
    have he : (pathOf l).length = (mkp 1000000000 l).length := rfl
    simp only [if_true]
    omega
theorem FnExactMarkovPath : laws_FnExactMarkovPath.Pure := by
  intro l _ hl _
  refine Ev.rounds ?_
  unfold laws_FnExactMarkovPath.f
  by_cases h : (l.length : Int) > 1048576
  · simp only [h, if_true]
    exact Ev.is rfl
  · simp only [h, if_false]
    have e1 := spec_MarkovPath_ev l
    have e2 := MarkovPath_ev l
    have hr := pathAll_bd l
    generalize pathAll l = r at e1 e2 hr
    refine Ev.bind e1 (Ev.bind e2 ?_)
    simp only [hr, and_self, if_true]
    exact Ev.is rfl
end Go.Proofs.Ythkmbkibceojlaa.Pure
