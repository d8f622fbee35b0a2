/- Markov's equation: what impl.solves, spec.mkSolves, slices.IsSorted at three numbers tell. -/
import Derived.Test.YthkmbkibceojlaaUbase
import Derived.Test.YthkmbkibceojlaaGallWithin
import Derived.Test.YthkmbkibceojlaaGmk
import Derived.Test.YthkmbkibceojlaaPFimplsolves
import Derived.Test.YthkmbkibceojlaaPFspecmkSolves
import Derived.Test.YthkmbkibceojlaaPFimplareThree
import Derived.Test.YthkmbkibceojlaaPFslicesIsSortedintint
namespace Go.Proofs.Ythkmbkibceojlaa.P
set_option linter.unusedVariables false
set_option linter.unusedSimpArgs false
open Go.RowKit Go.Proofs.YthkmbkibceojlaaW.PrintWords Go.Proofs.YthkmbkibceojlaaW.PrintLast Go.Proofs.YthkmbkibceojlaaW.PrintMore

/-- Three numbers solve Markov's equation. -/
def mkEq (x y z : Int) : Bool := x * x + y * y + z * z == 3 * (x * y) * z
theorem mkEq_iff {x y z : Int} : mkEq x y z = true ↔ x * x + y * y + z * z = 3 * (x * y) * z := by simp [mkEq]
theorem mul_bd {a b A B : Int} (h1 : 0 ≤ a) (h2 : a ≤ A) (h3 : 0 ≤ b) (h4 : b ≤ B) : 0 ≤ a * b ∧ a * b ≤ A * B :=
  ⟨Int.mul_nonneg h1 h3, Int.mul_le_mul h2 h4 h3 (by omega)⟩
theorem mul_one_le {a b : Int} (h1 : 0 ≤ a) (h2 : 1 ≤ b) : a ≤ a * b := by
  have := Int.mul_le_mul (Int.le_refl a) h2 (by omega) h1
  omega

theorem solves_is (x y z : Int) (hx : 1 ≤ x ∧ x ≤ 1000000000) (hy : 1 ≤ y ∧ y ≤ 1000000000) (hz : 1 ≤ z ∧ z ≤ 1000000000) : impl_solves.f [x, y, z] = some (mkEq x y z) := by
  have r0 : rd [x, y, z] 0 = x := rfl
  have r1 : rd [x, y, z] 1 = y := rfl
  have r2 : rd [x, y, z] 2 = z := rfl
  have hl : (([x, y, z] : List Int).length : Int) = 3 := rfl
  have bx := mul_bd (a := x) (b := x) (A := 1000000000) (B := 1000000000) (by omega) (by omega) (by omega) (by omega)
  have by_ := mul_bd (a := y) (b := y) (A := 1000000000) (B := 1000000000) (by omega) (by omega) (by omega) (by omega)
  have bz := mul_bd (a := z) (b := z) (A := 1000000000) (B := 1000000000) (by omega) (by omega) (by omega) (by omega)
  have bp := mul_bd (a := x) (b := y) (A := 1000000000) (B := 1000000000) (by omega) (by omega) (by omega) (by omega)
  have p1 : 1 ≤ x * y := by have := mul_one_le (a := x) (b := y) (by omega) (by omega); omega
  have w1 : wrap64 (x * y) = x * y := w64 (by omega) (by omega)
  have w2 : wrap64 (x * x) = x * x := w64 (by omega) (by omega)
  have w3 : wrap64 (y * y) = y * y := w64 (by omega) (by omega)
  have w4 : wrap64 (z * z) = z * z := w64 (by omega) (by omega)
  have w5 : wrap64 (x * x + y * y) = x * x + y * y := w64 (by omega) (by omega)
  have w6 : wrap64 (x * x + y * y + z * z) = x * x + y * y + z * z := w64 (by omega) (by omega)
  have w7 : wrap64 (3 * (x * y)) = 3 * (x * y) := w64 (by omega) (by omega)
  unfold impl_solves.f
  simp only [r0, r1, r2, hl, w1, w2, w3, w4, w5, w6, w7]
  obtain ⟨S, hS⟩ : ∃ S, S = x * x + y * y + z * z := ⟨_, rfl⟩
  obtain ⟨p, hp⟩ : ∃ p, p = x * y := ⟨_, rfl⟩
  have hm : mkEq x y z = (S == 3 * p * z) := by unfold mkEq; rw [hS, hp]
  have hSp : 0 ≤ S := by rw [hS]; omega
  have hS3 : S ≤ 3000000000000000000 := by rw [hS]; omega
  have hp1 : 1 ≤ p := by rw [hp]; exact p1
  have hp2 : p ≤ 1000000000000000000 := by rw [hp]; omega
  rw [hm, ← hS, ← hp]
  clear hm hS hp w1 w2 w3 w4 w5 w6 w7 bx by_ bz bp p1 r0 r1 r2
  have d1 : Int.tdiv S 3 = S / 3 := Int.tdiv_eq_ediv_of_nonneg hSp
  have d2 : Int.tmod S (3 * p) = S % (3 * p) := Int.tmod_eq_emod_of_nonneg hSp
  have d3 : Int.tdiv S (3 * p) = S / (3 * p) := Int.tdiv_eq_ediv_of_nonneg hSp
  have w8 : wrap64 (S / 3) = S / 3 := w64 (by omega) (by omega)
  have e0 : 0 ≤ S / (3 * p) := Int.ediv_nonneg hSp (by omega)
  have e1 : S / (3 * p) ≤ S := Int.ediv_le_self _ hSp
  have w9 : wrap64 (S / (3 * p)) = S / (3 * p) := w64 (by omega) (by omega)
  have e2 := Int.mul_ediv_add_emod S (3 * p)
  rw [d1, d2, d3, w8, w9]
  have hz3 : ¬ 3 * p = 0 := by omega
  rw [if_pos (by decide), if_pos (by decide), if_pos (by decide)]
  by_cases h : S = 3 * p * z
  · have h1 : p ≤ S / 3 := by
      have h2 := mul_one_le (a := p) (b := z) (by omega) (by omega)
      have h3 : S = 3 * (p * z) := by rw [h, Int.mul_assoc]
      omega
    have h2 : S % (3 * p) = 0 := by rw [h]; exact Int.mul_emod_right _ _
    have h3 : S / (3 * p) = z := by rw [h]; exact Int.mul_ediv_cancel_left _ (by omega)
    rw [if_pos h1, if_neg hz3, if_pos h2, h3, beq_iff_eq.2 h]
    simp
  · rw [beq_eq_false_iff_ne.2 h]
    by_cases h1 : p ≤ S / 3
    · rw [if_pos h1, if_neg hz3]
      by_cases h2 : S % (3 * p) = 0
      · rw [if_pos h2]
        have h3 : ¬ S / (3 * p) = z := by
          intro h3
          rw [h2, h3] at e2
          apply h
          omega
        rw [beq_eq_false_iff_ne.2 h3]
      · rw [if_neg h2]
    · rw [if_neg h1]

theorem mkSolves_is (x y z : Int) (hx : 1 ≤ x ∧ x ≤ 1000000000) (hy : 1 ≤ y ∧ y ≤ 1000000000) (hz : 1 ≤ z ∧ z ≤ 1000000000) : spec_mkSolves.f x y z = some (mkEq x y z) := by
  have bx := mul_bd (a := x) (b := x) (A := 1000000000) (B := 1000000000) (by omega) (by omega) (by omega) (by omega)
  have by_ := mul_bd (a := y) (b := y) (A := 1000000000) (B := 1000000000) (by omega) (by omega) (by omega) (by omega)
  have bp := mul_bd (a := x) (b := y) (A := 1000000000) (B := 1000000000) (by omega) (by omega) (by omega) (by omega)
  have w1 : wrap64 (x * x) = x * x := w64 (by omega) (by omega)
  have w2 : wrap64 (y * y) = y * y := w64 (by omega) (by omega)
  have w3 : wrap64 (x * x + y * y) = x * x + y * y := w64 (by omega) (by omega)
  have w4 : wrap64 (3 * x) = 3 * x := w64 (by omega) (by omega)
  have hpp : 3 * x * y = 3 * (x * y) := Int.mul_assoc _ _ _
  have w5 : wrap64 (3 * x * y) = 3 * (x * y) := by rw [hpp]; exact w64 (by omega) (by omega)
  have w6 : wrap64 (3 * (x * y) - z) = 3 * (x * y) - z := w64 (by omega) (by omega)
  unfold spec_mkSolves.f
  simp only [w1, w2, w3, w4, w5, w6]
  obtain ⟨S, hS⟩ : ∃ S, S = x * x + y * y := ⟨_, rfl⟩
  obtain ⟨p, hp⟩ : ∃ p, p = x * y := ⟨_, rfl⟩
  have hm : mkEq x y z = (S + z * z == 3 * p * z) := by unfold mkEq; rw [hS, hp]
  have hSp : 0 ≤ S := by rw [hS]; omega
  have hS3 : S ≤ 2000000000000000000 := by rw [hS]; omega
  have hp1 : 0 ≤ p := by rw [hp]; omega
  have hp2 : p ≤ 1000000000000000000 := by rw [hp]; omega
  rw [hm, ← hS, ← hp]
  clear hm hS hp w1 w2 w3 w4 w5 w6 hpp bx by_ bp
  have d2 : Int.tmod S z = S % z := Int.tmod_eq_emod_of_nonneg hSp
  have d3 : Int.tdiv S z = S / z := Int.tdiv_eq_ediv_of_nonneg hSp
  have e0 : 0 ≤ S / z := Int.ediv_nonneg hSp (by omega)
  have e1 : S / z ≤ S := Int.ediv_le_self _ hSp
  have w9 : wrap64 (S / z) = S / z := w64 (by omega) (by omega)
  have e2 := Int.mul_ediv_add_emod S z
  rw [d2, d3, w9, if_neg (by omega)]
  by_cases h : S + z * z = 3 * p * z
  · have h0 : S = z * (3 * p - z) := by grind
    have h2 : S % z = 0 := by rw [h0]; exact Int.mul_emod_right _ _
    have h3 : S / z = 3 * p - z := by rw [h0]; exact Int.mul_ediv_cancel_left _ (by omega)
    rw [if_pos h2, h3, beq_iff_eq.2 h]
    simp
  · rw [beq_eq_false_iff_ne.2 h]
    by_cases h2 : S % z = 0
    · rw [if_pos h2]
      have h3 : ¬ S / z = 3 * p - z := by
        intro h3
        rw [h2, h3] at e2
        apply h
        grind
      rw [beq_eq_false_iff_ne.2 h3]
    · rw [if_neg h2]

theorem allB_inB (lo hi x : Int) : allB lo hi x = inB lo hi x := rfl
/-- A Markov triple. -/
def isMk (l : List Int) : Bool := match l with
  | [x, y, z] => [x, y, z].all (inB 1 1000000000) && (decide (x ≤ y) && (decide (y ≤ z) && mkEq x y z))
  | _ => false
theorem three_all {x y z lo hi : Int} (h : [x, y, z].all (inB lo hi) = true) : (lo ≤ x ∧ x ≤ hi) ∧ (lo ≤ y ∧ y ≤ hi) ∧ (lo ≤ z ∧ z ≤ hi) := by
  simp [inB] at h
  omega
theorem mkGood_is : ∀ l : List Int, spec_mkGood.f l = some (isMk l)
  | [] => rfl
  | [_] => rfl
  | [_, _] => rfl
  | _ :: _ :: _ :: _ :: _ => rfl
  | [x, y, z] => by
    show some ([x, y, z].all (inB 1 1000000000) && (decide (x ≤ y) && (decide (y ≤ z) && (spec_mkSolves.f x y z).getD false))) = some ([x, y, z].all (inB 1 1000000000) && (decide (x ≤ y) && (decide (y ≤ z) && mkEq x y z)))
    cases h : [x, y, z].all (inB 1 1000000000) with
    | false => rfl
    | true =>
      obtain ⟨h1, h2, h3⟩ := three_all h
      rw [mkSolves_is x y z h1 h2 h3]
      rfl
theorem less_is (a b : Int) : cmp_Less_int.f a b = some (decide (a < b)) := by
  unfold cmp_Less_int.f cmp_isNaN_int.f
  simp
theorem sorted_three (x y z : Int) : Ev (fun k => slices_IsSorted_int_int.f k [x, y, z]) (decide (x ≤ y) && decide (y ≤ z)) := by
  have w2 : wrap64 (3 - 1) = 2 := by decide +kernel
  have w1 : wrap64 (2 - 1) = 1 := by decide +kernel
  have w0 : wrap64 (1 - 1) = 0 := by decide +kernel
  have hl : (([x, y, z] : List Int).length : Int) = 3 := rfl
  have r0 : rd [x, y, z] 0 = x := rfl
  have r1 : rd [x, y, z] 1 = y := rfl
  have r2 : rd [x, y, z] 2 = z := rfl
  unfold slices_IsSorted_int_int.f
  rw [hl, w2]
  refine Ev.step (f := fun k => if z < y then some false else slices_IsSorted_int_int.l0 k [x, y, z] 1) (fun k => ?_) ?_
  · simp only [slices_IsSorted_int_int.l0, hl, w1, r1, r2, less_is, Option.bind_some, decide_eq_true_eq]
    rw [if_pos (by decide), if_pos (by decide), if_pos (by decide), if_pos (by decide), if_pos (by decide)]
  · by_cases h2 : z < y
    · simp only [h2, if_true]
      rw [decide_eq_false (by omega : ¬ y ≤ z), Bool.and_false]
      exact Ev.is rfl
    · simp only [h2, if_false]
      rw [decide_eq_true (by omega : y ≤ z), Bool.and_true]
      refine Ev.step (f := fun k => if y < x then some false else slices_IsSorted_int_int.l0 k [x, y, z] 0) (fun k => ?_) ?_
      · simp only [slices_IsSorted_int_int.l0, hl, w0, r0, r1, less_is, Option.bind_some, decide_eq_true_eq]
        rw [if_pos (by decide), if_pos (by decide), if_pos (by decide), if_pos (by decide), if_pos (by decide)]
      · by_cases h1 : y < x
        · simp only [h1, if_true]
          rw [decide_eq_false (by omega : ¬ x ≤ y)]
          exact Ev.is rfl
        · simp only [h1, if_false]
          rw [decide_eq_true (by omega : x ≤ y)]
          refine Ev.step (f := fun _ => some true) (fun k => ?_) (Ev.is rfl)
          simp only [slices_IsSorted_int_int.l0]
          rw [if_neg (by decide)]
end Go.Proofs.Ythkmbkibceojlaa.P
