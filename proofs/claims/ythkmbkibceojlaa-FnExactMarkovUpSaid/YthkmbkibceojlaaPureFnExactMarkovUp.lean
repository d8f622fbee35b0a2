-- a law's pure text with its lemmas, laid into one (one.py)
import Derived.Test.YthkmbkibceojlaaPFFnExactMarkovUp
import Derived.Test.YthkmbkibceojlaaUbase
import Derived.Test.YthkmbkibceojlaaGallWithin
import Derived.Test.YthkmbkibceojlaaGmk
import Derived.Test.YthkmbkibceojlaaPFimplsolves
import Derived.Test.YthkmbkibceojlaaPFspecmkSolves
import Derived.Test.YthkmbkibceojlaaPFimplareThree
import Derived.Test.YthkmbkibceojlaaPFslicesIsSortedintint
import Derived.Test.YthkmbkibceojlaaPFimplIsMarkov
import Derived.Test.YthkmbkibceojlaaPFspecmkSort
import Derived.Test.YthkmbkibceojlaaGsortInts
import Derived.Test.YthkmbkibceojlaaGcloneInts
import Derived.Test.YthkmbkibceojlaaPFimplmoved
import Derived.Test.YthkmbkibceojlaaPFspecmkMove
import Derived.Test.YthkmbkibceojlaaPFspecmkDown
import Derived.Test.YthkmbkibceojlaaGmkPath
import Derived.Test.YthkmbkibceojlaaGups
import Derived.Test.YthkmbkibceojlaaPFspecmkUp
namespace Go.Proofs.Ythkmbkibceojlaa.P
set_option linter.unusedVariables false
set_option linter.unusedSimpArgs false
open Go.RowKit Go.Proofs.YthkmbkibceojlaaW.PrintWords Go.Proofs.YthkmbkibceojlaaW.PrintLast Go.Proofs.YthkmbkibceojlaaW.PrintMore

/-- Three numbers solve Markov's equation. -/
def mkEq (x y z : Int) : Bool := x * x + y * y + z * z == 3 * (x * y) * z
theorem mkEq_iff {x y z : Int} : mkEq x y z = true ↔ x * x + y * y + z * z = 3 * (x * y) * z := by simp [mkEq]
theorem mul_bd {a b A B : Int} (h1 : 0 ≤ a) (h2 : a ≤ A) (h3 : 0 ≤ b) (h4 : b ≤ B) : 0 ≤ a * b ∧ a * b ≤ A * B :=
  ⟨Int.mul_nonneg h1 h3, Int.mul_le_mul h2 h4 h3 (by omega)⟩
theorem mul_one_le {a b : Int} (h1 : 0 ≤ a) (h2 : 1 ≤ b) : a ≤ a * b := by
  have := Int.mul_le_mul (Int.le_refl a) h2 (by omega) h1
  omega

theorem solves_is (x y z : Int) (hx : 1 ≤ x ∧ x ≤ 1000000000) (hy : 1 ≤ y ∧ y ≤ 1000000000) (hz : 1 ≤ z ∧ z ≤ 1000000000) : impl_solves.f [x, y, z] = some (mkEq x y z) := by
  have r0 : rd [x, y, z] 0 = x := rfl
  have r1 : rd [x, y, z] 1 = y := rfl
  have r2 : rd [x, y, z] 2 = z := rfl
  have hl : (([x, y, z] : List Int).length : Int) = 3 := rfl
  have bx := mul_bd (a := x) (b := x) (A := 1000000000) (B := 1000000000) (by omega) (by omega) (by omega) (by omega)
  have by_ := mul_bd (a := y) (b := y) (A := 1000000000) (B := 1000000000) (by omega) (by omega) (by omega) (by omega)
  have bz := mul_bd (a := z) (b := z) (A := 1000000000) (B := 1000000000) (by omega) (by omega) (by omega) (by omega)
  have bp := mul_bd (a := x) (b := y) (A := 1000000000) (B := 1000000000) (by omega) (by omega) (by omega) (by omega)
  have p1 : 1 ≤ x * y := by have := mul_one_le (a := x) (b := y) (by omega) (by omega); omega
  have w1 : wrap64 (x * y) = x * y := w64 (by omega) (by omega)
  have w2 : wrap64 (x * x) = x * x := w64 (by omega) (by omega)
  have w3 : wrap64 (y * y) = y * y := w64 (by omega) (by omega)
  have w4 : wrap64 (z * z) = z * z := w64 (by omega) (by omega)
  have w5 : wrap64 (x * x + y * y) = x * x + y * y := w64 (by omega) (by omega)
  have w6 : wrap64 (x * x + y * y + z * z) = x * x + y * y + z * z := w64 (by omega) (by omega)
  have w7 : wrap64 (3 * (x * y)) = 3 * (x * y) := w64 (by omega) (by omega)
  unfold impl_solves.f
  simp only [r0, r1, r2, hl, w1, w2, w3, w4, w5, w6, w7]
  obtain ⟨S, hS⟩ : ∃ S, S = x * x + y * y + z * z := ⟨_, rfl⟩
  obtain ⟨p, hp⟩ : ∃ p, p = x * y := ⟨_, rfl⟩
  have hm : mkEq x y z = (S == 3 * p * z) := by unfold mkEq; rw [hS, hp]
  have hSp : 0 ≤ S := by rw [hS]; omega
  have hS3 : S ≤ 3000000000000000000 := by rw [hS]; omega
  have hp1 : 1 ≤ p := by rw [hp]; exact p1
  have hp2 : p ≤ 1000000000000000000 := by rw [hp]; omega
  rw [hm, ← hS, ← hp]
  clear hm hS hp w1 w2 w3 w4 w5 w6 w7 bx by_ bz bp p1 r0 r1 r2
  have d1 : Int.tdiv S 3 = S / 3 := Int.tdiv_eq_ediv_of_nonneg hSp
  have d2 : Int.tmod S (3 * p) = S % (3 * p) := Int.tmod_eq_emod_of_nonneg hSp
  have d3 : Int.tdiv S (3 * p) = S / (3 * p) := Int.tdiv_eq_ediv_of_nonneg hSp
  have w8 : wrap64 (S / 3) = S / 3 := w64 (by omega) (by omega)
  have e0 : 0 ≤ S / (3 * p) := Int.ediv_nonneg hSp (by omega)
  have e1 : S / (3 * p) ≤ S := Int.ediv_le_self _ hSp
  have w9 : wrap64 (S / (3 * p)) = S / (3 * p) := w64 (by omega) (by omega)
  have e2 := Int.mul_ediv_add_emod S (3 * p)
  rw [d1, d2, d3, w8, w9]
  have hz3 : ¬ 3 * p = 0 := by omega
  rw [if_pos (by decide), if_pos (by decide), if_pos (by decide)]
  by_cases h : S = 3 * p * z
  · have h1 : p ≤ S / 3 := by
      have h2 := mul_one_le (a := p) (b := z) (by omega) (by omega)
      have h3 : S = 3 * (p * z) := by rw [h, Int.mul_assoc]
      omega
    have h2 : S % (3 * p) = 0 := by rw [h]; exact Int.mul_emod_right _ _
    have h3 : S / (3 * p) = z := by rw [h]; exact Int.mul_ediv_cancel_left _ (by omega)
    rw [if_pos h1, if_neg hz3, if_pos h2, h3, beq_iff_eq.2 h]
    simp
  · rw [beq_eq_false_iff_ne.2 h]
    by_cases h1 : p ≤ S / 3
    · rw [if_pos h1, if_neg hz3]
      by_cases h2 : S % (3 * p) = 0
      · rw [if_pos h2]
        have h3 : ¬ S / (3 * p) = z := by
          intro h3
          rw [h2, h3] at e2
          apply h
          omega
        rw [beq_eq_false_iff_ne.2 h3]
      · rw [if_neg h2]
    · rw [if_neg h1]

theorem mkSolves_is (x y z : Int) (hx : 1 ≤ x ∧ x ≤ 1000000000) (hy : 1 ≤ y ∧ y ≤ 1000000000) (hz : 1 ≤ z ∧ z ≤ 1000000000) : spec_mkSolves.f x y z = some (mkEq x y z) := by
  have bx := mul_bd (a := x) (b := x) (A := 1000000000) (B := 1000000000) (by omega) (by omega) (by omega) (by omega)
  have by_ := mul_bd (a := y) (b := y) (A := 1000000000) (B := 1000000000) (by omega) (by omega) (by omega) (by omega)
  have bp := mul_bd (a := x) (b := y) (A := 1000000000) (B := 1000000000) (by omega) (by omega) (by omega) (by omega)
  have w1 : wrap64 (x * x) = x * x := w64 (by omega) (by omega)
  have w2 : wrap64 (y * y) = y * y := w64 (by omega) (by omega)
  have w3 : wrap64 (x * x + y * y) = x * x + y * y := w64 (by omega) (by omega)
  have w4 : wrap64 (3 * x) = 3 * x := w64 (by omega) (by omega)
  have hpp : 3 * x * y = 3 * (x * y) := Int.mul_assoc _ _ _
  have w5 : wrap64 (3 * x * y) = 3 * (x * y) := by rw [hpp]; exact w64 (by omega) (by omega)
  have w6 : wrap64 (3 * (x * y) - z) = 3 * (x * y) - z := w64 (by omega) (by omega)
  unfold spec_mkSolves.f
  simp only [w1, w2, w3, w4, w5, w6]
  obtain ⟨S, hS⟩ : ∃ S, S = x * x + y * y := ⟨_, rfl⟩
  obtain ⟨p, hp⟩ : ∃ p, p = x * y := ⟨_, rfl⟩
  have hm : mkEq x y z = (S + z * z == 3 * p * z) := by unfold mkEq; rw [hS, hp]
  have hSp : 0 ≤ S := by rw [hS]; omega
  have hS3 : S ≤ 2000000000000000000 := by rw [hS]; omega
  have hp1 : 0 ≤ p := by rw [hp]; omega
  have hp2 : p ≤ 1000000000000000000 := by rw [hp]; omega
  rw [hm, ← hS, ← hp]
  clear hm hS hp w1 w2 w3 w4 w5 w6 hpp bx by_ bp
  have d2 : Int.tmod S z = S % z := Int.tmod_eq_emod_of_nonneg hSp
  have d3 : Int.tdiv S z = S / z := Int.tdiv_eq_ediv_of_nonneg hSp
  have e0 : 0 ≤ S / z := Int.ediv_nonneg hSp (by omega)
  have e1 : S / z ≤ S := Int.ediv_le_self _ hSp
  have w9 : wrap64 (S / z) = S / z := w64 (by omega) (by omega)
  have e2 := Int.mul_ediv_add_emod S z
  rw [d2, d3, w9, if_neg (by omega)]
  by_cases h : S + z * z = 3 * p * z
  · have h0 : S = z * (3 * p - z) := by grind
    have h2 : S % z = 0 := by rw [h0]; exact Int.mul_emod_right _ _
    have h3 : S / z = 3 * p - z := by rw [h0]; exact Int.mul_ediv_cancel_left _ (by omega)
    rw [if_pos h2, h3, beq_iff_eq.2 h]
    simp
  · rw [beq_eq_false_iff_ne.2 h]
    by_cases h2 : S % z = 0
    · rw [if_pos h2]
      have h3 : ¬ S / z = 3 * p - z := by
        intro h3
        rw [h2, h3] at e2
        apply h
        grind
      rw [beq_eq_false_iff_ne.2 h3]
    · rw [if_neg h2]

theorem allB_inB (lo hi x : Int) : allB lo hi x = inB lo hi x := rfl
/-- A Markov triple. -/
def isMk (l : List Int) : Bool := match l with
  | [x, y, z] => [x, y, z].all (inB 1 1000000000) && (decide (x ≤ y) && (decide (y ≤ z) && mkEq x y z))
  | _ => false
theorem three_all {x y z lo hi : Int} (h : [x, y, z].all (inB lo hi) = true) : (lo ≤ x ∧ x ≤ hi) ∧ (lo ≤ y ∧ y ≤ hi) ∧ (lo ≤ z ∧ z ≤ hi) := by
  simp [inB] at h
  omega
theorem mkGood_is : ∀ l : List Int, spec_mkGood.f l = some (isMk l)
  | [] => rfl
  | [_] => rfl
  | [_, _] => rfl
  | _ :: _ :: _ :: _ :: _ => rfl
  | [x, y, z] => by
    show some ([x, y, z].all (inB 1 1000000000) && (decide (x ≤ y) && (decide (y ≤ z) && (spec_mkSolves.f x y z).getD false))) = some ([x, y, z].all (inB 1 1000000000) && (decide (x ≤ y) && (decide (y ≤ z) && mkEq x y z)))
    cases h : [x, y, z].all (inB 1 1000000000) with
    | false => rfl
    | true =>
      obtain ⟨h1, h2, h3⟩ := three_all h
      rw [mkSolves_is x y z h1 h2 h3]
      rfl
theorem less_is (a b : Int) : cmp_Less_int.f a b = some (decide (a < b)) := by
  unfold cmp_Less_int.f cmp_isNaN_int.f
  simp
theorem sorted_three (x y z : Int) : Ev (fun k => slices_IsSorted_int_int.f k [x, y, z]) (decide (x ≤ y) && decide (y ≤ z)) := by
  have w2 : wrap64 (3 - 1) = 2 := by decide +kernel
  have w1 : wrap64 (2 - 1) = 1 := by decide +kernel
  have w0 : wrap64 (1 - 1) = 0 := by decide +kernel
  have hl : (([x, y, z] : List Int).length : Int) = 3 := rfl
  have r0 : rd [x, y, z] 0 = x := rfl
  have r1 : rd [x, y, z] 1 = y := rfl
  have r2 : rd [x, y, z] 2 = z := rfl
  unfold slices_IsSorted_int_int.f
  rw [hl, w2]
  refine Ev.step (f := fun k => if z < y then some false else slices_IsSorted_int_int.l0 k [x, y, z] 1) (fun k => ?_) ?_
  · simp only [slices_IsSorted_int_int.l0, hl, w1, r1, r2, less_is, Option.bind_some, decide_eq_true_eq]
    rw [if_pos (by decide), if_pos (by decide), if_pos (by decide), if_pos (by decide), if_pos (by decide)]
  · by_cases h2 : z < y
    · simp only [h2, if_true]
      rw [decide_eq_false (by omega : ¬ y ≤ z), Bool.and_false]
      exact Ev.is rfl
    · simp only [h2, if_false]
      rw [decide_eq_true (by omega : y ≤ z), Bool.and_true]
      refine Ev.step (f := fun k => if y < x then some false else slices_IsSorted_int_int.l0 k [x, y, z] 0) (fun k => ?_) ?_
      · simp only [slices_IsSorted_int_int.l0, hl, w0, r0, r1, less_is, Option.bind_some, decide_eq_true_eq]
        rw [if_pos (by decide), if_pos (by decide), if_pos (by decide), if_pos (by decide), if_pos (by decide)]
      · by_cases h1 : y < x
        · simp only [h1, if_true]
          rw [decide_eq_false (by omega : ¬ x ≤ y)]
          exact Ev.is rfl
        · simp only [h1, if_false]
          rw [decide_eq_true (by omega : x ≤ y)]
          refine Ev.step (f := fun _ => some true) (fun k => ?_) (Ev.is rfl)
          simp only [slices_IsSorted_int_int.l0]
          rw [if_neg (by decide)]
end Go.Proofs.Ythkmbkibceojlaa.P

namespace Go.Proofs.Ythkmbkibceojlaa.P
set_option linter.unusedVariables false
set_option linter.unusedSimpArgs false
open Go.RowKit Go.Proofs.YthkmbkibceojlaaW.PrintWords Go.Proofs.YthkmbkibceojlaaW.PrintLast Go.Proofs.YthkmbkibceojlaaW.PrintMore

theorem areThree_no (l : List Int) (h : ¬ l.length = 3) : impl_areThree.f l = some false := by
  unfold impl_areThree.f
  rw [if_neg (by omega)]
theorem areThree_is (x y z : Int) : impl_areThree.f [x, y, z] = some ([x, y, z].all (inB 1 1000000000)) := rfl
theorem isMk_no (l : List Int) (h : ¬ l.length = 3) : isMk l = false := by
  match l with
  | [] => rfl
  | [_] => rfl
  | [_, _] => rfl
  | [_, _, _] => simp at h
  | _ :: _ :: _ :: _ :: _ => rfl
theorem three_of (l : List Int) (h : l.length = 3) : ∃ x y z, l = [x, y, z] := by
  match l, h with
  | [x, y, z], _ => exact ⟨x, y, z, rfl⟩
theorem IsMarkov_ev (l : List Int) : Ev (fun k => impl_IsMarkov.f k l) (isMk l) := by
  unfold impl_IsMarkov.f
  by_cases h3 : l.length = 3
  · obtain ⟨x, y, z, rfl⟩ := three_of l h3
    refine Ev.bind0 (areThree_is x y z) ?_
    have he : isMk [x, y, z] = ([x, y, z].all (inB 1 1000000000) && (decide (x ≤ y) && (decide (y ≤ z) && mkEq x y z))) := rfl
    rw [he]
    cases h : [x, y, z].all (inB 1 1000000000) with
    | false =>
      simp only [Bool.false_eq_true, if_false, Bool.false_and]
      exact Ev.is rfl
    | true =>
      obtain ⟨h1, h2, h4⟩ := three_all h
      simp only [if_true, Bool.true_and]
      refine Ev.bind (sorted_three x y z) ?_
      rw [solves_is x y z h1 h2 h4]
      by_cases c1 : x ≤ y <;> by_cases c2 : y ≤ z
      all_goals
        simp only [c1, c2, decide_true, decide_false, Bool.and_true, Bool.true_and, Bool.false_and, Bool.and_false, if_true, Bool.false_eq_true, if_false, Option.bind_some]
        exact Ev.is rfl
  · refine Ev.bind0 (areThree_no l h3) ?_
    simp only [Bool.false_eq_true, if_false]
    rw [isMk_no l h3]
    exact Ev.is rfl
end Go.Proofs.Ythkmbkibceojlaa.P

namespace Go.Proofs.Ythkmbkibceojlaa.P
set_option linter.unusedVariables false
set_option linter.unusedSimpArgs false
open Go.RowKit Go.Proofs.YthkmbkibceojlaaW.PrintWords Go.Proofs.YthkmbkibceojlaaW.PrintLast Go.Proofs.YthkmbkibceojlaaW.PrintMore

def lo2 (a b : Int) : Int := if a < b then a else b
def hi2 (a b : Int) : Int := if a > b then a else b
theorem least_is (a b : Int) : spec_l1Least.f a b = some (lo2 a b) := by unfold spec_l1Least.f lo2; split <;> rfl
theorem most_is (a b : Int) : spec_l1Most.f a b = some (hi2 a b) := by unfold spec_l1Most.f hi2; split <;> rfl
/-- Three numbers in order. -/
def srt (x y z : Int) : List Int := [lo2 x (lo2 y z), x + y + z - lo2 x (lo2 y z) - hi2 x (hi2 y z), hi2 x (hi2 y z)]
theorem srt_cases (x y z : Int) : (x ≤ y ∧ y ≤ z ∧ srt x y z = [x, y, z]) ∨ (x ≤ z ∧ z ≤ y ∧ srt x y z = [x, z, y]) ∨ (y ≤ x ∧ x ≤ z ∧ srt x y z = [y, x, z]) ∨ (y ≤ z ∧ z ≤ x ∧ srt x y z = [y, z, x]) ∨ (z ≤ x ∧ x ≤ y ∧ srt x y z = [z, x, y]) ∨ (z ≤ y ∧ y ≤ x ∧ srt x y z = [z, y, x]) := by
  have e : ∀ a b c : Int, lo2 x (lo2 y z) = a → hi2 x (hi2 y z) = c → x + y + z = a + b + c → srt x y z = [a, b, c] := by
    intro a b c h1 h2 h3
    unfold srt
    rw [h1, h2]
    congr 2
    omega
  have l : ∀ a b : Int, a ≤ b → lo2 a b = a ∧ lo2 b a = a ∧ hi2 a b = b ∧ hi2 b a = b := by
    intro a b h
    unfold lo2 hi2
    refine ⟨?_, ?_, ?_, ?_⟩ <;> split <;> omega
  rcases Int.le_total x y with h1 | h1 <;> rcases Int.le_total y z with h2 | h2 <;> rcases Int.le_total x z with h3 | h3
  · exact .inl ⟨h1, h2, e _ _ _ (by rw [(l y z h2).1, (l x y h1).1]) (by rw [(l y z h2).2.2.1, (l x z h3).2.2.1]) (by omega)⟩
  · exact .inl ⟨h1, h2, e _ _ _ (by rw [(l y z h2).1, (l x y h1).1]) (by rw [(l y z h2).2.2.1, (l z x h3).2.2.2]; omega) (by omega)⟩
  · exact .inr (.inl ⟨h3, h2, e _ _ _ (by rw [(l z y h2).2.1, (l x z h3).1]) (by rw [(l z y h2).2.2.2, (l x y h1).2.2.1]) (by omega)⟩)
  · exact .inr (.inr (.inr (.inr (.inl ⟨h3, h1, e _ _ _ (by rw [(l z y h2).2.1, (l z x h3).2.1]) (by rw [(l z y h2).2.2.2, (l x y h1).2.2.1]) (by omega)⟩))))
  · exact .inr (.inr (.inl ⟨h1, h3, e _ _ _ (by rw [(l y z h2).1, (l y x h1).2.1]) (by rw [(l y z h2).2.2.1, (l x z h3).2.2.1]) (by omega)⟩))
  · exact .inr (.inr (.inr (.inl ⟨h2, h3, e _ _ _ (by rw [(l y z h2).1, (l y x h1).2.1]) (by rw [(l y z h2).2.2.1, (l z x h3).2.2.2]) (by omega)⟩)))
  · exact .inr (.inr (.inr (.inr (.inr ⟨h2, h1, e _ _ _ (by rw [(l z y h2).2.1, (l x z h3).1]; omega) (by rw [(l z y h2).2.2.2, (l y x h1).2.2.2]) (by omega)⟩))))
  · exact .inr (.inr (.inr (.inr (.inr ⟨h2, h1, e _ _ _ (by rw [(l z y h2).2.1, (l z x h3).2.1]) (by rw [(l z y h2).2.2.2, (l y x h1).2.2.2]) (by omega)⟩))))
theorem mkSort_srt (x y z : Int) (hx : 0 ≤ x ∧ x ≤ 1000000000000) (hy : 0 ≤ y ∧ y ≤ 1000000000000) (hz : 0 ≤ z ∧ z ≤ 1000000000000) : spec_mkSort.f x y z = some (srt x y z) := by
  have hlo : 0 ≤ lo2 x (lo2 y z) ∧ lo2 x (lo2 y z) ≤ 1000000000000 := by unfold lo2; split <;> split <;> omega
  have hhi : 0 ≤ hi2 x (hi2 y z) ∧ hi2 x (hi2 y z) ≤ 1000000000000 := by unfold hi2; split <;> split <;> omega
  have w1 : wrap64 (x + y) = x + y := w64 (by omega) (by omega)
  have w2 : wrap64 (x + y + z) = x + y + z := w64 (by omega) (by omega)
  have w3 : wrap64 (x + y + z - lo2 x (lo2 y z)) = x + y + z - lo2 x (lo2 y z) := w64 (by omega) (by omega)
  have w4 : wrap64 (x + y + z - lo2 x (lo2 y z) - hi2 x (hi2 y z)) = x + y + z - lo2 x (lo2 y z) - hi2 x (hi2 y z) := w64 (by omega) (by omega)
  unfold spec_mkSort.f srt
  simp only [least_is, most_is, Option.bind_some, w1, w2, w3, w4]
theorem mkEq_srt {x y z a b c : Int} (h : srt x y z = [a, b, c]) : mkEq a b c = mkEq x y z := by
  have g : ∀ p q r : Int, (mkEq p q r = mkEq p r q) ∧ (mkEq p q r = mkEq q p r) := by
    intro p q r
    unfold mkEq
    constructor
    · rw [Bool.eq_iff_iff]; simp only [beq_iff_eq]; constructor <;> intro h <;> grind
    · rw [Bool.eq_iff_iff]; simp only [beq_iff_eq]; constructor <;> intro h <;> grind
  rcases srt_cases x y z with ⟨_, _, e⟩ | ⟨_, _, e⟩ | ⟨_, _, e⟩ | ⟨_, _, e⟩ | ⟨_, _, e⟩ | ⟨_, _, e⟩ <;> (rw [e] at h; injection h with h1 h; injection h with h2 h; injection h with h3 _; subst h1 h2 h3)
  · rfl
  · exact (g _ _ _).1
  · exact (g _ _ _).2
  · rw [(g y z x).1, (g y x z).2]
  · rw [(g z x y).2, (g x z y).1]
  · rw [(g z y x).1, (g z x y).2, (g x z y).1]
theorem srt_three (x y z : Int) : ∃ a b c, srt x y z = [a, b, c] ∧ a ≤ b ∧ b ≤ c := by
  rcases srt_cases x y z with ⟨h1, h2, e⟩ | ⟨h1, h2, e⟩ | ⟨h1, h2, e⟩ | ⟨h1, h2, e⟩ | ⟨h1, h2, e⟩ | ⟨h1, h2, e⟩ <;> exact ⟨_, _, _, e, h1, h2⟩
theorem mkSort_is (x y z : Int) (hx : 1 ≤ x ∧ x ≤ 1000000000) (hy : 1 ≤ y ∧ y ≤ 1000000000) (hz : 1 ≤ z ∧ z ≤ 1000000000) : ∃ a b c, spec_mkSort.f x y z = some [a, b, c] ∧ a ≤ b ∧ b ≤ c ∧ 1 ≤ a ∧ c ≤ 1000000000 ∧ mkEq a b c = mkEq x y z := by
  have h := mkSort_srt x y z (by omega) (by omega) (by omega)
  rcases srt_cases x y z with ⟨h1, h2, e⟩ | ⟨h1, h2, e⟩ | ⟨h1, h2, e⟩ | ⟨h1, h2, e⟩ | ⟨h1, h2, e⟩ | ⟨h1, h2, e⟩ <;> exact ⟨_, _, _, by rw [h, e], h1, h2, by omega, by omega, mkEq_srt e⟩
end Go.Proofs.Ythkmbkibceojlaa.P

namespace Go.Proofs.Ythkmbkibceojlaa.P
set_option linter.unusedVariables false
set_option linter.unusedSimpArgs false
open Go.RowKit Go.Proofs.YthkmbkibceojlaaW.PrintWords Go.Proofs.YthkmbkibceojlaaW.PrintLast

def up (l : List Int) : List Int := l.mergeSort fun x y => decide (x ≤ y)
theorem up_perm (l : List Int) : (up l).Perm l := List.mergeSort_perm _ _
theorem up_pairwise (l : List Int) : (up l).Pairwise (· ≤ ·) := by
  have h := List.pairwise_mergeSort (le := fun x y : Int => decide (x ≤ y)) (by intro a b c h1 h2; simp at *; omega) (by intro a b; simp; omega) l
  exact h.imp (by intro a b h; simpa using h)
theorem up_unique {l m : List Int} (hp : m.Perm l) (hs : m.Pairwise (· ≤ ·)) : m = up l :=
  List.Perm.eq_of_pairwise (le := (· ≤ ·)) (fun a b _ _ h1 h2 => by omega) hs (up_pairwise l) (hp.trans (up_perm l).symm)
theorem up_length (l : List Int) : (up l).length = l.length := (up_perm l).length_eq
theorem sort_is (l : List Int) (h : l.length < 4611686018427387904) : slices_Sort_int_int.f l = some (up l) := by
  unfold slices_Sort_int_int.f
  rw [if_pos h]
  rfl
end Go.Proofs.Ythkmbkibceojlaa.P

namespace Go.Proofs.Ythkmbkibceojlaa.P
set_option linter.unusedVariables false
set_option linter.unusedSimpArgs false
open Go.RowKit Go.Proofs.YthkmbkibceojlaaW.PrintWords Go.Proofs.YthkmbkibceojlaaW.PrintLast Go.Proofs.YthkmbkibceojlaaW.PrintMore

theorem clone_is (l : List Int) (h : l.length < 17592186044416) : slices_Clone_int_int.f l = some l := by
  unfold slices_Clone_int_int.f
  rw [if_pos h]
theorem srt_up (x y z : Int) : srt x y z = up [x, y, z] := by
  have sw : ∀ a b c : Int, ([a, b, c] : List Int).Perm [a, c, b] := fun a b c => List.Perm.cons a (List.Perm.swap c b [])
  have ex : ∀ a b c : Int, ([a, b, c] : List Int).Perm [b, a, c] := fun a b c => List.Perm.swap b a [c]
  have hs : ∀ a b c : Int, a ≤ b → b ≤ c → ([a, b, c] : List Int).Pairwise (· ≤ ·) := by
    intro a b c h1 h2
    simp
    omega
  rcases srt_cases x y z with ⟨h1, h2, e⟩ | ⟨h1, h2, e⟩ | ⟨h1, h2, e⟩ | ⟨h1, h2, e⟩ | ⟨h1, h2, e⟩ | ⟨h1, h2, e⟩ <;> rw [e]
  · exact up_unique (List.Perm.refl _) (hs _ _ _ h1 h2)
  · exact up_unique (sw _ _ _) (hs _ _ _ h1 h2)
  · exact up_unique (ex _ _ _) (hs _ _ _ h1 h2)
  · exact up_unique ((sw _ _ _).trans (ex _ _ _)) (hs _ _ _ h1 h2)
  · exact up_unique ((ex _ _ _).trans (sw _ _ _)) (hs _ _ _ h1 h2)
  · exact up_unique ((ex _ _ _).trans ((sw _ _ _).trans (ex _ _ _))) (hs _ _ _ h1 h2)
theorem up_same {l m : List Int} (h : l.Perm m) : up l = up m := up_unique ((up_perm l).trans h) (up_pairwise l)
theorem srt_rot (x y z : Int) : srt x y z = srt y z x := by
  rw [srt_up, srt_up]
  exact up_same ((List.Perm.swap y x [z]).trans (List.Perm.cons y (List.Perm.swap z x [])))
theorem srt_ex (x y z : Int) : srt x y z = srt y x z := by
  rw [srt_up, srt_up]
  exact up_same (List.Perm.swap y x [z])
theorem mkEq_rot (x y z : Int) : mkEq x y z = mkEq y z x := by
  unfold mkEq
  rw [Bool.eq_iff_iff]; simp only [beq_iff_eq]; constructor <;> intro h <;> grind
theorem mkEq_ex (x y z : Int) : mkEq x y z = mkEq y x z := by
  unfold mkEq
  rw [Bool.eq_iff_iff]; simp only [beq_iff_eq]; constructor <;> intro h <;> grind

/-- What a Markov triple's numbers are. -/
theorem isMk_iff {x y z : Int} : isMk [x, y, z] = true ↔ (1 ≤ x ∧ x ≤ 1000000000) ∧ (1 ≤ y ∧ y ≤ 1000000000) ∧ (1 ≤ z ∧ z ≤ 1000000000) ∧ x ≤ y ∧ y ≤ z ∧ mkEq x y z = true := by
  have he : isMk [x, y, z] = ([x, y, z].all (inB 1 1000000000) && (decide (x ≤ y) && (decide (y ≤ z) && mkEq x y z))) := rfl
  rw [he]
  simp only [List.all_cons, List.all_nil, Bool.and_true, Bool.and_eq_true, inB, decide_eq_true_eq]
  constructor
  · rintro ⟨⟨h1, h2, h3⟩, h4, h5, h6⟩
    exact ⟨h1, h2, h3, h4, h5, h6⟩
  · rintro ⟨h1, h2, h3, h4, h5, h6⟩
    exact ⟨⟨h1, h2, h3⟩, h4, h5, h6⟩
theorem isMk_srt {x y z : Int} (hx : 1 ≤ x ∧ x ≤ 1000000000) (hy : 1 ≤ y ∧ y ≤ 1000000000) (hz : 1 ≤ z ∧ z ≤ 1000000000) (h : mkEq x y z = true) : isMk (srt x y z) = true := by
  rcases srt_cases x y z with ⟨h1, h2, e⟩ | ⟨h1, h2, e⟩ | ⟨h1, h2, e⟩ | ⟨h1, h2, e⟩ | ⟨h1, h2, e⟩ | ⟨h1, h2, e⟩ <;> (have h6 := mkEq_srt e; rw [e, isMk_iff]; exact ⟨by omega, by omega, by omega, h1, h2, by rw [h6]; exact h⟩)
/-- The other root. -/
theorem other_root {a b c : Int} (ha : 1 ≤ a ∧ a ≤ 1000000000) (hb : 1 ≤ b ∧ b ≤ 1000000000) (hc : 1 ≤ c ∧ c ≤ 1000000000) (h : mkEq a b c = true) :
    1 ≤ 3 * a * b - c ∧ 3 * a * b - c ≤ 3000000000000000000 ∧ c * (3 * a * b - c) = a * a + b * b ∧ mkEq a b (3 * a * b - c) = true ∧ wrap64 (wrap64 (wrap64 (3 * a) * b) - c) = 3 * a * b - c := by
  rw [mkEq_iff] at h
  have h1 : c * (3 * a * b - c) = a * a + b * b := by grind
  have p1 := mul_bd (a := a) (b := b) (A := 1000000000) (B := 1000000000) (by omega) (by omega) (by omega) (by omega)
  have p2 : 1 ≤ a * a := by have := mul_one_le (a := a) (b := a) (by omega) (by omega); omega
  have p3 : 1 ≤ b * b := by have := mul_one_le (a := b) (b := b) (by omega) (by omega); omega
  have e : 3 * a * b = 3 * (a * b) := Int.mul_assoc _ _ _
  have hpos : 1 ≤ 3 * a * b - c := by
    rcases Int.lt_or_le 0 (3 * a * b - c) with h2 | h2
    · omega
    · have h3 := Int.mul_nonneg (show 0 ≤ c by omega) (show 0 ≤ -(3 * a * b - c) by omega)
      rw [Int.mul_neg] at h3
      omega
  refine ⟨hpos, by omega, h1, ?_, ?_⟩
  · rw [mkEq_iff]; grind
  · rw [w64 (x := 3 * a) (by omega) (by omega), w64 (x := 3 * a * b) (by omega) (by omega), w64 (by omega) (by omega)]

/-- The triple behind a move. -/
def mv (x y z : Int) : Nat → List Int
  | 0 => srt y z (3 * y * z - x)
  | 1 => srt z x (3 * z * x - y)
  | _ => srt x y (3 * x * y - z)
def mvN (x y z : Int) : Nat → Int
  | 0 => 3 * y * z - x
  | 1 => 3 * z * x - y
  | _ => 3 * x * y - z
theorem moved_raw (x y z : Int) : impl_moved.f [x, y, z] 0 = some (up [wrap64 (wrap64 (wrap64 (3 * y) * z) - x), y, z]) ∧ impl_moved.f [x, y, z] 1 = some (up [x, wrap64 (wrap64 (wrap64 (3 * z) * x) - y), z]) ∧ impl_moved.f [x, y, z] 2 = some (up [x, y, wrap64 (wrap64 (wrap64 (3 * x) * y) - z)]) := by
  have c : slices_Clone_int_int.f [x, y, z] = some [x, y, z] := clone_is _ (show 3 < 17592186044416 by decide)
  have s : ∀ a b c : Int, slices_Sort_int_int.f [a, b, c] = some (up [a, b, c]) := fun a b c => sort_is _ (show 3 < 4611686018427387904 by decide)
  have hl : (([x, y, z] : List Int).length : Int) = 3 := rfl
  have t1 : Int.tmod (wrap64 (0 + 1)) 3 = 1 := by decide +kernel
  have t2 : Int.tmod (wrap64 (0 + 2)) 3 = 2 := by decide +kernel
  have t3 : Int.tmod (wrap64 (1 + 1)) 3 = 2 := by decide +kernel
  have t4 : Int.tmod (wrap64 (1 + 2)) 3 = 0 := by decide +kernel
  have t5 : Int.tmod (wrap64 (2 + 1)) 3 = 0 := by decide +kernel
  have t6 : Int.tmod (wrap64 (2 + 2)) 3 = 1 := by decide +kernel
  have r0 : rd [x, y, z] 0 = x := rfl
  have r1 : rd [x, y, z] 1 = y := rfl
  have r2 : rd [x, y, z] 2 = z := rfl
  unfold impl_moved.f
  rw [c, t1, t2, t3, t4, t5, t6]
  simp only [Option.bind_some, hl, r0, r1, r2]
  refine ⟨?_, ?_, ?_⟩
  · rw [if_pos (by decide), if_pos (by decide), if_pos (by decide), if_pos (by decide), if_pos (by decide), if_pos (by decide), if_pos (by decide), show (0 : Int).toNat = 0 from rfl, List.set_cons_zero, s]
    rfl
  · rw [if_pos (by decide), if_pos (by decide), if_pos (by decide), if_pos (by decide), if_pos (by decide), if_pos (by decide), if_pos (by decide), show (1 : Int).toNat = 1 from rfl, List.set_cons_succ, List.set_cons_zero, s]
    rfl
  · rw [if_pos (by decide), if_pos (by decide), if_pos (by decide), if_pos (by decide), if_pos (by decide), if_pos (by decide), if_pos (by decide), show (2 : Int).toNat = 2 from rfl, List.set_cons_succ, List.set_cons_succ, List.set_cons_zero, s]
    rfl
/-- The numbers of a move at an index: the two that stay and the one that goes. -/
structure Roots (x y z : Int) (i : Nat) (a b c : Int) : Prop where
  ha : 1 ≤ a ∧ a ≤ 1000000000
  hb : 1 ≤ b ∧ b ≤ 1000000000
  hc : 1 ≤ c ∧ c ≤ 1000000000
  eq : mkEq a b c = true
  mv : mv x y z i = srt a b (3 * a * b - c)
  n : mvN x y z i = 3 * a * b - c
theorem roots_of {x y z : Int} (h : isMk [x, y, z] = true) (i : Nat) (hi : i ≤ 2) : ∃ a b c, Roots x y z i a b c ∧ ((i = 0 ∧ a = y ∧ b = z ∧ c = x) ∨ (i = 1 ∧ a = z ∧ b = x ∧ c = y) ∨ (i = 2 ∧ a = x ∧ b = y ∧ c = z)) := by
  obtain ⟨h1, h2, h3, h4, h5, h6⟩ := isMk_iff.1 h
  have hc : i = 0 ∨ i = 1 ∨ i = 2 := by omega
  rcases hc with rfl | rfl | rfl
  · exact ⟨y, z, x, ⟨h2, h3, h1, by rw [← mkEq_rot]; exact h6, rfl, rfl⟩, .inl ⟨rfl, rfl, rfl, rfl⟩⟩
  · exact ⟨z, x, y, ⟨h3, h1, h2, by rw [mkEq_rot]; exact h6, rfl, rfl⟩, .inr (.inl ⟨rfl, rfl, rfl, rfl⟩)⟩
  · exact ⟨x, y, z, ⟨h1, h2, h3, h6, rfl, rfl⟩, .inr (.inr ⟨rfl, rfl, rfl, rfl⟩)⟩
theorem moved_is {x y z : Int} (h : isMk [x, y, z] = true) (i : Nat) (hi : i ≤ 2) : impl_moved.f [x, y, z] (i : Int) = some (mv x y z i) := by
  obtain ⟨h1, h2, h3, h4, h5, h6⟩ := isMk_iff.1 h
  obtain ⟨m0, m1, m2⟩ := moved_raw x y z
  obtain ⟨a, b, c, hR, hcase⟩ := roots_of h i hi
  have ho := other_root hR.ha hR.hb hR.hc hR.eq
  rw [hR.mv]
  rcases hcase with ⟨rfl, rfl, rfl, rfl⟩ | ⟨rfl, rfl, rfl, rfl⟩ | ⟨rfl, rfl, rfl, rfl⟩
  · rw [ho.2.2.2.2] at m0
    rw [show ((0 : Nat) : Int) = 0 from rfl, m0, ← srt_up, srt_rot]
  · rw [ho.2.2.2.2] at m1
    rw [show ((1 : Nat) : Int) = 1 from rfl, m1, ← srt_up, ← srt_rot]
  · rw [ho.2.2.2.2] at m2
    rw [show ((2 : Nat) : Int) = 2 from rfl, m2, ← srt_up]
theorem srt_two (a b c : Int) : rd (srt a b c) 2 = hi2 a (hi2 b c) := rfl
theorem mv_two {x y z : Int} (h : isMk [x, y, z] = true) (i : Nat) (hi : i ≤ 2) : rd (mv x y z i) 2 > 1000000000 ↔ mvN x y z i > 1000000000 := by
  obtain ⟨a, b, c, hR, _⟩ := roots_of h i hi
  have := hR.ha
  have := hR.hb
  rw [hR.mv, hR.n, srt_two]
  unfold hi2
  split <;> split <;> omega
theorem mv_is {x y z : Int} (h : isMk [x, y, z] = true) (i : Nat) (hi : i ≤ 2) (hn : mvN x y z i ≤ 1000000000) : isMk (mv x y z i) = true := by
  obtain ⟨a, b, c, hR, _⟩ := roots_of h i hi
  have ho := other_root hR.ha hR.hb hR.hc hR.eq
  rw [hR.n] at hn
  rw [hR.mv]
  exact isMk_srt hR.ha hR.hb ⟨ho.1, hn⟩ ho.2.2.2.1
theorem mv_three (x y z : Int) (i : Nat) : ∃ a b c, mv x y z i = [a, b, c] := by
  match i with
  | 0 => exact ⟨_, _, _, rfl⟩
  | 1 => exact ⟨_, _, _, rfl⟩
  | _ + 2 => exact ⟨_, _, _, rfl⟩
def mvOf (x y z : Int) (i : Nat) : List Int × Bool := if mvN x y z i > 1000000000 then ([], false) else (mv x y z i, true)
theorem big_product {a b c : Int} (ha : 1 ≤ a ∧ a ≤ 1000000000) (hb : 1 ≤ b ∧ b ≤ 1000000000) (hc : 1 ≤ c ∧ c ≤ 1000000000) (h : a > 1000000000 / b) : 3 * a * b - c > 1000000000 := by
  have h1 : 1000000000 < a * b := (Int.ediv_lt_iff_lt_mul (by omega)).1 h
  have e : 3 * a * b = 3 * (a * b) := Int.mul_assoc _ _ _
  omega
theorem mkMove_is {x y z : Int} (h : isMk [x, y, z] = true) (i : Nat) (hi : i ≤ 2) : spec_mkMove.f [x, y, z] (i : Int) = some (mvOf x y z i) := by
  obtain ⟨a, b, c, hR, hcase⟩ := roots_of h i hi
  have ho := other_root hR.ha hR.hb hR.hc hR.eq
  have ha := hR.ha
  have hb := hR.hb
  have hc := hR.hc
  have hb0 : ¬ b = 0 := by clear ho; omega
  have hi0 : (0 : Int) ≤ (i : Int) := by clear ho hcase; omega
  have hi3 : (i : Int) < 3 := by clear ho hcase; omega
  have hl : (([x, y, z] : List Int).length : Int) = 3 := rfl
  have q1 : 0 ≤ 1000000000 / b := Int.ediv_nonneg (by omega) (by omega)
  have q2 : 1000000000 / b ≤ 1000000000 := Int.ediv_le_self _ (by omega)
  have wq : wrap64 (1000000000 / b) = 1000000000 / b := w64 (by omega) (by omega)
  have e1 : rd [x, y, z] (Int.tmod (wrap64 ((i : Int) + 1)) 3) = a ∧ rd [x, y, z] (Int.tmod (wrap64 ((i : Int) + 2)) 3) = b ∧ rd [x, y, z] (i : Int) = c ∧ 0 ≤ Int.tmod (wrap64 ((i : Int) + 1)) 3 ∧ Int.tmod (wrap64 ((i : Int) + 1)) 3 < 3 ∧ 0 ≤ Int.tmod (wrap64 ((i : Int) + 2)) 3 ∧ Int.tmod (wrap64 ((i : Int) + 2)) 3 < 3 := by
    rcases hcase with ⟨rfl, rfl, rfl, rfl⟩ | ⟨rfl, rfl, rfl, rfl⟩ | ⟨rfl, rfl, rfl, rfl⟩
    · have t1 : Int.tmod (wrap64 (((0 : Nat) : Int) + 1)) 3 = 1 := by decide +kernel
      have t2 : Int.tmod (wrap64 (((0 : Nat) : Int) + 2)) 3 = 2 := by decide +kernel
      rw [t1, t2]
      exact ⟨rfl, rfl, rfl, by decide, by decide, by decide, by decide⟩
    · have t1 : Int.tmod (wrap64 (((1 : Nat) : Int) + 1)) 3 = 2 := by decide +kernel
      have t2 : Int.tmod (wrap64 (((1 : Nat) : Int) + 2)) 3 = 0 := by decide +kernel
      rw [t1, t2]
      exact ⟨rfl, rfl, rfl, by decide, by decide, by decide, by decide⟩
    · have t1 : Int.tmod (wrap64 (((2 : Nat) : Int) + 1)) 3 = 0 := by decide +kernel
      have t2 : Int.tmod (wrap64 (((2 : Nat) : Int) + 2)) 3 = 1 := by decide +kernel
      rw [t1, t2]
      exact ⟨rfl, rfl, rfl, by decide, by decide, by decide, by decide⟩
  obtain ⟨e1, e2, e3, e4, e5, e6, e7⟩ := e1
  have ho5 := ho.2.2.2.2
  have hbig := big_product ha hb hc
  have hsort : ¬ 3 * a * b - c > 1000000000 → spec_mkSort.f a b (3 * a * b - c) = some (srt a b (3 * a * b - c)) := fun h2 => mkSort_srt a b _ (by clear e1 e2 e3 e4 e5 e6 e7 wq q1 q2 hcase ho5; omega) (by clear e1 e2 e3 e4 e5 e6 e7 wq q1 q2 hcase ho5; omega) (by clear e1 e2 e3 e4 e5 e6 e7 wq q1 q2 hcase ho5; omega)
  have hres : mvOf x y z i = if 3 * a * b - c > 1000000000 then ([], false) else (srt a b (3 * a * b - c), true) := by unfold mvOf; rw [hR.n, hR.mv]
  rw [hres]
  unfold spec_mkMove.f
  simp only [hl, e1, e2, e3, e4, e5, e6, e7, hb0, hi0, hi3, ho5, wq, if_true, if_false]
  by_cases h1 : a > 1000000000 / b
  · have h2 := hbig h1
    simp only [h1, h2, if_true]
  · by_cases h2 : 3 * a * b - c > 1000000000
    · simp only [h1, h2, if_true, if_false]
    · simp only [h1, h2, if_false, hsort h2, Option.bind_some]
theorem mkDown_is {x y z : Int} (h : isMk [x, y, z] = true) : spec_mkDown.f [x, y, z] = some (mv x y z 2) := by
  obtain ⟨h1, h2, h3, h4, h5, h6⟩ := isMk_iff.1 h
  have ho := other_root h1 h2 h3 h6
  have r0 : rd [x, y, z] 0 = x := rfl
  have r1 : rd [x, y, z] 1 = y := rfl
  have r2 : rd [x, y, z] 2 = z := rfl
  have hl : (([x, y, z] : List Int).length : Int) = 3 := rfl
  have bx := mul_bd (a := x) (b := x) (A := 1000000000) (B := z) (by omega) (by omega) (by omega) (by omega)
  have by_ := mul_bd (a := y) (b := y) (A := 1000000000) (B := z) (by omega) (by omega) (by omega) (by omega)
  have w1 : wrap64 (x * x) = x * x := w64 (by omega) (by omega)
  have w2 : wrap64 (y * y) = y * y := w64 (by omega) (by omega)
  have w3 : wrap64 (x * x + y * y) = x * x + y * y := w64 (by omega) (by omega)
  have d1 : Int.tdiv (x * x + y * y) z = 3 * x * y - z := by
    rw [← ho.2.2.1, Int.tdiv_eq_ediv_of_nonneg (by rw [ho.2.2.1]; omega), Int.mul_ediv_cancel_left _ (by omega)]
  have hle : 3 * x * y - z ≤ 2000000000 := by
    rcases Int.lt_or_le 2000000000 (3 * x * y - z) with h7 | h7
    · have h8 := Int.mul_le_mul (Int.le_refl z) (show 2000000001 ≤ 3 * x * y - z by omega) (by omega) (by omega)
      rw [ho.2.2.1] at h8
      omega
    · exact h7
  unfold spec_mkDown.f
  rw [hl, r0, r1, r2, w1, w2, w3, d1, w64 (x := 3 * x * y - z) (by omega) (by omega), if_pos (by decide), if_pos (by decide), if_pos (by decide), if_neg (by omega), mkSort_srt x y _ (by omega) (by omega) (by omega)]
  rfl
end Go.Proofs.Ythkmbkibceojlaa.P

namespace Go.Proofs.Ythkmbkibceojlaa.P
set_option linter.unusedVariables false
set_option linter.unusedSimpArgs false
open Go.RowKit Go.Proofs.YthkmbkibceojlaaW.PrintWords Go.Proofs.YthkmbkibceojlaaW.PrintLast Go.Proofs.YthkmbkibceojlaaW.PrintMore

theorem mk_three {l : List Int} (h : isMk l = true) : ∃ x y z, l = [x, y, z] := by
  match l, h with
  | [x, y, z], _ => exact ⟨x, y, z, rfl⟩
/-- The triple below. -/
def dn (l : List Int) : List Int := match l with
  | [x, y, z] => mv x y z 2
  | _ => l
/-- Above 1 1 1 the greatest number stands alone, and the other root is at most the middle one. -/
theorem below {x y z : Int} (h : isMk [x, y, z] = true) (hz : 1 < z) : y < z ∧ 3 * x * y - z ≤ y := by
  obtain ⟨h1, h2, h3, h4, h5, h6⟩ := isMk_iff.1 h
  have ho := other_root h1 h2 h3 h6
  have h7 := mkEq_iff.1 h6
  have hyz : y < z := by
    rcases Int.lt_or_le y z with h8 | h8
    · exact h8
    · obtain rfl : y = z := by omega
      -- x x + 2 y y = 3 x y y
      have e1 : x * x + 2 * (y * y) = 3 * (x * (y * y)) := by grind
      have e2 : x * x ≤ y * y := Int.mul_le_mul h4 h4 (by omega) (by omega)
      rcases Int.lt_or_le 1 x with h9 | h9
      · have e3 : 2 * (y * y) ≤ x * (y * y) := Int.mul_le_mul_of_nonneg_right (by omega) (by have := mul_one_le (a := y) (b := y) (by omega) (by omega); omega)
        have e4 := mul_one_le (a := y) (b := y) (by omega) (by omega)
        omega
      · obtain rfl : x = 1 := by omega
        have e4 : y * y = 1 := by omega
        have e5 : 2 * y ≤ y * y := Int.mul_le_mul_of_nonneg_right (show (2 : Int) ≤ y by omega) (by omega)
        omega
  refine ⟨hyz, ?_⟩
  rcases Int.lt_or_le y (3 * x * y - z) with h8 | h8
  · have e1 : (z - y) * (3 * x * y - z - y) = x * x + 2 * (y * y) - 3 * (x * (y * y)) := by grind
    have e2 : 0 < (z - y) * (3 * x * y - z - y) := Int.mul_pos (by omega) (by omega)
    have e3 : x * x ≤ y * y := Int.mul_le_mul h4 h4 (by omega) (by omega)
    have e4 : y * y ≤ x * (y * y) := by
      have := Int.mul_le_mul_of_nonneg_right (show 1 ≤ x by omega) (show 0 ≤ y * y by have := mul_one_le (a := y) (b := y) (by omega) (by omega); omega)
      omega
    omega
  · exact h8
theorem dn_is {x y z : Int} (h : isMk [x, y, z] = true) (hz : 1 < z) : isMk (dn [x, y, z]) = true ∧ rd (dn [x, y, z]) 2 < z := by
  obtain ⟨h1, h2, h3, h4, h5, h6⟩ := isMk_iff.1 h
  obtain ⟨b1, b2⟩ := below h hz
  have hn : mvN x y z 2 ≤ 1000000000 := by
    show 3 * x * y - z ≤ _
    omega
  refine ⟨mv_is h 2 (by omega) hn, ?_⟩
  show rd (srt x y (3 * x * y - z)) 2 < z
  rw [srt_two]
  unfold hi2
  split <;> split <;> omega
theorem mk_pos {l : List Int} (h : isMk l = true) : 1 ≤ rd l 2 ∧ rd l 2 ≤ 1000000000 := by
  obtain ⟨x, y, z, rfl⟩ := mk_three h
  obtain ⟨h1, h2, h3, h4, h5, h6⟩ := isMk_iff.1 h
  exact h3
theorem dn_good {l : List Int} (h : isMk l = true) (hz : 1 < rd l 2) : isMk (dn l) = true ∧ rd (dn l) 2 < rd l 2 := by
  obtain ⟨x, y, z, rfl⟩ := mk_three h
  exact dn_is h hz
theorem moved_dn {l : List Int} (h : isMk l = true) : impl_moved.f l 2 = some (dn l) := by
  obtain ⟨x, y, z, rfl⟩ := mk_three h
  exact moved_is h 2 (by omega)
theorem down_dn {l : List Int} (h : isMk l = true) : spec_mkDown.f l = some (dn l) := by
  obtain ⟨x, y, z, rfl⟩ := mk_three h
  exact mkDown_is h
theorem mk_len {l : List Int} (h : isMk l = true) : l.length = 3 := by
  obtain ⟨x, y, z, rfl⟩ := mk_three h
  rfl
def mkp : Nat → List Int → List (List Int)
  | 0, l => [l]
  | d + 1, l => if rd l 2 > 1 then l :: mkp d (dn l) else [l]
theorem mkp_both (d : Nat) : ∀ (l : List Int) (o : List (List Int)), isMk l = true → rd l 2 ≤ d → o.length + d ≤ 3000000000000 →
    Ev (fun k => spec_mkPath.l0 k l (o ++ [l])) (o ++ mkp d l) ∧ Ev (fun k => impl_MarkovPath.l0 k l (o ++ [l])) (o ++ mkp d l, true) := by
  induction d with
  | zero =>
    intro l o h hs ho
    have := (mk_pos h).1
    omega
  | succ d ih =>
    intro l o h hs ho
    have hl : (2 : Int) < (l.length : Int) := by rw [mk_len h]; decide
    rw [mkp]
    by_cases hz : rd l 2 > 1
    · obtain ⟨g1, g2⟩ := dn_good h hz
      obtain ⟨r1, r2⟩ := ih (dn l) (o ++ [l]) g1 (by omega) (by rw [List.length_append, List.length_singleton]; omega)
      have hlen : (o ++ [l]).length < 4000000000000 := by rw [List.length_append, List.length_singleton]; omega
      have happ : o ++ l :: mkp d (dn l) = (o ++ [l]) ++ mkp d (dn l) := by simp
      rw [if_pos hz, happ]
      constructor
      · refine Ev.step (fun k => by simp only [spec_mkPath.l0, hl, hz, down_dn h, if_true, Option.bind_some, hlen]) r1
      · refine Ev.step (fun k => by simp only [impl_MarkovPath.l0, hl, hz, moved_dn h, clone_is _ (show (dn l).length < 17592186044416 by rw [mk_len g1]; decide), if_true, Option.bind_some, hlen]) r2
    · rw [if_neg hz]
      constructor
      · refine Ev.step (f := fun _ => some (o ++ [l])) (fun k => by simp only [spec_mkPath.l0, hl, hz, if_true, if_false]) (Ev.is rfl)
      · refine Ev.step (f := fun _ => some (o ++ [l], true)) (fun k => by simp only [impl_MarkovPath.l0, hl, hz, if_true, if_false]) (Ev.is rfl)
/-- The whole way. -/
def pathOf (l : List Int) : List (List Int) := mkp 1000000000 l
theorem mkPath_ev {l : List Int} (h : isMk l = true) : Ev (fun k => spec_mkPath.f k l) (pathOf l) := by
  have hp := mk_pos h
  have hl := mk_len h
  unfold spec_mkPath.f
  have he : spec_l1Own.f l = some l := by
    unfold spec_l1Own.f
    simp only [List.nil_append, List.length_nil, Option.bind_some]
    rw [if_pos (by omega)]
  refine Ev.bind0 he ?_
  exact (mkp_both 1000000000 l [] h (by omega) (by simp)).1
def pathAll (l : List Int) : List (List Int) × Bool := if isMk l then (pathOf l, true) else ([], false)
theorem MarkovPath_ev (l : List Int) : Ev (fun k => impl_MarkovPath.f k l) (pathAll l) := by
  unfold impl_MarkovPath.f pathAll
  refine Ev.bind (IsMarkov_ev l) ?_
  cases h : isMk l with
  | false =>
    simp only [Bool.false_eq_true, if_false]
    exact Ev.is rfl
  | true =>
    have hp := mk_pos h
    have hl := mk_len h
    simp only [if_true]
    refine Ev.bind0 (clone_is l (by omega)) ?_
    exact (mkp_both 1000000000 l [] h (by omega) (by simp)).2
theorem mkp_length (d : Nat) : ∀ l, 1 ≤ (mkp d l).length ∧ (mkp d l).length ≤ d + 1 := by
  induction d with
  | zero => intro l; simp [mkp]
  | succ d ih =>
    intro l
    rw [mkp]
    have := ih (dn l)
    split
    · simp only [List.length_cons]; omega
    · simp
theorem mkp_head (d : Nat) (l : List Int) : (mkp d l)[0]? = some l := by
  cases d with
  | zero => rfl
  | succ d => rw [mkp]; split <;> rfl
theorem mkp_all (d : Nat) : ∀ l, isMk l = true → ∀ x ∈ mkp d l, isMk x = true := by
  induction d with
  | zero =>
    intro l h x hx
    rw [mkp] at hx
    rw [List.mem_singleton.1 hx]
    exact h
  | succ d ih =>
    intro l h x hx
    rw [mkp] at hx
    split at hx
    · rename_i hz
      rcases List.mem_cons.1 hx with rfl | hx
      · exact h
      · exact ih _ (dn_good h hz).1 x hx
    · rw [List.mem_singleton.1 hx]
      exact h
end Go.Proofs.Ythkmbkibceojlaa.P

namespace Go.Proofs.Ythkmbkibceojlaa.P
set_option linter.unusedVariables false
set_option linter.unusedSimpArgs false
open Go.RowKit Go.Proofs.YthkmbkibceojlaaW.PrintWords Go.Proofs.YthkmbkibceojlaaW.PrintLast Go.Proofs.YthkmbkibceojlaaW.PrintMore

/-- The triples above, up to a bound. -/
def upsL (most : Int) : List Int → List (List Int)
  | [x, y, z] => (if 3 * x * z - y ≤ most then [[x, z, 3 * x * z - y]] else []) ++ (if 3 * y * z - x ≤ most ∧ x ≠ y then [[y, z, 3 * y * z - x]] else [])
  | _ => []
theorem up_big {x y z : Int} (h : isMk [x, y, z] = true) : 2 * z ≤ 3 * x * z - y ∧ 3 * x * z - y ≤ 3 * y * z - x ∧ 3 * z * x = 3 * x * z := by
  obtain ⟨h1, h2, h3, h4, h5, h6⟩ := isMk_iff.1 h
  have e0 : 3 * z * x = 3 * x * z := by grind
  have e1 : 3 * x * z = 3 * (x * z) := Int.mul_assoc _ _ _
  have e2 : z ≤ x * z := by
    have := Int.mul_le_mul_of_nonneg_right (show 1 ≤ x by omega) (show 0 ≤ z by omega)
    omega
  have e3 : 3 * y * z = 3 * (y * z) := Int.mul_assoc _ _ _
  have e4 : x * z ≤ y * z := Int.mul_le_mul_of_nonneg_right h4 (by omega)
  refine ⟨?_, ?_, e0⟩ <;> omega
theorem mv_one {x y z : Int} (h : isMk [x, y, z] = true) : mv x y z 1 = [x, z, 3 * x * z - y] := by
  obtain ⟨b1, b2, b3⟩ := up_big h
  obtain ⟨h1, h2, h3, h4, h5, h6⟩ := isMk_iff.1 h
  show srt z x (3 * z * x - y) = _
  rw [b3]
  generalize 3 * x * z - y = n at b1
  rcases srt_cases z x n with ⟨c1, c2, e⟩ | ⟨c1, c2, e⟩ | ⟨c1, c2, e⟩ | ⟨c1, c2, e⟩ | ⟨c1, c2, e⟩ | ⟨c1, c2, e⟩ <;> rw [e] <;> first | rfl | (exfalso; omega) | (simp only [List.cons.injEq, and_true, true_and]; omega)
theorem mv_zero {x y z : Int} (h : isMk [x, y, z] = true) : mv x y z 0 = [y, z, 3 * y * z - x] := by
  obtain ⟨b1, b2, b3⟩ := up_big h
  obtain ⟨h1, h2, h3, h4, h5, h6⟩ := isMk_iff.1 h
  show srt y z (3 * y * z - x) = _
  generalize 3 * y * z - x = n at b2
  have hn : 2 * z ≤ n := by omega
  rcases srt_cases y z n with ⟨c1, c2, e⟩ | ⟨c1, c2, e⟩ | ⟨c1, c2, e⟩ | ⟨c1, c2, e⟩ | ⟨c1, c2, e⟩ | ⟨c1, c2, e⟩ <;> rw [e] <;> first | rfl | (exfalso; omega) | (simp only [List.cons.injEq, and_true, true_and]; omega)
/-- Behind the move of the greatest number none is greater, but for 1 1 1. -/
theorem mv_back {x y z : Int} (h : isMk [x, y, z] = true) : (1 < z ∧ ¬ z < rd (mv x y z 2) 2) ∨ (x = 1 ∧ y = 1 ∧ z = 1) := by
  obtain ⟨h1, h2, h3, h4, h5, h6⟩ := isMk_iff.1 h
  by_cases hz : 1 < z
  · left
    refine ⟨hz, ?_⟩
    obtain ⟨b1, b2⟩ := below h hz
    show ¬ z < rd (srt x y (3 * x * y - z)) 2
    rw [srt_two]
    unfold hi2
    split <;> split <;> omega
  · right
    omega
theorem upsL_sorted (most : Int) {l : List Int} (h : isMk l = true) : (upsL most l).Pairwise fun a b => cmpL a b < 0 := by
  obtain ⟨x, y, z, rfl⟩ := mk_three h
  obtain ⟨h1, h2, h3, h4, h5, h6⟩ := isMk_iff.1 h
  show ((if 3 * x * z - y ≤ most then [[x, z, 3 * x * z - y]] else []) ++ (if 3 * y * z - x ≤ most ∧ x ≠ y then [[y, z, 3 * y * z - x]] else [])).Pairwise _
  by_cases c1 : 3 * x * z - y ≤ most
  · by_cases c2 : 3 * y * z - x ≤ most ∧ x ≠ y
    · rw [if_pos c1, if_pos c2]
      have : x < y := by omega
      simp [cmpL, this]
    · rw [if_pos c1, if_neg c2]
      simp
  · by_cases c2 : 3 * y * z - x ≤ most ∧ x ≠ y
    · rw [if_neg c1, if_pos c2]
      simp
    · rw [if_neg c1, if_neg c2]
      simp
theorem upsL_mk {most : Int} (hm : most ≤ 1000000000) {l u : List Int} (h : isMk l = true) (hu : u ∈ upsL most l) : isMk u = true ∧ 2 * rd l 2 ≤ rd u 2 ∧ rd u 2 ≤ most := by
  obtain ⟨x, y, z, rfl⟩ := mk_three h
  obtain ⟨b1, b2, b3⟩ := up_big h
  replace hu : u ∈ (if 3 * x * z - y ≤ most then [[x, z, 3 * x * z - y]] else []) ++ (if 3 * y * z - x ≤ most ∧ x ≠ y then [[y, z, 3 * y * z - x]] else []) := hu
  rcases List.mem_append.1 hu with hu | hu
  · split at hu
    · obtain rfl := List.mem_singleton.1 hu
      have := mv_is h 1 (by omega) (by show 3 * z * x - y ≤ _; omega)
      rw [mv_one h] at this
      exact ⟨this, b1, by assumption⟩
    · simp at hu
  · split at hu
    · rename_i c
      obtain rfl := List.mem_singleton.1 hu
      have := mv_is h 0 (by omega) (by show 3 * y * z - x ≤ _; omega)
      rw [mv_zero h] at this
      exact ⟨this, by show 2 * z ≤ 3 * y * z - x; omega, c.1⟩
    · simp at hu

theorem sameS_from (a b : List Int) (hl : a.length = b.length) (hn : a.length ≤ 4611686018427387904) (d : Nat) : ∀ i : Nat, i + d = a.length → a.take i = b.take i → Ev (fun k => spec_l1Same.l0 k a b (a.length : Int) (i : Int)) (decide (a = b)) := by
  induction d with
  | zero =>
    intro i hi ht
    rw [List.take_of_length_le (by omega), List.take_of_length_le (by omega)] at ht
    refine Ev.step (fun k => by simp only [spec_l1Same.l0]; rw [if_neg (by omega)]) ?_
    exact Ev.is (by rw [decide_eq_true ht])
  | succ d ih =>
    intro i hi ht
    by_cases h : rd a (i : Int) = rd b (i : Int)
    · have hr := ih (i + 1) (by omega) (by rw [List.take_succ_eq_append_getElem (by omega), List.take_succ_eq_append_getElem (by omega), ht, ← rd_lt a i (by omega), ← rd_lt b i (by omega), h])
      exact Ev.step (fun k => by simp only [spec_l1Same.l0]; rw [if_pos (by omega), if_pos (by omega), if_pos (by omega), if_pos (by omega), if_pos h, w64_succ (n := a.length) (by omega) hn]) hr
    · have hd : decide (a = b) = false := decide_eq_false (fun e => h (by rw [e]))
      exact Ev.step (f := fun _ => some false) (fun k => by simp only [spec_l1Same.l0]; rw [if_pos (by omega), if_pos (by omega), if_pos (by omega), if_pos (by omega), if_neg h]) (Ev.is (by rw [hd]))
theorem sameS_ev (a b : List Int) (hn : a.length ≤ 4611686018427387904) : Ev (fun k => spec_l1Same.f k a b) (decide (a = b)) := by
  unfold spec_l1Same.f
  by_cases hl : a.length = b.length
  · simp only [hl, if_true]
    have := sameS_from a b hl hn a.length 0 (by omega) rfl
    rw [hl] at this
    exact this
  · have h : ¬ (a.length : Int) = (b.length : Int) := by omega
    simp only [h, if_false]
    have hd : decide (a = b) = false := decide_eq_false (fun e => hl (by rw [e]))
    exact Ev.is (by rw [hd])
theorem mkUp_ev {l : List Int} (h : isMk l = true) : Ev (fun k => spec_mkUp.f k l) (upsL 1000000000 l) := by
  obtain ⟨x, y, z, rfl⟩ := mk_three h
  obtain ⟨b1, b2, b3⟩ := up_big h
  obtain ⟨h1, h2, h3, h4, h5, h6⟩ := isMk_iff.1 h
  have m1 := mkMove_is h 1 (by omega)
  have m0 := mkMove_is h 0 (by omega)
  have e1 : mvOf x y z 1 = if 3 * x * z - y > 1000000000 then ([], false) else ([x, z, 3 * x * z - y], true) := by
    unfold mvOf
    rw [mv_one h]
    show (if 3 * z * x - y > 1000000000 then _ else _) = _
    rw [b3]
  have e0 : mvOf x y z 0 = if 3 * y * z - x > 1000000000 then ([], false) else ([y, z, 3 * y * z - x], true) := by
    unfold mvOf
    rw [mv_zero h]
    rfl
  have w1 : wrap64 (1 - 1) = 0 := by decide +kernel
  have w0 : wrap64 (0 - 1) = -1 := by decide +kernel
  have hend : ∀ o : List (List Int), Ev (fun k => spec_mkUp.l0 k [x, y, z] o (-1)) o := fun o => by
    refine Ev.step (f := fun _ => some o) (fun k => by simp only [spec_mkUp.l0]; rw [if_neg (by omega)]) (Ev.is rfl)
  have hg : ∀ n : Int, 2 * z ≤ n → n > z := fun n hn => by omega
  have hl3 : ∀ a b c : Int, (([a, b, c] : List Int).length : Int) = 3 := fun _ _ _ => rfl
  have hr2 : ∀ a b c : Int, rd [a, b, c] 2 = c := fun _ _ _ => rfl
  have hq : (2 : Int) < 3 := by decide
  unfold spec_mkUp.f
  show Ev _ ((if 3 * x * z - y ≤ 1000000000 then [[x, z, 3 * x * z - y]] else []) ++ (if 3 * y * z - x ≤ 1000000000 ∧ x ≠ y then [[y, z, 3 * y * z - x]] else []))
  have hnn : x = y → 3 * x * z - y = 3 * y * z - x := fun e => by rw [e]
  generalize 3 * x * z - y = n1 at *
  generalize 3 * y * z - x = n0 at *
  have step0 : ∀ o : List (List Int), (o = [] ∧ ¬ n0 ≤ 1000000000) ∨ o = [[x, z, n1]] → Ev (fun k => spec_mkUp.l0 k [x, y, z] o 0) (o ++ (if n0 ≤ 1000000000 ∧ x ≠ y then [[y, z, n0]] else [])) := by
    intro o ho
    by_cases c0 : n0 > 1000000000
    · rw [if_neg (by omega)]
      rw [if_pos c0] at e0
      rw [List.append_nil]
      refine Ev.step (fun k => ?_) (hend o)
      simp only [spec_mkUp.l0]
      rw [if_pos (by omega), show spec_mkMove.f [x, y, z] 0 = _ from m0, e0]
      simp only [Option.bind_some, Bool.false_eq_true, if_false, w0]
    · rw [if_neg c0] at e0
      rcases ho with ⟨rfl, h0⟩ | rfl
      · omega
      · have c2 : n0 > z := hg _ (by omega)
        have hsm := sameS_ev [x, z, n1] [y, z, n0] (show 3 ≤ 4611686018427387904 by decide)
        have hrd : rd_L1 [[x, z, n1]] 0 = [x, z, n1] := rfl
        have hne : ¬ ((([[x, z, n1]] : List (List Int)).length : Int) = 0) := by simp
        have hp : 0 < ((([[x, z, n1]] : List (List Int)).length : Int)) := by simp
        have hlim : ([[x, z, n1]] : List (List Int)).length < 5864062014805 := by simp
        have hst : ∀ r, Ev (fun k => (spec_l1Same.f k [x, z, n1] [y, z, n0]).bind fun t => if t = true then spec_mkUp.l0 k [x, y, z] [[x, z, n1]] (-1) else spec_mkUp.l0 k [x, y, z] ([[x, z, n1]] ++ [[y, z, n0]]) (-1)) r → Ev (fun k => spec_mkUp.l0 k [x, y, z] [[x, z, n1]] 0) r := fun r hr => by
          refine Ev.step (fun k => ?_) hr
          simp only [spec_mkUp.l0]
          rw [if_pos (by omega), show spec_mkMove.f [x, y, z] 0 = _ from m0, e0]
          simp only [Option.bind_some, if_true, hl3, hr2, hq, c2, hne, if_false, hrd, hp, hlim, w0]
        refine hst _ (Ev.bind hsm ?_)
        by_cases hxy : x = y
        · have hd : decide ([x, z, n1] = [y, z, n0]) = true := by
            have hn : n1 = n0 := hnn hxy
            rw [hxy, hn]; exact decide_eq_true rfl
          rw [hd, if_neg (by intro hh; exact hh.2 hxy), List.append_nil]
          simp only [if_true]
          exact hend _
        · have hd : decide ([x, z, n1] = [y, z, n0]) = false := decide_eq_false (fun hh => hxy (List.cons.inj hh).1)
          rw [hd, if_pos ⟨by omega, hxy⟩]
          simp only [Bool.false_eq_true, if_false]
          exact hend _
  by_cases c1 : n1 > 1000000000
  · rw [if_pos c1] at e1
    rw [if_neg (show ¬ n1 ≤ 1000000000 by omega), List.nil_append]
    refine Ev.step (fun k => ?_) (step0 [] (.inl ⟨rfl, by omega⟩))
    simp only [spec_mkUp.l0]
    rw [if_pos (by omega), show spec_mkMove.f [x, y, z] 1 = _ from m1, e1]
    simp only [Option.bind_some, Bool.false_eq_true, if_false, w1]
  · rw [if_neg c1] at e1
    rw [if_pos (show n1 ≤ 1000000000 by omega)]
    refine Ev.step (fun k => ?_) (step0 [[x, z, n1]] (.inr rfl))
    have c2 : n1 > z := hg _ b1
    simp only [spec_mkUp.l0]
    rw [if_pos (by omega), show spec_mkMove.f [x, y, z] 1 = _ from m1, e1]
    simp only [Option.bind_some, if_true, hl3, hr2, hq, c2, w1, List.length_nil, List.nil_append]
    rfl

/-- impl.ups at a triple. -/
theorem ups_ev {most : Int} (hm : most ≤ 1000000000) {l : List Int} (h : isMk l = true) : Ev (fun k => impl_ups.f k l most) (upsL most l) := by
  have hs := upsL_sorted most h
  obtain ⟨x, y, z, rfl⟩ := mk_three h
  obtain ⟨b1, b2, b3⟩ := up_big h
  have hb := mv_back h
  obtain ⟨h1, h2, h3, h4, h5, h6⟩ := isMk_iff.1 h
  have m0 := moved_is h 0 (by omega)
  have m1 := moved_is h 1 (by omega)
  have m2 := moved_is h 2 (by omega)
  rw [mv_zero h] at m0
  rw [mv_one h] at m1
  have w0 : wrap64 (0 + 1) = 1 := by decide +kernel
  have w1 : wrap64 (1 + 1) = 2 := by decide +kernel
  have w2 : wrap64 (2 + 1) = 3 := by decide +kernel
  have hl3 : ∀ a b c : Int, (([a, b, c] : List Int).length : Int) = 3 := fun _ _ _ => rfl
  have hl3n : ∀ a b c : Int, ([a, b, c] : List Int).length < 9223372036854775807 := fun _ _ _ => by show 3 < 9223372036854775807; decide
  have hr2 : ∀ a b c : Int, rd [a, b, c] 2 = c := fun _ _ _ => rfl
  have hq : (2 : Int) < 3 := by decide
  -- one step: the move's triple is taken, or not
  have hstep : ∀ (i j : Int) (a b c : Int) (o : List (List Int)) (r : List (List Int)), i < 3 → wrap64 (i + 1) = j → impl_moved.f [x, y, z] i = some [a, b, c] → o.length < 1000000000 → Ev (fun k => impl_ups.l0 k [x, y, z] most (if z < c ∧ c ≤ most then o ++ [[a, b, c]] else o) j) r → Ev (fun k => impl_ups.l0 k [x, y, z] most o i) r := by
    intro i j a b c o r hi hj hm ho hr
    refine Ev.step (fun k => ?_) hr
    simp only [impl_ups.l0]
    rw [if_pos hi, hm]
    simp only [Option.bind_some, hl3, hl3n, hr2, hq, if_true, hj, ho]
    by_cases c1 : z < c
    · by_cases c2 : c ≤ most
      · simp only [c1, c2, and_self, if_true]
      · simp only [c1, c2, and_false, if_true, if_false]
    · simp only [c1, false_and, if_false]
  obtain ⟨a2, b2', c2, e2⟩ := mv_three x y z 2
  rw [e2] at m2 hb
  have hend : ∀ o : List (List Int), sortDedup o = upsL most [x, y, z] → Ev (fun k => impl_ups.l0 k [x, y, z] most o 3) (upsL most [x, y, z]) := fun o ho => by
    refine Ev.step (f := fun _ => some (upsL most [x, y, z])) (fun k => by simp only [impl_ups.l0]; rw [if_neg (by omega), ho]) (Ev.is rfl)
  have hlast : ∀ o : List (List Int), o.length < 1000000000 → (∀ u, u ∈ o ↔ u ∈ upsL most [x, y, z]) → Ev (fun k => impl_ups.l0 k [x, y, z] most o 2) (upsL most [x, y, z]) := by
    intro o ho hu
    refine hstep 2 3 a2 b2' c2 o _ (by decide) w2 m2 ho (hend _ (sortDedup_is hs fun u => ?_).symm)
    rcases hb with ⟨hz, hn⟩ | ⟨rfl, rfl, rfl⟩
    · rw [if_neg (fun hh => hn hh.1)]
      exact (hu u).symm
    · have e3 : mv 1 1 1 2 = [1, 1, 2] := by decide
      rw [e3] at e2
      obtain ⟨rfl, rfl, rfl⟩ : a2 = 1 ∧ b2' = 1 ∧ c2 = 2 := by simpa [eq_comm] using e2
      by_cases hc : (1 : Int) < 2 ∧ (2 : Int) ≤ most
      · rw [if_pos hc]
        have hup : upsL most [1, 1, 1] = [[1, 1, 2]] := by
          show (if 3 * 1 * 1 - 1 ≤ most then [[1, 1, 3 * 1 * 1 - 1]] else []) ++ (if 3 * 1 * 1 - 1 ≤ most ∧ (1 : Int) ≠ 1 then [[1, 1, 3 * 1 * 1 - 1]] else []) = _
          rw [if_pos (by omega), if_neg (by intro hh; exact hh.2 rfl)]
          rfl
        rw [List.mem_append, hu u, hup]
        simp
      · rw [if_neg hc]
        exact (hu u).symm
  unfold impl_ups.f
  refine hstep 0 1 y z (3 * y * z - x) [] _ (by decide) w0 m0 (by simp) ?_
  refine hstep 1 2 x z (3 * x * z - y) _ _ (by decide) w1 m1 (by split <;> simp) ?_
  refine hlast _ (by split <;> split <;> simp) fun u => ?_
  show _ ↔ u ∈ (if 3 * x * z - y ≤ most then [[x, z, 3 * x * z - y]] else []) ++ (if 3 * y * z - x ≤ most ∧ x ≠ y then [[y, z, 3 * y * z - x]] else [])
  have hxy : x = y → 3 * x * z - y = 3 * y * z - x := fun e => by rw [e]
  generalize 3 * x * z - y = n1 at *
  generalize 3 * y * z - x = n0 at *
  by_cases c1 : n1 ≤ most
  · by_cases c0 : n0 ≤ most
    · rw [if_pos (show z < n1 ∧ n1 ≤ most by omega), if_pos (show z < n0 ∧ n0 ≤ most by omega), if_pos c1]
      by_cases e : x = y
      · rw [if_neg (fun hh => hh.2 e)]
        subst e
        rw [hxy rfl]
        simp
      · rw [if_pos ⟨c0, e⟩]
        simp [or_comm]
    · rw [if_pos (show z < n1 ∧ n1 ≤ most by omega), if_neg (fun hh => c0 hh.2), if_pos c1, if_neg (fun hh => c0 hh.1)]
      simp
  · have c0 : ¬ n0 ≤ most := by omega
    rw [if_neg (fun hh => c1 hh.2), if_neg (fun hh => c0 hh.2), if_neg c1, if_neg (fun hh => c0 hh.1)]
    simp
end Go.Proofs.Ythkmbkibceojlaa.P

namespace Go.Proofs.Ythkmbkibceojlaa.Pure
set_option linter.unusedVariables false
set_option linter.unusedSimpArgs false
open Go.RowKit Go.Proofs.Ythkmbkibceojlaa.P Go.Proofs.YthkmbkibceojlaaW.PrintWords Go.Proofs.YthkmbkibceojlaaW.PrintLast
def upAll (l : List Int) : List (List Int) × Bool := if isMk l then (upsL 1000000000 l, true) else ([], false)
theorem spec_MarkovUp_ev (l : List Int) : Ev (fun k => spec_MarkovUp.f k l) (upAll l) := by
  unfold spec_MarkovUp.f upAll
  refine Ev.bind0 (mkGood_is l) ?_
  cases h : isMk l with
  | false =>
    simp only [Bool.false_eq_true, if_false]
    exact Ev.is rfl
  | true =>
    simp only [if_true]
    exact Ev.bind (mkUp_ev h) (Ev.is rfl)
theorem MarkovUp_ev (l : List Int) : Ev (fun k => impl_MarkovUp.f k l) (upAll l) := by
  unfold impl_MarkovUp.f upAll
  refine Ev.bind (IsMarkov_ev l) ?_
  cases h : isMk l with
  | false =>
    simp only [Bool.false_eq_true, if_false]
    exact Ev.is rfl
  | true =>
    simp only [if_true]
    exact Ev.bind (ups_ev (Int.le_refl _) h) (Ev.is rfl)
theorem upsL_bd (most : Int) (l : List Int) : (upsL most l).length ≤ 2 ∧ total (upsL most l) ≤ 6 := by
  match l with
  | [x, y, z] =>
    have h : ∀ (p q : Prop) [Decidable p] [Decidable q] (a b : List Int), a.length = 3 → b.length = 3 → ((if p then [a] else []) ++ (if q then [b] else [])).length ≤ 2 ∧ total ((if p then [a] else []) ++ (if q then [b] else [])) ≤ 6 := by
      intro p q _ _ a b ha hb
      by_cases hp : p <;> by_cases hq : q <;> simp [hp, hq, total, ha, hb]
    exact h _ _ _ _ rfl rfl
  | [] => simp [upsL, total]
  | [_] => simp [upsL, total]
  | [_, _] => simp [upsL, total]
  | _ :: _ :: _ :: _ :: _ => simp [upsL, total]
theorem upAll_bd (l : List Int) : (upAll l).1.length ≤ 1000000000 ∧ total (upAll l).1 ≤ 1000000000 := by
  unfold upAll
  have := upsL_bd 1000000000 l
  split
  · show (upsL 1000000000 l).length ≤ _ ∧ total (upsL 1000000000 l) ≤ _
    omega
  · simp [total]
theorem FnExactMarkovUp : laws_FnExactMarkovUp.Pure := by
  intro l _ hl _
  refine Ev.rounds ?_
  unfold laws_FnExactMarkovUp.f
  by_cases h : (l.length : Int) > 1048576
  · simp only [h, if_true]
    exact Ev.is rfl
  · simp only [h, if_false]
    have e1 := spec_MarkovUp_ev l
    have e2 := MarkovUp_ev l
    have hr := upAll_bd l
    generalize upAll l = r at e1 e2 hr
    refine Ev.bind e1 (Ev.bind e2 ?_)
    simp only [hr, and_self, if_true]
    exact Ev.is rfl
end Go.Proofs.Ythkmbkibceojlaa.Pure
