-- a law's pure text with its lemmas, laid into one (one.py)
import Derived.Test.YtfdjbcbhlfjogaaPFFnExactWayDown
import Derived.Test.YtfdjbcbhlfjogaaUbase
import Derived.Test.YtfdjbcbhlfjogaaPFspecl1All
import Derived.Test.YtfdjbcbhlfjogaaGallWithin
import Derived.Test.YtfdjbcbhlfjogaaPFspechuGood
import Derived.Test.YtfdjbcbhlfjogaaPFspechuGiven
import Derived.Test.YtfdjbcbhlfjogaaPFspechuOther
import Derived.Test.YtfdjbcbhlfjogaaPFimplisHurwitz
import Derived.Test.YtfdjbcbhlfjogaaPFimplareGiven
import Derived.Test.YtfdjbcbhlfjogaaPFimplotherRoot
import Derived.Test.YtfdjbcbhlfjogaaPFimplisSolution
import Derived.Test.YtfdjbcbhlfjogaaPFimplOtherRootAt
import Derived.Test.YtfdjbcbhlfjogaaPFspecOtherRootAt
import Derived.Test.YtfdjbcbhlfjogaaGsortInts
import Derived.Test.YtfdjbcbhlfjogaaPFslicesReverseintint
import Derived.Test.YtfdjbcbhlfjogaaPFspechuSort
import Derived.Test.YtfdjbcbhlfjogaaGcloneInts
import Derived.Test.YtfdjbcbhlfjogaaPFspechuJump
import Derived.Test.YtfdjbcbhlfjogaaPFimpljump
import Derived.Test.YtfdjbcbhlfjogaaPFimplisFundamental
import Derived.Test.YtfdjbcbhlfjogaaPFspechuLast
import Derived.Test.YtfdjbcbhlfjogaaPFimplIsFundamental
import Derived.Test.YtfdjbcbhlfjogaaPFspecIsFundamental
import Derived.Test.YtfdjbcbhlfjogaaGhuDown
namespace Go.Proofs.Ytfdjbcbhlfjogaa.P
set_option linter.unusedVariables false
set_option linter.unusedSimpArgs false
open Go.RowKit Go.Proofs.YtfdjbcbhlfjogaaW.PrintWords Go.Proofs.YtfdjbcbhlfjogaaW.PrintLast

theorem l1In_inB (x lo hi : Int) : spec_l1In.f x lo hi = some (inB lo hi x) := by
  unfold spec_l1In.f inB
  by_cases h : lo ≤ x <;> simp [h]
theorem l1All_upto (l : List Int) (lo hi : Int) (hn : l.length ≤ 4611686018427387904) (d : Nat) : ∀ i : Nat, i + d = l.length → Ev (fun k => spec_l1All.l0 k lo hi l (l.length : Int) (i : Int)) ((l.drop i).all (inB lo hi)) := by
  induction d with
  | zero =>
    intro i hid
    refine Ev.step (f := fun _ => some true) (fun k => by simp only [spec_l1All.l0]; rw [if_neg (by omega)]) ?_
    rw [List.drop_eq_nil_of_le (by omega)]
    exact Ev.is rfl
  | succ d ih =>
    intro i hid
    refine Ev.step (f := fun k => if inB lo hi (rd l (i : Int)) = true then spec_l1All.l0 k lo hi l (l.length : Int) ((i + 1 : Nat) : Int) else some false) (fun k => ?_) ?_
    · simp only [spec_l1All.l0]
      rw [if_pos (by omega), if_pos (by omega), if_pos (by omega), l1In_inB, w64_succ (n := l.length) (by omega) hn]
      rfl
    · rw [rd_drop l i (by omega), List.all_cons]
      cases hB : inB lo hi (rd l (i : Int)) with
      | true =>
        simp only [if_true, Bool.true_and]
        exact ih (i + 1) (by omega)
      | false =>
        simp only [Bool.false_eq_true, if_false, Bool.false_and]
        exact Ev.is rfl
theorem l1All_ev (l : List Int) (lo hi : Int) (hn : l.length ≤ 4611686018427387904) : Ev (fun k => spec_l1All.f k l lo hi) (l.all (inB lo hi)) := by
  unfold spec_l1All.f
  exact l1All_upto l lo hi hn l.length 0 (by omega)
end Go.Proofs.Ytfdjbcbhlfjogaa.P

namespace Go.Proofs.Ytfdjbcbhlfjogaa.P
set_option linter.unusedVariables false
set_option linter.unusedSimpArgs false
open Go.RowKit Go.Proofs.YtfdjbcbhlfjogaaW.PrintWords Go.Proofs.YtfdjbcbhlfjogaaW.PrintLast Go.Proofs.YtfdjbcbhlfjogaaW.PrintMore

def sqs : List Int → Int
  | [] => 0
  | x :: l => x * x + sqs l
def prd : List Int → Int
  | [] => 1
  | x :: l => x * prd l
def fallsFrom (p : Int) : List Int → Bool
  | [] => true
  | x :: l => decide (x ≤ p) && fallsFrom x l
def falls : List Int → Bool
  | [] => true
  | x :: l => fallsFrom x l
/-- Three or four numbers, none rising, that solve Hurwitz's equation. -/
def huIs (l : List Int) (a b : Int) : Bool := decide (3 ≤ l.length ∧ l.length ≤ 4) && (l.all (inB 1 100000) && (falls l && decide (sqs l = a * prd l + b)))
def huGv (a b : Int) : Bool := inB 1 20 a && inB (-50) 50 b
theorem inB_iff {lo hi x : Int} : inB lo hi x = true ↔ lo ≤ x ∧ x ≤ hi := by simp [inB]
theorem all_iff {l : List Int} {lo hi : Int} : l.all (inB lo hi) = true ↔ ∀ x ∈ l, lo ≤ x ∧ x ≤ hi := by simp [List.all_eq_true, inB]

theorem beq_dec (a b : Int) : (a == b) = decide (a = b) := by by_cases h : a = b <;> simp [h]
theorem within_inB (x lo hi : Int) : impl_within.f x lo hi = some (inB lo hi x) := by
  unfold impl_within.f inB
  by_cases h : lo ≤ x <;> simp [h]
theorem huGiven_is (a b : Int) : spec_huGiven.f a b = some (huGv a b) := by
  unfold spec_huGiven.f huGv
  rw [l1In_inB, l1In_inB]
  cases inB 1 20 a <;> rfl
theorem areGiven_is (a b : Int) : impl_areGiven.f a b = some (huGv a b) := by
  unfold impl_areGiven.f huGv
  rw [within_inB, within_inB]
  cases inB 1 20 a <;> rfl

theorem prd_pos {l : List Int} (h : ∀ x ∈ l, 1 ≤ x) : 1 ≤ prd l := by
  induction l with
  | nil => simp [prd]
  | cons x l ih =>
    have h1 := h x (List.mem_cons_self)
    have h2 := ih (fun y hy => h y (List.mem_cons_of_mem _ hy))
    have h3 := Int.mul_le_mul h1 h2 (by omega) (by omega)
    simp only [prd]
    omega
theorem sqs_bd {l : List Int} (h : ∀ x ∈ l, 1 ≤ x ∧ x ≤ 100000) : 0 ≤ sqs l ∧ sqs l ≤ 10000000000 * (l.length : Int) := by
  induction l with
  | nil => simp [sqs]
  | cons x l ih =>
    have h1 := h x (List.mem_cons_self)
    have h2 := ih (fun y hy => h y (List.mem_cons_of_mem _ hy))
    have h3 : x * x ≤ 100000 * 100000 := Int.mul_le_mul h1.2 h1.2 (by omega) (by omega)
    have h4 : 0 ≤ x * x := Int.mul_nonneg (by omega) (by omega)
    simp only [sqs, List.length_cons]
    omega
theorem drop_all {l : List Int} {P : Int → Prop} (h : ∀ x ∈ l, P x) (i : Nat) : ∀ x ∈ l.drop i, P x := fun x hx => h x (List.mem_of_mem_drop hx)
theorem rd_mem {l : List Int} {i : Nat} (h : i < l.length) : rd l (i : Int) ∈ l := by rw [rd_lt l i h]; exact List.getElem_mem h

theorem sq_bd {x : Int} (hx : 1 ≤ x ∧ x ≤ 100000) : 1 ≤ x * x ∧ x * x ≤ 10000000000 := by
  have h3 : x * x ≤ 100000 * 100000 := Int.mul_le_mul hx.2 hx.2 (by omega) (by omega)
  have h4 : 1 * 1 ≤ x * x := Int.mul_le_mul hx.1 hx.1 (by omega) (by omega)
  omega
theorem huSquares_upto (l : List Int) (hl : ∀ x ∈ l, 1 ≤ x ∧ x ≤ 100000) (hn : l.length ≤ 1000000) (d : Nat) : ∀ (i : Nat) (s : Int), i + d = l.length → 0 ≤ s → s + 10000000000 * (d : Int) ≤ 9000000000000000000 → Ev (fun k => spec_huSquares.l0 k s l (l.length : Int) (i : Int)) (s + sqs (l.drop i)) := by
  induction d with
  | zero =>
    intro i s hid h0 h1
    refine Ev.step (f := fun _ => some s) (fun k => by simp only [spec_huSquares.l0]; rw [if_neg (by omega)]) ?_
    rw [List.drop_eq_nil_of_le (by omega), sqs, Int.add_zero]
    exact Ev.is rfl
  | succ d ih =>
    intro i s hid h0 h1
    have hx := sq_bd (hl _ (rd_mem (l := l) (i := i) (by omega)))
    have w1 : wrap64 (rd l (i : Int) * rd l (i : Int)) = rd l (i : Int) * rd l (i : Int) := w64 (by omega) (by omega)
    have w2 : wrap64 (s + rd l (i : Int) * rd l (i : Int)) = s + rd l (i : Int) * rd l (i : Int) := w64 (by omega) (by omega)
    refine Ev.step (f := fun k => spec_huSquares.l0 k (s + rd l (i : Int) * rd l (i : Int)) l (l.length : Int) ((i + 1 : Nat) : Int)) (fun k => ?_) ?_
    · simp only [spec_huSquares.l0]
      rw [if_pos (by omega), if_pos (by omega), if_pos (by omega), w1, w2, w64_succ (n := l.length) (by omega) (by omega)]
    · rw [rd_drop l i (by omega), sqs, ← Int.add_assoc]
      exact ih (i + 1) _ (by omega) (by omega) (by omega)
theorem huSquares_ev (l : List Int) (hl : ∀ x ∈ l, 1 ≤ x ∧ x ≤ 100000) (hn : l.length ≤ 1000000) : Ev (fun k => spec_huSquares.f k l) (sqs l) := by
  unfold spec_huSquares.f
  have h := huSquares_upto l hl hn l.length 0 0 (by omega) (by omega) (by omega)
  rw [List.drop_zero, Int.zero_add] at h
  exact h

theorem cap_mul {y q C : Int} (h0 : 0 ≤ y) (hq : 1 ≤ q) (hC : 0 ≤ C) : min (min y C * q) C = min (y * q) C := by
  by_cases h : y ≤ C
  · rw [Int.min_eq_left h]
  · have h1 : min y C = C := Int.min_eq_right (by omega)
    rw [h1]
    have h2 : C ≤ C * q := by have := Int.mul_le_mul (Int.le_refl C) hq (by omega) hC; omega
    have h3 : y ≤ y * q := by have := Int.mul_le_mul (Int.le_refl y) hq (by omega) h0; omega
    rw [Int.min_eq_right h2, Int.min_eq_right (by omega)]
theorem least_is (a b : Int) : spec_l1Least.f a b = some (min a b) := by
  unfold spec_l1Least.f
  by_cases h : a < b
  · rw [if_pos h, Int.min_eq_left (by omega)]
  · rw [if_neg h, Int.min_eq_right (by omega)]
theorem mul_bd2 {p x P X : Int} (h1 : 0 ≤ p) (h2 : p ≤ P) (h3 : 1 ≤ x) (h4 : x ≤ X) : 0 ≤ p * x ∧ p * x ≤ P * X ∧ p ≤ p * x := by
  have h5 := Int.mul_le_mul (Int.le_refl p) h3 (by omega) h1
  exact ⟨Int.mul_nonneg h1 (by omega), Int.mul_le_mul h2 h4 (by omega) (by omega), by omega⟩
theorem huProduct_upto (l : List Int) (hl : ∀ x ∈ l, 1 ≤ x ∧ x ≤ 100000) (hn : l.length ≤ 1000000) (d : Nat) : ∀ (i : Nat) (p : Int), i + d = l.length → 0 ≤ p → p ≤ 1000000000000 → Ev (fun k => spec_huProduct.l0 k p l (l.length : Int) (i : Int)) (min (p * prd (l.drop i)) 1000000000000) := by
  induction d with
  | zero =>
    intro i p hid h0 h1
    refine Ev.step (f := fun _ => some p) (fun k => by simp only [spec_huProduct.l0]; rw [if_neg (by omega)]) ?_
    rw [List.drop_eq_nil_of_le (by omega), prd, Int.mul_one, Int.min_eq_left h1]
    exact Ev.is rfl
  | succ d ih =>
    intro i p hid h0 h1
    have hx := hl _ (rd_mem (l := l) (i := i) (by omega))
    have hb := mul_bd2 h0 h1 hx.1 hx.2
    have w1 : wrap64 (p * rd l (i : Int)) = p * rd l (i : Int) := w64 (by omega) (by omega)
    refine Ev.step (f := fun k => spec_huProduct.l0 k (min (p * rd l (i : Int)) 1000000000000) l (l.length : Int) ((i + 1 : Nat) : Int)) (fun k => ?_) ?_
    · simp only [spec_huProduct.l0]
      rw [if_pos (by omega), if_pos (by omega), if_pos (by omega), w1, least_is, w64_succ (n := l.length) (by omega) (by omega)]
      rfl
    · have hq := prd_pos (fun x hx => (drop_all hl (i + 1) x hx).1)
      rw [rd_drop l i (by omega), prd, ← Int.mul_assoc, ← cap_mul (by omega) hq (by omega)]
      exact ih (i + 1) _ (by omega) (by omega) (by omega)
theorem huProduct_ev (l : List Int) (a : Int) (ha : 0 ≤ a ∧ a ≤ 1000000000000) (hl : ∀ x ∈ l, 1 ≤ x ∧ x ≤ 100000) (hn : l.length ≤ 1000000) : Ev (fun k => spec_huProduct.f k l a) (min (a * prd l) 1000000000000) := by
  unfold spec_huProduct.f
  have h := huProduct_upto l hl hn l.length 0 a (by omega) ha.1 ha.2
  rw [List.drop_zero] at h
  exact h

theorem huGood_falls (l : List Int) (a b : Int) (r : Bool) (hn : l.length ≤ 1000000) (hend : Ev (fun k => (spec_huSquares.f k l).bind fun t112 => ((spec_huProduct.f k l a).bind fun t113 => (some (t112 == (wrap64 (t113 + b)))))) r) (d : Nat) : ∀ (i : Nat), 1 ≤ i → i + d = l.length → Ev (fun k => spec_huGood.l0 k l a b (i : Int)) (fallsFrom (rd l ((i - 1 : Nat) : Int)) (l.drop i) && r) := by
  induction d with
  | zero =>
    intro i h1 hid
    refine Ev.step (fun k => by simp only [spec_huGood.l0]; rw [if_neg (by omega)]) ?_
    rw [List.drop_eq_nil_of_le (by omega), fallsFrom, Bool.true_and]
    exact hend
  | succ d ih =>
    intro i h1 hid
    have w1 : wrap64 ((i : Int) - 1) = ((i - 1 : Nat) : Int) := by rw [w64 (by omega) (by omega)]; omega
    refine Ev.step (f := fun k => if rd l (i : Int) > rd l ((i - 1 : Nat) : Int) then some false else spec_huGood.l0 k l a b ((i + 1 : Nat) : Int)) (fun k => ?_) ?_
    · simp only [spec_huGood.l0]
      rw [w1, if_pos (by omega), if_pos (by omega), if_pos (by omega), if_pos (by omega), w64_succ (n := l.length) (by omega) (by omega)]
    · rw [rd_drop l i (by omega), fallsFrom]
      by_cases h : rd l (i : Int) > rd l ((i - 1 : Nat) : Int)
      · simp only [h, if_true]
        rw [decide_eq_false (by omega), Bool.false_and, Bool.false_and]
        exact Ev.is rfl
      · simp only [h, if_false]
        rw [decide_eq_true (by omega), Bool.true_and]
        have h2 := ih (i + 1) (by omega) (by omega)
        rw [Nat.add_sub_cancel] at h2
        exact h2
theorem falls_ge (l : List Int) (h : 1 ≤ l.length) : falls l = fallsFrom (rd l ((1 - 1 : Nat) : Int)) (l.drop 1) := by
  cases l with
  | nil => simp at h
  | cons x l => rfl
theorem huGood_ev (l : List Int) (a b : Int) (h : huGv a b = true) (hn : l.length ≤ 4611686018427387904) : Ev (fun k => spec_huGood.f k l a b) (huIs l a b) := by
  unfold spec_huGood.f huIs
  simp only [huGv, inB_iff, Bool.and_eq_true] at h
  rw [l1In_inB]
  refine Ev.bind0 rfl ?_
  by_cases h3 : 3 ≤ l.length ∧ l.length ≤ 4
  · have h4 : inB 3 4 (l.length : Int) = true := by rw [inB_iff]; omega
    rw [h4, decide_eq_true h3, Bool.true_and]
    simp only [if_true]
    refine Ev.bind (l1All_ev l 1 100000 hn) ?_
    cases hA : l.all (inB 1 100000) with
    | false =>
      simp only [Bool.false_and, Bool.not_false]
      exact Ev.step (f := fun _ => some false) (fun k => by simp only [spec_huGood.j0, if_true]) (Ev.is rfl)
    | true =>
      have hl := all_iff.1 hA
      simp only [Bool.true_and, Bool.not_true]
      refine Ev.step (f := fun k => spec_huGood.l0 k l a b ((1 : Nat) : Int)) (fun k => by simp only [spec_huGood.j0, Bool.false_eq_true, if_false]; rfl) ?_
      rw [falls_ge l (by omega)]
      refine huGood_falls l a b _ (by omega) ?_ (l.length - 1) 1 (by omega) (by omega)
      refine Ev.bind (huSquares_ev l hl (by omega)) (Ev.bind (huProduct_ev l a (by omega) hl (by omega)) (Ev.is ?_))
      have hs := sqs_bd hl
      have hp := prd_pos (fun x hx => (hl x hx).1)
      have hap := mul_bd2 (p := a) (x := prd l) (P := 20) (X := prd l) (by omega) (by omega) hp (by omega)
      generalize a * prd l = q at hap
      have w1 : wrap64 (min q 1000000000000 + b) = min q 1000000000000 + b := w64 (by omega) (by omega)
      rw [w1]
      congr 1
      rw [beq_dec]
      exact decide_eq_decide.2 (by omega)
  · have h4 : inB 3 4 (l.length : Int) = false := by rw [Bool.eq_false_iff]; intro h5; rw [inB_iff] at h5; omega
    rw [h4, decide_eq_false h3, Bool.false_and]
    simp only [Bool.false_eq_true, if_false]
    exact Ev.step (f := fun _ => some false) (fun k => by simp only [spec_huGood.j0, if_true]) (Ev.is rfl)

theorem isHurwitz_upto (l : List Int) (hl : ∀ x ∈ l, 1 ≤ x ∧ x ≤ 100000) (hn : l.length ≤ 4) (b : Int) (hb : -50 ≤ b ∧ b ≤ 50) (d : Nat) : ∀ (i : Nat) (s p : Int), i + d = l.length → 0 ≤ s → s + 10000000000 * (d : Int) ≤ 9000000000000000000 → 0 ≤ p → p ≤ 100000000000 → Ev (fun k => impl_isHurwitz.l0 k l b s p l (l.length : Int) (i : Int)) ((if i = 0 then falls (l.drop i) else fallsFrom (rd l ((i - 1 : Nat) : Int)) (l.drop i)) && decide (s + sqs (l.drop i) = min (p * prd (l.drop i)) 100000000000 + b)) := by
  induction d with
  | zero =>
    intro i s p hid h0 h1 h2 h3
    refine Ev.step (f := fun _ => some (s == wrap64 (p + b))) (fun k => by simp only [impl_isHurwitz.l0]; rw [if_neg (by omega)]) ?_
    rw [List.drop_eq_nil_of_le (by omega), sqs, prd, Int.add_zero, Int.mul_one, Int.min_eq_left h3, w64 (by omega) (by omega)]
    refine Ev.is ?_
    rw [beq_dec]
    simp [falls, fallsFrom]
  | succ d ih =>
    intro i s p hid h0 h1 h2 h3
    have hx := hl _ (rd_mem (l := l) (i := i) (by omega))
    have hs := sq_bd hx
    have hp := mul_bd2 h2 h3 hx.1 hx.2
    have w1 : wrap64 (rd l (i : Int) * rd l (i : Int)) = rd l (i : Int) * rd l (i : Int) := w64 (by omega) (by omega)
    have w2 : wrap64 (s + rd l (i : Int) * rd l (i : Int)) = s + rd l (i : Int) * rd l (i : Int) := w64 (by omega) (by omega)
    have w3 : wrap64 (p * rd l (i : Int)) = p * rd l (i : Int) := w64 (by omega) (by omega)
    have hq := prd_pos (fun x hx => (drop_all hl (i + 1) x hx).1)
    have hmn : mn (p * rd l (i : Int)) 100000000000 = min (p * rd l (i : Int)) 100000000000 := by
      unfold mn
      split <;> omega
    have hnext := ih (i + 1) (s + rd l (i : Int) * rd l (i : Int)) (min (p * rd l (i : Int)) 100000000000) (by omega) (by omega) (by omega) (by omega) (by omega)
    rw [if_neg (by omega), Nat.add_sub_cancel, cap_mul (by omega) hq (by omega), Int.add_assoc, Int.mul_assoc] at hnext
    by_cases hi : i = 0
    · subst hi
      refine Ev.step (f := fun k => impl_isHurwitz.l0 k l b (s + rd l ((0 : Nat) : Int) * rd l ((0 : Nat) : Int)) (min (p * rd l ((0 : Nat) : Int)) 100000000000) l (l.length : Int) ((0 + 1 : Nat) : Int)) (fun k => ?_) ?_
      · simp only [impl_isHurwitz.l0]
        rw [if_pos (by omega), if_pos (by omega), if_pos (by omega), if_neg (by omega), w1, w2, w3, hmn, w64_succ (n := l.length) (by omega) (by omega)]
      · rw [if_pos rfl, rd_drop l 0 (by omega), falls, sqs, prd]
        exact hnext
    · have w4 : wrap64 ((i : Int) - 1) = ((i - 1 : Nat) : Int) := by rw [w64 (by omega) (by omega)]; omega
      refine Ev.step (f := fun k => if rd l ((i - 1 : Nat) : Int) < rd l (i : Int) then some false else impl_isHurwitz.l0 k l b (s + rd l (i : Int) * rd l (i : Int)) (min (p * rd l (i : Int)) 100000000000) l (l.length : Int) ((i + 1 : Nat) : Int)) (fun k => ?_) ?_
      · simp only [impl_isHurwitz.l0]
        rw [if_pos (by omega), if_pos (by omega), if_pos (by omega), if_pos (by omega), w4, if_pos (by omega), if_pos (by omega), w1, w2, w3, hmn, w64_succ (n := l.length) (by omega) (by omega)]
      · rw [if_neg hi, rd_drop l i (by omega), fallsFrom, sqs, prd]
        by_cases h : rd l ((i - 1 : Nat) : Int) < rd l (i : Int)
        · simp only [h, if_true]
          rw [decide_eq_false (by omega), Bool.false_and, Bool.false_and]
          exact Ev.is rfl
        · simp only [h, if_false]
          rw [decide_eq_true (by omega), Bool.true_and]
          exact hnext
theorem isHurwitz_ev (l : List Int) (a b : Int) (h : huGv a b = true) : Ev (fun k => impl_isHurwitz.f k l a b) (huIs l a b) := by
  unfold impl_isHurwitz.f huIs
  simp only [huGv, inB_iff, Bool.and_eq_true] at h
  rw [within_inB]
  refine Ev.bind0 rfl ?_
  by_cases h3 : 3 ≤ l.length ∧ l.length ≤ 4
  · have h4 : inB 3 4 (l.length : Int) = true := by rw [inB_iff]; omega
    rw [h4, decide_eq_true h3, Bool.true_and]
    simp only [if_true]
    refine Ev.bind0 rfl ?_
    cases hA : l.all (inB 1 100000) with
    | false =>
      simp only [Bool.false_and, Bool.not_false]
      exact Ev.step (f := fun _ => some false) (fun k => by simp only [impl_isHurwitz.j0, if_true]) (Ev.is rfl)
    | true =>
      have hl := all_iff.1 hA
      simp only [Bool.true_and, Bool.not_true]
      refine Ev.step (f := fun k => impl_isHurwitz.l0 k l b 0 a l (l.length : Int) ((0 : Nat) : Int)) (fun k => by simp only [impl_isHurwitz.j0, Bool.false_eq_true, if_false]; rfl) ?_
      have hE := isHurwitz_upto l hl (by omega) b h.2 l.length 0 0 a (by omega) (by omega) (by omega) (by omega) (by omega)
      rw [if_pos rfl, List.drop_zero, Int.zero_add] at hE
      have hs := sqs_bd hl
      have hp := prd_pos (fun x hx => (hl x hx).1)
      have hap := mul_bd2 (p := a) (x := prd l) (P := 20) (X := prd l) (by omega) (by omega) hp (by omega)
      have he : decide (sqs l = a * prd l + b) = decide (sqs l = min (a * prd l) 100000000000 + b) := by
        generalize a * prd l = q at hap
        exact decide_eq_decide.2 (by omega)
      rw [he]
      exact hE
  · have h4 : inB 3 4 (l.length : Int) = false := by rw [Bool.eq_false_iff]; intro h5; rw [inB_iff] at h5; omega
    rw [h4, decide_eq_false h3, Bool.false_and]
    simp only [Bool.false_eq_true, if_false]
    exact Ev.step (f := fun _ => some false) (fun k => by simp only [impl_isHurwitz.j0, if_true]) (Ev.is rfl)

/-- What a solution's numbers are. -/
theorem huIs_iff {l : List Int} {a b : Int} : huIs l a b = true ↔ (3 ≤ l.length ∧ l.length ≤ 4) ∧ (∀ x ∈ l, 1 ≤ x ∧ x ≤ 100000) ∧ falls l = true ∧ sqs l = a * prd l + b := by
  simp only [huIs, Bool.and_eq_true, decide_eq_true_eq, all_iff]

/-- The other root. -/
def oth (l : List Int) (a : Int) (i : Nat) : Int := a * prd (l.eraseIdx i) - rd l (i : Int)
def prdBut (i : Nat) : Nat → List Int → Int
  | _, [] => 1
  | j, x :: l => (if j = i then 1 else x) * prdBut i (j + 1) l
theorem prdBut_past (i : Nat) (l : List Int) : ∀ j, i < j → prdBut i j l = prd l := by
  induction l with
  | nil => intro j h; rfl
  | cons x l ih =>
    intro j h
    rw [prdBut, prd, if_neg (by omega), ih (j + 1) (by omega)]
theorem prdBut_erase (l : List Int) : ∀ (j i : Nat), prdBut (j + i) j l = prd (l.eraseIdx i) := by
  induction l with
  | nil => intro j i; rfl
  | cons x l ih =>
    intro j i
    cases i with
    | zero => rw [prdBut, if_pos (by omega), Int.one_mul, List.eraseIdx_cons_zero, prdBut_past _ _ _ (by omega)]
    | succ i => rw [prdBut, if_neg (by omega), List.eraseIdx_cons_succ, prd, show j + (i + 1) = (j + 1) + i by omega, ih (j + 1) i]
theorem prdBut_pos (i : Nat) (l : List Int) (h : ∀ x ∈ l, 1 ≤ x) : ∀ j, 1 ≤ prdBut i j l := by
  induction l with
  | nil => intro j; simp [prdBut]
  | cons x l ih =>
    intro j
    have h1 := h x List.mem_cons_self
    have h2 := ih (fun y hy => h y (List.mem_cons_of_mem _ hy)) (j + 1)
    rw [prdBut]
    split
    · omega
    · have := Int.mul_le_mul h1 h2 (by omega) (by omega)
      omega
theorem otherRoot_upto (l : List Int) (hl : ∀ x ∈ l, 1 ≤ x ∧ x ≤ 100000) (hn : l.length ≤ 1000000) (t : Nat) (ht : t < l.length) (d : Nat) : ∀ (i : Nat) (p : Int), i + d = l.length → 1 ≤ p → p * prdBut t i (l.drop i) ≤ 1000000000000 → Ev (fun k => impl_otherRoot.l0 k l (t : Int) p l (l.length : Int) (i : Int)) (p * prdBut t i (l.drop i) - rd l (t : Int)) := by
  have hr := hl _ (rd_mem ht)
  induction d with
  | zero =>
    intro i p hid h0 h1
    rw [List.drop_eq_nil_of_le (by omega), prdBut, Int.mul_one] at h1 ⊢
    refine Ev.step (f := fun _ => some (p - rd l (t : Int))) (fun k => by simp only [impl_otherRoot.l0]; rw [if_neg (by omega), if_pos (by omega), if_pos (by omega), w64 (by omega) (by omega)]) (Ev.is rfl)
  | succ d ih =>
    intro i p hid h0 h1
    have hx := hl _ (rd_mem (l := l) (i := i) (by omega))
    rw [rd_drop l i (by omega), prdBut] at h1 ⊢
    have hq := prdBut_pos t (l.drop (i + 1)) (fun x hx => (drop_all hl (i + 1) x hx).1) (i + 1)
    by_cases h : i = t
    · subst h
      rw [if_pos rfl, Int.one_mul] at h1 ⊢
      refine Ev.step (f := fun k => impl_otherRoot.l0 k l (i : Int) p l (l.length : Int) ((i + 1 : Nat) : Int)) (fun k => ?_) (ih (i + 1) p (by omega) h0 h1)
      simp only [impl_otherRoot.l0]
      rw [if_pos (by omega), if_pos (by omega), if_pos (by omega), if_pos trivial, w64_succ (n := l.length) (by omega) (by omega)]
    · rw [if_neg h, ← Int.mul_assoc] at h1 ⊢
      have hb := mul_bd2 (p := p) (P := p) (by omega) (by omega) hx.1 hx.2
      have hb2 := mul_bd2 (p := p * rd l (i : Int)) (P := p * rd l (i : Int)) (by omega) (by omega) hq (Int.le_refl _)
      refine Ev.step (f := fun k => impl_otherRoot.l0 k l (t : Int) (p * rd l (i : Int)) l (l.length : Int) ((i + 1 : Nat) : Int)) (fun k => ?_) (ih (i + 1) _ (by omega) (by omega) h1)
      simp only [impl_otherRoot.l0]
      rw [if_pos (by omega), if_pos (by omega), if_pos (by omega), if_neg (by omega), w64 (x := p * rd l (i : Int)) (by omega) (by omega), w64_succ (n := l.length) (by omega) (by omega)]
theorem otherRoot_ev (l : List Int) (a : Int) (i : Nat) (hl : ∀ x ∈ l, 1 ≤ x ∧ x ≤ 100000) (hn : l.length ≤ 1000000) (hi : i < l.length) (ha : 1 ≤ a) (hp : a * prd (l.eraseIdx i) ≤ 1000000000000) : Ev (fun k => impl_otherRoot.f k l a (i : Int)) (oth l a i) := by
  unfold impl_otherRoot.f oth
  have he := prdBut_erase l 0 i
  rw [Nat.zero_add] at he
  have h := otherRoot_upto l hl hn i hi l.length 0 a (by omega) ha (by rw [List.drop_zero, he]; exact hp)
  rw [List.drop_zero, he] at h
  exact h
theorem own_is (l : List Int) (h : l.length < 17592186044416) : spec_l1Own.f l = some l := by
  unfold spec_l1Own.f
  simp [h]
theorem huOther_ev (l : List Int) (a : Int) (i : Nat) (hl : ∀ x ∈ l, 1 ≤ x ∧ x ≤ 100000) (hn : l.length ≤ 1000000) (hi : i < l.length) (ha : 1 ≤ a ∧ a ≤ 1000000000000) (hp : a * prd (l.eraseIdx i) ≤ 1000000000000) : Ev (fun k => spec_huOther.f k l a (i : Int)) (oth l a i) := by
  unfold spec_huOther.f oth
  have w1 : wrap64 ((i : Int) + 1) = ((i + 1 : Nat) : Int) := w64_succ (n := l.length) hi (by omega)
  simp only [w1, Int.toNat_natCast]
  have hr := hl _ (rd_mem hi)
  have c1 : (0 : Int) ≤ (i : Int) := by omega
  have c2 : (i : Int) ≤ (l.length : Int) := by omega
  have c3 : (0 : Int) ≤ ((i + 1 : Nat) : Int) := by omega
  have c4 : ((i + 1 : Nat) : Int) ≤ (l.length : Int) := by omega
  have c5 : (i : Int) < (l.length : Int) := by omega
  simp only [c1, c2, c3, c4, c5, if_true]
  refine Ev.bind0 (own_is _ (by rw [List.length_take]; omega)) ?_
  have hlen : (l.take i).length + (l.drop (i + 1)).length < 17592186044416 := by rw [List.length_take, List.length_drop]; omega
  simp only [hlen, if_true]
  have he : l.take i ++ l.drop (i + 1) = l.eraseIdx i := (List.eraseIdx_eq_take_drop_succ ..).symm
  rw [he]
  have hle : ∀ x ∈ l.eraseIdx i, 1 ≤ x ∧ x ≤ 100000 := fun x hx => hl x (List.mem_of_mem_eraseIdx hx)
  have hq := prd_pos (fun x hx => (hle x hx).1)
  have hb := mul_bd2 (p := a) (P := a) (by omega) (by omega) hq (Int.le_refl _)
  refine Ev.bind (huProduct_ev (l.eraseIdx i) a (by omega) hle (by have := List.length_eraseIdx_le l i; omega)) (Ev.is ?_)
  rw [Int.min_eq_left hp, w64 (by omega) (by omega)]
/-- The product is one number times the others'. -/
theorem prd_erase (l : List Int) (i : Nat) (hi : i < l.length) : prd l = rd l (i : Int) * prd (l.eraseIdx i) := by
  induction l generalizing i with
  | nil => simp at hi
  | cons x l ih =>
    cases i with
    | zero => simp [prd, rd]
    | succ i =>
      have h1 : i < l.length := by simpa using hi
      rw [List.eraseIdx_cons_succ, prd, prd, ih i h1, rd_lt _ _ hi, rd_lt _ _ h1, List.getElem_cons_succ]
      grind
theorem sqs_mem (l : List Int) (i : Nat) (hi : i < l.length) : sqs l = rd l (i : Int) * rd l (i : Int) + sqs (l.eraseIdx i) := by
  induction l generalizing i with
  | nil => simp at hi
  | cons x l ih =>
    cases i with
    | zero => simp [sqs, rd]
    | succ i =>
      have h1 : i < l.length := by simpa using hi
      rw [List.eraseIdx_cons_succ, sqs, sqs, ih i h1, rd_lt _ _ hi, rd_lt _ _ h1, List.getElem_cons_succ]
      omega
/-- In a solution the others' product is not too great. -/
theorem huIs_bd {l : List Int} {a b : Int} (hg : huGv a b = true) (h : huIs l a b = true) (i : Nat) (hi : i < l.length) : 1 ≤ a ∧ a ≤ 20 ∧ 1 ≤ a * prd (l.eraseIdx i) ∧ a * prd (l.eraseIdx i) ≤ 40000000050 := by
  obtain ⟨h1, h2, h3, h4⟩ := huIs_iff.1 h
  simp only [huGv, inB_iff, Bool.and_eq_true] at hg
  have hs := sqs_bd h2
  have hr := h2 _ (rd_mem hi)
  have hq := prd_pos (l := l.eraseIdx i) (fun x hx => (h2 x (List.mem_of_mem_eraseIdx hx)).1)
  rw [prd_erase l i hi] at h4
  have hb := mul_bd2 (p := a) (P := a) (by omega) (by omega) hq (Int.le_refl _)
  have hb2 := mul_bd2 (p := a * prd (l.eraseIdx i)) (P := a * prd (l.eraseIdx i)) (by omega) (by omega) hr.1 hr.2
  have he : a * (rd l (i : Int) * prd (l.eraseIdx i)) = a * prd (l.eraseIdx i) * rd l (i : Int) := by grind
  rw [he] at h4
  omega
theorem other_both {l : List Int} {a b : Int} (hg : huGv a b = true) (h : huIs l a b = true) (i : Nat) (hi : i < l.length) : Ev (fun k => impl_otherRoot.f k l a (i : Int)) (oth l a i) ∧ Ev (fun k => spec_huOther.f k l a (i : Int)) (oth l a i) := by
  have hb := huIs_bd hg h i hi
  obtain ⟨h1, h2, h3, h4⟩ := huIs_iff.1 h
  exact ⟨otherRoot_ev l a i h2 (by omega) hi (by omega) (by omega), huOther_ev l a i h2 (by omega) hi (by omega) (by omega)⟩
end Go.Proofs.Ytfdjbcbhlfjogaa.P

namespace Go.Proofs.Ytfdjbcbhlfjogaa.P
set_option linter.unusedVariables false
set_option linter.unusedSimpArgs false
open Go.RowKit Go.Proofs.YtfdjbcbhlfjogaaW.PrintWords Go.Proofs.YtfdjbcbhlfjogaaW.PrintLast Go.Proofs.YtfdjbcbhlfjogaaW.PrintMore

def huSol (l : List Int) (a b : Int) : Bool := huGv a b && huIs l a b
theorem isSolution_ev (l : List Int) (a b : Int) : Ev (fun k => impl_isSolution.f k l a b) (huSol l a b) := by
  unfold impl_isSolution.f huSol
  refine Ev.bind0 (areGiven_is a b) ?_
  cases hg : huGv a b with
  | false =>
    simp only [Bool.false_eq_true, if_false, Bool.false_and]
    exact Ev.is rfl
  | true =>
    simp only [if_true, Bool.true_and]
    exact Ev.bind (isHurwitz_ev l a b hg) (Ev.is rfl)
theorem huSol_iff {l : List Int} {a b : Int} : huSol l a b = true ↔ huGv a b = true ∧ huIs l a b = true := by simp [huSol]
/-- What stands behind both texts' tests: the index is one of the list's. -/
theorem index_of {l : List Int} {i : Int} (hl : 1 ≤ l.length) (hn : l.length ≤ 4) : inB 0 (wrap64 ((l.length : Int) - 1)) i = decide (0 ≤ i ∧ i < l.length) := by
  rw [w64 (by omega) (by omega)]
  unfold inB
  simp only [Bool.decide_and]
  congr 1
  exact decide_eq_decide.2 (by omega)
/-- If it's a solution and an index, go on; otherwise say no: the reference's tests. -/
theorem spec_tests {α : Type} (l : List Int) (a b i : Int) (hn : l.length ≤ 4611686018427387904) (no r : α) (f : Nat → Option α) (h : huSol l a b = true → 0 ≤ i → i < l.length → Ev f r) (hno : (huSol l a b && decide (0 ≤ i ∧ i < l.length)) = false → r = no) :
    Ev (fun k => (spec_huGiven.f a b).bind fun t => if t = true then ((spec_huGood.f k l a b).bind fun t => if t = true then ((spec_l1In.f i 0 (wrap64 ((l.length : Int) - 1))).bind fun t => if t = true then f k else some no) else some no) else some no) r := by
  refine Ev.bind0 (huGiven_is a b) ?_
  cases hg : huGv a b with
  | false =>
    simp only [Bool.false_eq_true, if_false]
    exact Ev.is (by rw [hno (by simp [huSol, hg])])
  | true =>
    simp only [if_true]
    refine Ev.bind (huGood_ev l a b hg hn) ?_
    cases hs : huIs l a b with
    | false =>
      simp only [Bool.false_eq_true, if_false]
      exact Ev.is (by rw [hno (by simp [huSol, hs])])
    | true =>
      simp only [if_true]
      have h1 := (huIs_iff.1 hs).1
      rw [l1In_inB, index_of (by omega) h1.2]
      refine Ev.bind0 rfl ?_
      by_cases hi : 0 ≤ i ∧ i < l.length
      · rw [decide_eq_true hi]
        simp only [if_true]
        exact h (by simp [huSol, hg, hs]) hi.1 hi.2
      · rw [decide_eq_false hi]
        simp only [Bool.false_eq_true, if_false]
        exact Ev.is (by rw [hno (by rw [decide_eq_false hi, Bool.and_false])])
/-- The same: the program's tests. -/
theorem impl_tests {α : Type} (l : List Int) (a b i : Int) (no r : α) (f : Nat → Option α) (h : huSol l a b = true → 0 ≤ i → i < l.length → Ev f r) (hno : (huSol l a b && decide (0 ≤ i ∧ i < l.length)) = false → r = no) :
    Ev (fun k => (impl_isSolution.f k l a b).bind fun t => if t = true then ((impl_within.f i 0 (wrap64 ((l.length : Int) - 1))).bind fun t => if t = true then f k else some no) else some no) r := by
  refine Ev.bind (isSolution_ev l a b) ?_
  cases hs : huSol l a b with
  | false =>
    simp only [Bool.false_eq_true, if_false]
    exact Ev.is (by rw [hno (by simp [hs])])
  | true =>
    simp only [if_true]
    have h1 := (huIs_iff.1 (huSol_iff.1 hs).2).1
    rw [within_inB, index_of (by omega) h1.2]
    refine Ev.bind0 rfl ?_
    by_cases hi : 0 ≤ i ∧ i < l.length
    · rw [decide_eq_true hi]
      simp only [if_true]
      exact h hs hi.1 hi.2
    · rw [decide_eq_false hi]
      simp only [Bool.false_eq_true, if_false]
      exact Ev.is (by rw [hno (by rw [decide_eq_false hi, Bool.and_false])])

def othAt (l : List Int) (a b i : Int) : Int × Bool := if huSol l a b && decide (0 ≤ i ∧ i < l.length) then (oth l a i.toNat, true) else (0, false)
theorem spec_OtherRootAt_ev (l : List Int) (a b i : Int) (hn : l.length ≤ 4611686018427387904) : Ev (fun k => spec_OtherRootAt.f k l a b i) (othAt l a b i) := by
  unfold spec_OtherRootAt.f othAt
  refine spec_tests l a b i hn (0, false) _ _ (fun hs h0 h1 => ?_) (fun h => by rw [h]; rfl)
  rw [hs, decide_eq_true ⟨h0, h1⟩]
  have hE := (other_both (huSol_iff.1 hs).1 (huSol_iff.1 hs).2 i.toNat (by omega)).2
  rw [Int.toNat_of_nonneg h0] at hE
  exact Ev.bind hE (Ev.is rfl)
theorem impl_OtherRootAt_ev (l : List Int) (a b i : Int) : Ev (fun k => impl_OtherRootAt.f k l a b i) (othAt l a b i) := by
  unfold impl_OtherRootAt.f othAt
  refine impl_tests l a b i (0, false) _ _ (fun hs h0 h1 => ?_) (fun h => by rw [h]; rfl)
  rw [hs, decide_eq_true ⟨h0, h1⟩]
  have hE := (other_both (huSol_iff.1 hs).1 (huSol_iff.1 hs).2 i.toNat (by omega)).1
  rw [Int.toNat_of_nonneg h0] at hE
  exact Ev.bind hE (Ev.is rfl)
end Go.Proofs.Ytfdjbcbhlfjogaa.P

namespace Go.Proofs.Ytfdjbcbhlfjogaa.P
set_option linter.unusedVariables false
set_option linter.unusedSimpArgs false
open Go.RowKit Go.Proofs.YtfdjbcbhlfjogaaW.PrintWords Go.Proofs.YtfdjbcbhlfjogaaW.PrintLast

def up (l : List Int) : List Int := l.mergeSort fun x y => decide (x ≤ y)
theorem up_perm (l : List Int) : (up l).Perm l := List.mergeSort_perm _ _
theorem up_pairwise (l : List Int) : (up l).Pairwise (· ≤ ·) := by
  have h := List.pairwise_mergeSort (le := fun x y : Int => decide (x ≤ y)) (by intro a b c h1 h2; simp at *; omega) (by intro a b; simp; omega) l
  exact h.imp (by intro a b h; simpa using h)
theorem up_unique {l m : List Int} (hp : m.Perm l) (hs : m.Pairwise (· ≤ ·)) : m = up l :=
  List.Perm.eq_of_pairwise (le := (· ≤ ·)) (fun a b _ _ h1 h2 => by omega) hs (up_pairwise l) (hp.trans (up_perm l).symm)
theorem up_length (l : List Int) : (up l).length = l.length := (up_perm l).length_eq
theorem sort_is (l : List Int) (h : l.length < 4611686018427387904) : slices_Sort_int_int.f l = some (up l) := by
  unfold slices_Sort_int_int.f
  rw [if_pos h]
  rfl
end Go.Proofs.Ytfdjbcbhlfjogaa.P

namespace Go.Proofs.Ytfdjbcbhlfjogaa.P
set_option linter.unusedVariables false
set_option linter.unusedSimpArgs false
open Go.RowKit Go.Proofs.YtfdjbcbhlfjogaaW.PrintWords Go.Proofs.YtfdjbcbhlfjogaaW.PrintLast

def down (l : List Int) : List Int := (up l).reverse
theorem down_perm (l : List Int) : (down l).Perm l := (List.reverse_perm _).trans (up_perm l)
theorem down_pairwise (l : List Int) : (down l).Pairwise (· ≥ ·) := by
  unfold down
  rw [List.pairwise_reverse]
  exact up_pairwise l
theorem down_unique {l m : List Int} (hp : m.Perm l) (hs : m.Pairwise (· ≥ ·)) : m = down l :=
  List.Perm.eq_of_pairwise (le := (· ≥ ·)) (fun a b _ _ h1 h2 => by omega) hs (down_pairwise l) (hp.trans (down_perm l).symm)
theorem down_length (l : List Int) : (down l).length = l.length := (down_perm l).length_eq

/-- The first i and the last i have changed places. -/
def turned (xs : List Int) (i : Nat) : List Int := (List.range xs.length).map fun p => if p < i ∨ xs.length - i ≤ p then xs.getD (xs.length - 1 - p) 0 else xs.getD p 0
theorem turned_length (xs : List Int) (i : Nat) : (turned xs i).length = xs.length := by simp [turned]
theorem turned_zero (xs : List Int) : turned xs 0 = xs := by
  apply List.ext_getElem
  · simp [turned]
  · intro p h1 h2
    simp [turned, List.getD_eq_getElem?_getD, h2]
    omega
theorem turned_end (xs : List Int) (i : Nat) (h : xs.length ≤ 2 * i + 1) : turned xs i = xs.reverse := by
  apply List.ext_getElem
  · simp [turned]
  · intro p h1 h2
    have h3 : p < xs.length := by simpa using h2
    rw [List.getElem_reverse]
    simp only [turned, List.getElem_map, List.getElem_range]
    by_cases c : p < i ∨ xs.length - i ≤ p
    · rw [if_pos c]
      simp [List.getD_eq_getElem?_getD, show xs.length - 1 - p < xs.length by omega]
    · rw [if_neg c]
      have e : p = xs.length - 1 - p := by omega
      simp only [List.getD_eq_getElem?_getD]
      rw [List.getElem?_eq_getElem h3, Option.getD_some]
      congr 1
theorem turned_succ (xs : List Int) (i : Nat) (h : 2 * i + 1 < xs.length) : turned xs (i + 1) = ((turned xs i).set i ((turned xs i).getD (xs.length - 1 - i) 0)).set (xs.length - 1 - i) ((turned xs i).getD i 0) := by
  have g : ∀ p, p < xs.length → (turned xs i).getD p 0 = if p < i ∨ xs.length - i ≤ p then xs.getD (xs.length - 1 - p) 0 else xs.getD p 0 := by
    intro p hp
    simp [turned, List.getD_eq_getElem?_getD, hp]
  rw [g i (by omega), g (xs.length - 1 - i) (by omega), if_neg (by omega), if_neg (by omega)]
  apply List.ext_getElem
  · simp [turned]
  · intro p h1 h2
    have h3 : p < xs.length := by simpa [turned] using h1
    rw [List.getElem_set, List.getElem_set]
    simp only [turned, List.getElem_map, List.getElem_range]
    by_cases e1 : xs.length - 1 - i = p
    · rw [if_pos e1, if_pos (by omega)]
      congr 1
      omega
    · rw [if_neg e1]
      by_cases e2 : i = p
      · rw [if_pos e2, if_pos (by omega)]
        congr 1
        omega
      · rw [if_neg e2]
        by_cases c : p < i ∨ xs.length - i ≤ p
        · rw [if_pos (by omega), if_pos c]
        · rw [if_neg (by omega), if_neg c]
theorem reverse_upto (xs : List Int) (hn : xs.length ≤ 4611686018427387904) (d : Nat) : ∀ i : Nat, xs.length ≤ 2 * i + 2 * d → Ev (fun k => slices_Reverse_int_int.l0 k (turned xs i) (i : Int) ((xs.length : Int) - 1 - i)) xs.reverse := by
  induction d with
  | zero =>
    intro i hid
    refine Ev.step (f := fun _ => some (turned xs i)) (fun k => by simp only [slices_Reverse_int_int.l0]; rw [if_neg (by omega)]) ?_
    exact Ev.is (by rw [turned_end xs i (by omega)])
  | succ d ih =>
    intro i hid
    by_cases h : 2 * i + 1 < xs.length
    · have hl := turned_length xs i
      have e1 : wrap64 ((i : Int) + 1) = ((i + 1 : Nat) : Int) := w64_succ (n := xs.length) (by omega) hn
      have e2 : wrap64 ((xs.length : Int) - 1 - i - 1) = (xs.length : Int) - 1 - ((i + 1 : Nat) : Int) := by rw [w64 (by omega) (by omega)]; omega
      have e3 : ((xs.length : Int) - 1 - i).toNat = xs.length - 1 - i := by omega
      refine Ev.step (f := fun k => slices_Reverse_int_int.l0 k (turned xs (i + 1)) ((i + 1 : Nat) : Int) ((xs.length : Int) - 1 - ((i + 1 : Nat) : Int))) (fun k => ?_) (ih (i + 1) (by omega))
      simp only [slices_Reverse_int_int.l0]
      rw [if_pos (by omega), if_pos (by omega), if_pos (by omega), if_pos (by omega), if_pos (by omega), e1, e2, turned_succ xs i h]
      simp only [rd, e3, Int.toNat_natCast]
    · refine Ev.step (f := fun _ => some (turned xs i)) (fun k => by simp only [slices_Reverse_int_int.l0]; rw [if_neg (by omega)]) ?_
      exact Ev.is (by rw [turned_end xs i (by omega)])
theorem reverse_ev (xs : List Int) (hn : xs.length ≤ 4611686018427387904) : Ev (fun k => slices_Reverse_int_int.f k xs) xs.reverse := by
  unfold slices_Reverse_int_int.f
  rw [w64 (by omega) (by omega)]
  have h := reverse_upto xs hn xs.length 0 (by omega)
  rw [turned_zero] at h
  have e : (xs.length : Int) - 1 - ((0 : Nat) : Int) = (xs.length : Int) - 1 := by omega
  rw [e] at h
  exact h
end Go.Proofs.Ytfdjbcbhlfjogaa.P

namespace Go.Proofs.Ytfdjbcbhlfjogaa.P
set_option linter.unusedVariables false
set_option linter.unusedSimpArgs false
open Go.RowKit Go.Proofs.YtfdjbcbhlfjogaaW.PrintWords Go.Proofs.YtfdjbcbhlfjogaaW.PrintLast

def ins (x : Int) : List Int → List Int
  | [] => [x]
  | y :: l => if y ≥ x then y :: ins x l else x :: y :: l
theorem ins_length (x : Int) (l : List Int) : (ins x l).length = l.length + 1 := by
  induction l with
  | nil => rfl
  | cons y l ih =>
    rw [ins]
    split
    · simp [ih]
    · simp
theorem ins_perm (x : Int) (l : List Int) : (ins x l).Perm (x :: l) := by
  induction l with
  | nil => exact List.Perm.refl _
  | cons y l ih =>
    rw [ins]
    split
    · exact (List.Perm.cons y ih).trans (List.Perm.swap x y l)
    · exact List.Perm.refl _
theorem ins_pairwise (x : Int) (l : List Int) (h : l.Pairwise (· ≥ ·)) : (ins x l).Pairwise (· ≥ ·) := by
  induction l with
  | nil => simp [ins]
  | cons y l ih =>
    rw [List.pairwise_cons] at h
    rw [ins]
    split
    · rename_i hxy
      rw [List.pairwise_cons]
      refine ⟨fun z hz => ?_, ih h.2⟩
      rcases List.mem_cons.1 ((ins_perm x l).mem_iff.1 hz) with rfl | hz
      · exact hxy
      · exact h.1 z hz
    · rename_i hxy
      rw [List.pairwise_cons]
      refine ⟨fun z hz => ?_, List.pairwise_cons.2 h⟩
      rcases List.mem_cons.1 hz with rfl | hz
      · omega
      · have := h.1 z hz
        omega
theorem l1Own_is (l : List Int) (h : l.length < 17592186044416) : spec_l1Own.f l = some l := by
  unfold spec_l1Own.f
  simp [h]
theorem huSort_in (o : List Int) (x : Int) (l : List Int) (i : Nat) (hn : o.length ≤ 1000000) (hi : i < l.length) (hl : l.length ≤ 1000000) (r : List Int) (d : Nat) : ∀ j : Nat, j + d = o.length → Ev (fun k => spec_huSort.l0 k (o.take j ++ ins x (o.drop j)) l (l.length : Int) ((i + 1 : Nat) : Int)) r → Ev (fun k => spec_huSort.l1 k o x (j : Int) l (l.length : Int) (i : Int)) r := by
  have hput : ∀ j : Nat, j ≤ o.length → ∀ k, (if (0 : Int) ≤ (j : Int) then (if (j : Int) ≤ (o.length : Int) then ((spec_l1Own.f (o.take ((j : Int)).toNat)).bind fun t301 => (if t301.length < 17592186044416 then ((some (t301 ++ [x] : List Int)).bind fun y304 => ((some (o.drop ((j : Int)).toNat : List Int)).bind fun y307 => (if y304.length + y307.length < 17592186044416 then (spec_huSort.l0 k (y304 ++ y307) l (l.length : Int) (wrap64 ((i : Int) + 1))) else (none)))) else (none))) else (none)) else (none)) = spec_huSort.l0 k (o.take j ++ x :: o.drop j) l (l.length : Int) ((i + 1 : Nat) : Int) := by
    intro j hj k
    rw [if_pos (by omega), if_pos (by omega), Int.toNat_natCast, l1Own_is _ (by rw [List.length_take]; omega), w64_succ (n := l.length) hi (by omega)]
    simp only [Option.bind_some]
    rw [if_pos (by rw [List.length_take]; omega), if_pos (by rw [List.length_append, List.length_take, List.length_drop]; simp; omega), List.append_assoc, List.singleton_append]
  induction d with
  | zero =>
    intro j hid hE
    rw [List.drop_eq_nil_of_le (by omega), ins] at hE
    refine Ev.step (f := fun k => spec_huSort.l0 k (o.take j ++ [x]) l (l.length : Int) ((i + 1 : Nat) : Int)) (fun k => ?_) hE
    simp only [spec_huSort.l1]
    rw [if_neg (by omega), hput j (by omega) k, List.drop_eq_nil_of_le (by omega)]
  | succ d ih =>
    intro j hid hE
    have hdrop := rd_drop o j (by omega)
    rw [hdrop, ins] at hE
    by_cases h : rd o (j : Int) ≥ x
    · rw [if_pos h] at hE
      refine Ev.step (f := fun k => spec_huSort.l1 k o x ((j + 1 : Nat) : Int) l (l.length : Int) (i : Int)) (fun k => ?_) (ih (j + 1) (by omega) ?_)
      · simp only [spec_huSort.l1]
        rw [if_pos (by omega), if_pos (by omega), if_pos h, w64_succ (n := o.length) (by omega) (by omega)]
      · rw [List.take_succ_eq_append_getElem (by omega), List.append_assoc, List.singleton_append, ← rd_lt o j (by omega)]
        exact hE
    · rw [if_neg h] at hE
      refine Ev.step (f := fun k => spec_huSort.l0 k (o.take j ++ x :: o.drop j) l (l.length : Int) ((i + 1 : Nat) : Int)) (fun k => ?_) (by rw [hdrop]; exact hE)
      have hp := hput j (by omega) k
      rw [if_pos (by omega)] at hp
      simp only [spec_huSort.l1]
      rw [if_pos (by omega), if_pos (by omega), if_neg h]
      exact hp
theorem huSort_upto (l : List Int) (hl : l.length ≤ 1000000) (d : Nat) : ∀ (i : Nat) (o : List Int), i + d = l.length → o.length = i → Ev (fun k => spec_huSort.l0 k o l (l.length : Int) (i : Int)) ((l.drop i).foldl (fun o x => ins x o) o) := by
  induction d with
  | zero =>
    intro i o hid ho
    refine Ev.step (f := fun _ => some o) (fun k => by simp only [spec_huSort.l0]; rw [if_neg (by omega)]) ?_
    rw [List.drop_eq_nil_of_le (by omega)]
    exact Ev.is rfl
  | succ d ih =>
    intro i o hid ho
    refine Ev.step (f := fun k => spec_huSort.l1 k o (rd l (i : Int)) ((0 : Nat) : Int) l (l.length : Int) (i : Int)) (fun k => ?_) ?_
    · simp only [spec_huSort.l0]
      rw [if_pos (by omega), if_pos (by omega), if_pos (by omega)]
      rfl
    · refine huSort_in o _ l i (by omega) (by omega) hl _ o.length 0 (by omega) ?_
      rw [List.take_zero, List.drop_zero, List.nil_append, rd_drop l i (by omega), List.foldl_cons]
      exact ih (i + 1) _ (by omega) (by rw [ins_length]; omega)
theorem foldl_ins (l : List Int) : ∀ o : List Int, o.Pairwise (· ≥ ·) → (l.foldl (fun o x => ins x o) o).Pairwise (· ≥ ·) ∧ (l.foldl (fun o x => ins x o) o).Perm (o ++ l) := by
  induction l with
  | nil => intro o ho; exact ⟨ho, by rw [List.append_nil]; exact List.Perm.refl _⟩
  | cons x l ih =>
    intro o ho
    have h := ih (ins x o) (ins_pairwise x o ho)
    refine ⟨h.1, h.2.trans ?_⟩
    exact ((ins_perm x o).append_right l).trans List.perm_middle.symm
theorem huSort_ev (l : List Int) (hl : l.length ≤ 1000000) : Ev (fun k => spec_huSort.f k l) (down l) := by
  unfold spec_huSort.f
  have h := huSort_upto l hl l.length 0 [] (by omega) rfl
  have h2 := foldl_ins l [] List.Pairwise.nil
  rw [List.drop_zero, down_unique h2.2 h2.1] at h
  exact h
end Go.Proofs.Ytfdjbcbhlfjogaa.P

namespace Go.Proofs.Ytfdjbcbhlfjogaa.P
set_option linter.unusedVariables false
set_option linter.unusedSimpArgs false
open Go.RowKit Go.Proofs.YtfdjbcbhlfjogaaW.PrintWords Go.Proofs.YtfdjbcbhlfjogaaW.PrintLast Go.Proofs.YtfdjbcbhlfjogaaW.PrintMore

theorem clone_is (l : List Int) (h : l.length < 17592186044416) : slices_Clone_int_int.f l = some l := by
  unfold slices_Clone_int_int.f
  rw [if_pos h]
theorem sqs_perm {l m : List Int} (h : l.Perm m) : sqs l = sqs m := by
  induction h with
  | nil => rfl
  | cons x _ ih => simp only [sqs, ih]
  | swap x y l => simp only [sqs]; omega
  | trans _ _ h1 h2 => exact h1.trans h2
theorem prd_perm {l m : List Int} (h : l.Perm m) : prd l = prd m := by
  induction h with
  | nil => rfl
  | cons x _ ih => simp only [prd, ih]
  | swap x y l => simp only [prd]; grind
  | trans _ _ h1 h2 => exact h1.trans h2
theorem fallsFrom_iff (p : Int) (l : List Int) : fallsFrom p l = true ↔ (p :: l).Pairwise (· ≥ ·) := by
  induction l generalizing p with
  | nil => simp [fallsFrom]
  | cons x l ih =>
    rw [fallsFrom, Bool.and_eq_true, ih, List.pairwise_cons (a := p) (l := x :: l), decide_eq_true_eq]
    constructor
    · rintro ⟨h1, h2⟩
      refine ⟨fun y hy => ?_, h2⟩
      rcases List.mem_cons.1 hy with rfl | hy
      · exact h1
      · have := (List.pairwise_cons.1 h2).1 y hy
        omega
    · rintro ⟨h1, h2⟩
      exact ⟨h1 x List.mem_cons_self, h2⟩
theorem falls_iff (l : List Int) : falls l = true ↔ l.Pairwise (· ≥ ·) := by
  cases l with
  | nil => simp [falls]
  | cons x l => exact fallsFrom_iff x l
theorem rd_set (l : List Int) (i : Nat) (y : Int) (hi : i < l.length) : rd (l.set i y) (i : Int) = y := by rw [rd_lt _ _ (by rw [List.length_set]; exact hi), List.getElem_set_self]
theorem erase_set (l : List Int) (i : Nat) (y : Int) : (l.set i y).eraseIdx i = l.eraseIdx i := by
  induction l generalizing i with
  | nil => rfl
  | cons x l ih =>
    cases i with
    | zero => rfl
    | succ i => rw [List.set_cons_succ, List.eraseIdx_cons_succ, List.eraseIdx_cons_succ, ih]

/-- Behind the jump at i. -/
def jmp (l : List Int) (a : Int) (i : Nat) : List Int := down (l.set i (oth l a i))
def jumpOf (l : List Int) (a : Int) (i : Nat) : List Int × Bool := if inB 1 100000 (oth l a i) then (jmp l a i, true) else ([], false)
theorem jmp_length (l : List Int) (a : Int) (i : Nat) : (jmp l a i).length = l.length := by rw [jmp, down_length, List.length_set]
/-- The sum of squares and the product behind a jump: Vieta. -/
theorem vieta {l : List Int} {a b : Int} {i : Nat} (hi : i < l.length) (h : sqs l = a * prd l + b) : sqs (jmp l a i) = a * prd (jmp l a i) + b := by
  rw [jmp, sqs_perm (down_perm _), prd_perm (down_perm _)]
  have hi2 : i < (l.set i (oth l a i)).length := by rw [List.length_set]; exact hi
  rw [sqs_mem _ i hi2, prd_erase _ i hi2, rd_set l i _ hi, erase_set]
  rw [sqs_mem l i hi, prd_erase l i hi] at h
  unfold oth
  grind
theorem jmp_is {l : List Int} {a b : Int} {i : Nat} (hi : i < l.length) (h : huIs l a b = true) (ho : inB 1 100000 (oth l a i) = true) : huIs (jmp l a i) a b = true := by
  obtain ⟨h1, h2, h3, h4⟩ := huIs_iff.1 h
  refine huIs_iff.2 ⟨by rw [jmp_length]; exact h1, fun x hx => ?_, (falls_iff _).2 (down_pairwise _), vieta hi h4⟩
  have hx2 := (down_perm _).mem_iff.1 hx
  rcases List.mem_or_eq_of_mem_set hx2 with hm | rfl
  · exact h2 x hm
  · exact inB_iff.1 ho
theorem jump_both {l : List Int} {a b : Int} (hg : huGv a b = true) (h : huIs l a b = true) (i : Nat) (hi : i < l.length) : Ev (fun k => impl_jump.f k l a (i : Int)) (jumpOf l a i) ∧ Ev (fun k => spec_huJump.f k l a (i : Int)) (jumpOf l a i) := by
  obtain ⟨e1, e2⟩ := other_both hg h i hi
  obtain ⟨h1, h2, h3, h4⟩ := huIs_iff.1 h
  have c1 : (0 : Int) ≤ (i : Int) := by omega
  have c2 : (i : Int) < (l.length : Int) := by omega
  unfold impl_jump.f spec_huJump.f jumpOf
  constructor
  · refine Ev.bind e1 ?_
    rw [within_inB]
    refine Ev.bind0 rfl ?_
    cases ho : inB 1 100000 (oth l a i) with
    | false =>
      simp only [Bool.false_eq_true, if_false]
      exact Ev.is rfl
    | true =>
      simp only [if_true]
      refine Ev.bind0 (clone_is l (by omega)) ?_
      simp only [c1, c2, if_true, Int.toNat_natCast]
      refine Ev.bind0 (sort_is _ (by rw [List.length_set]; omega)) ?_
      refine Ev.bind (reverse_ev _ (by rw [up_length, List.length_set]; omega)) (Ev.is rfl)
  · refine Ev.bind e2 ?_
    rw [l1In_inB]
    refine Ev.bind0 rfl ?_
    cases ho : inB 1 100000 (oth l a i) with
    | false =>
      simp only [Bool.false_eq_true, if_false]
      exact Ev.is rfl
    | true =>
      simp only [if_true]
      refine Ev.bind0 (own_is l (by omega)) ?_
      simp only [c1, c2, if_true, Int.toNat_natCast]
      exact Ev.bind (huSort_ev _ (by rw [List.length_set]; omega)) (Ev.is rfl)
end Go.Proofs.Ytfdjbcbhlfjogaa.P

namespace Go.Proofs.Ytfdjbcbhlfjogaa.P
set_option linter.unusedVariables false
set_option linter.unusedSimpArgs false
open Go.RowKit Go.Proofs.YtfdjbcbhlfjogaaW.PrintWords Go.Proofs.YtfdjbcbhlfjogaaW.PrintLast Go.Proofs.YtfdjbcbhlfjogaaW.PrintMore
def lastOf (l : List Int) (a : Int) : Bool := !inB 1 (rd l 0 - 1) (oth l a 0)
theorem last_both {l : List Int} {a b : Int} (hg : huGv a b = true) (h : huIs l a b = true) : Ev (fun k => impl_isFundamental.f k l a) (lastOf l a) ∧ Ev (fun k => spec_huLast.f k l a) (lastOf l a) := by
  obtain ⟨h1, h2, h3, h4⟩ := huIs_iff.1 h
  obtain ⟨e1, e2⟩ := other_both hg h 0 (by omega)
  have hr := h2 _ (rd_mem (l := l) (i := 0) (by omega))
  have c : (0 : Int) < (l.length : Int) := by omega
  have w1 : wrap64 (rd l 0 - 1) = rd l 0 - 1 := w64 (by have : rd l 0 = rd l ((0 : Nat) : Int) := rfl; omega) (by have : rd l 0 = rd l ((0 : Nat) : Int) := rfl; omega)
  unfold impl_isFundamental.f spec_huLast.f lastOf
  simp only [c, if_true, w1]
  constructor
  · refine Ev.bind e1 ?_
    rw [within_inB]
    exact Ev.is rfl
  · refine Ev.bind e2 ?_
    rw [l1In_inB]
    exact Ev.is rfl
def isFund (l : List Int) (a b : Int) : Bool × Bool := if huSol l a b then (lastOf l a, true) else (false, false)
theorem spec_IsFundamental_ev (l : List Int) (a b : Int) (hn : l.length ≤ 4611686018427387904) : Ev (fun k => spec_IsFundamental.f k l a b) (isFund l a b) := by
  unfold spec_IsFundamental.f isFund huSol
  refine Ev.bind0 (huGiven_is a b) ?_
  cases hg : huGv a b with
  | false =>
    simp only [Bool.false_eq_true, if_false, Bool.false_and]
    exact Ev.is rfl
  | true =>
    simp only [if_true, Bool.true_and]
    refine Ev.bind (huGood_ev l a b hg hn) ?_
    cases hs : huIs l a b with
    | false =>
      simp only [Bool.false_eq_true, if_false]
      exact Ev.is rfl
    | true =>
      simp only [if_true]
      exact Ev.bind (last_both hg hs).2 (Ev.is rfl)
theorem impl_IsFundamental_ev (l : List Int) (a b : Int) : Ev (fun k => impl_IsFundamental.f k l a b) (isFund l a b) := by
  unfold impl_IsFundamental.f isFund
  refine Ev.bind (isSolution_ev l a b) ?_
  cases hs : huSol l a b with
  | false =>
    simp only [Bool.false_eq_true, if_false]
    exact Ev.is rfl
  | true =>
    simp only [if_true]
    exact Ev.bind (last_both (huSol_iff.1 hs).1 (huSol_iff.1 hs).2).1 (Ev.is rfl)
end Go.Proofs.Ytfdjbcbhlfjogaa.P

namespace Go.Proofs.Ytfdjbcbhlfjogaa.P
set_option linter.unusedVariables false
set_option linter.unusedSimpArgs false
open Go.RowKit Go.Proofs.YtfdjbcbhlfjogaaW.PrintWords Go.Proofs.YtfdjbcbhlfjogaaW.PrintLast Go.Proofs.YtfdjbcbhlfjogaaW.PrintMore

/-- The sum. -/
def smm : List Int → Int
  | [] => 0
  | x :: l => x + smm l
theorem smm_perm {l m : List Int} (h : l.Perm m) : smm l = smm m := by
  induction h with
  | nil => rfl
  | cons x _ ih => simp only [smm, ih]
  | swap x y l => simp only [smm]; omega
  | trans _ _ h1 h2 => exact h1.trans h2
theorem smm_set (l : List Int) (y : Int) (h : 0 < l.length) : smm (l.set 0 y) = smm l - rd l 0 + y := by
  cases l with
  | nil => simp at h
  | cons x l => simp only [List.set_cons_zero, smm, rd]; simp; omega
theorem smm_bd {l : List Int} (h : ∀ x ∈ l, 1 ≤ x ∧ x ≤ 100000) : (l.length : Int) ≤ smm l ∧ smm l ≤ 100000 * (l.length : Int) := by
  induction l with
  | nil => simp [smm]
  | cons x l ih =>
    have h1 := h x (List.mem_cons_self)
    have h2 := ih (fun y hy => h y (List.mem_cons_of_mem _ hy))
    simp only [smm, List.length_cons]
    omega
def way (a : Int) : Nat → List Int → List (List Int)
  | 0, l => [l]
  | d + 1, l => if lastOf l a = true then [l] else l :: way a d (jmp l a 0)
/-- A step down. -/
theorem step_down {l : List Int} {a b : Int} (hg : huGv a b = true) (h : huIs l a b = true) (hl : lastOf l a = false) : inB 1 100000 (oth l a 0) = true ∧ smm (jmp l a 0) < smm l ∧ huIs (jmp l a 0) a b = true := by
  obtain ⟨h1, h2, h3, h4⟩ := huIs_iff.1 h
  have hr := h2 _ (rd_mem (l := l) (i := 0) (by omega))
  have hr0 : rd l ((0 : Nat) : Int) = rd l 0 := rfl
  unfold lastOf at hl
  have ho : inB 1 (rd l 0 - 1) (oth l a 0) = true := by simpa using hl
  have ho2 := inB_iff.1 ho
  have ho3 : inB 1 100000 (oth l a 0) = true := inB_iff.2 (by omega)
  refine ⟨ho3, ?_, jmp_is (by omega) h ho3⟩
  rw [jmp, smm_perm (down_perm _), smm_set l _ (by omega)]
  omega
theorem jumpOf_zero {l : List Int} {a : Int} (h : inB 1 100000 (oth l a 0) = true) : jumpOf l a 0 = (jmp l a 0, true) := by
  unfold jumpOf
  rw [if_pos h]
theorem way_both {a b : Int} (hg : huGv a b = true) (d : Nat) : ∀ (l : List Int) (o : List (List Int)), huIs l a b = true → smm l ≤ d → o.length + d ≤ 900000000 →
    Ev (fun k => spec_huDown.l0 k l a (o ++ [l])) (o ++ way a d l) ∧ Ev (fun k => impl_WayDown.l0 k l a (o ++ [l])) (o ++ way a d l, true) := by
  induction d with
  | zero =>
    intro l o h hs ho
    obtain ⟨h1, h2, h3, h4⟩ := huIs_iff.1 h
    have := smm_bd h2
    omega
  | succ d ih =>
    intro l o h hs ho
    obtain ⟨e1, e2⟩ := last_both hg h
    rw [way]
    cases hl : lastOf l a with
    | true =>
      rw [hl] at e1 e2
      simp only [if_true]
      constructor
      · refine Ev.step (fun k => by simp only [spec_huDown.l0]; rfl) (Ev.bind e2 ?_)
        simp only [if_true]
        exact Ev.is rfl
      · refine Ev.step (fun k => by simp only [impl_WayDown.l0]; rfl) (Ev.bind e1 ?_)
        simp only [if_true]
        exact Ev.is rfl
    | false =>
      rw [hl] at e1 e2
      obtain ⟨s1, s2, s3⟩ := step_down hg h hl
      have hn := (huIs_iff.1 h).1
      obtain ⟨j1, j2⟩ := jump_both hg h 0 (by omega)
      rw [jumpOf_zero s1] at j1 j2
      obtain ⟨r1, r2⟩ := ih (jmp l a 0) (o ++ [l]) s3 (by omega) (by rw [List.length_append, List.length_singleton]; omega)
      have hlen : (o ++ [l]).length < 1000000000 := by rw [List.length_append, List.length_singleton]; omega
      have happ : o ++ l :: way a d (jmp l a 0) = (o ++ [l]) ++ way a d (jmp l a 0) := by simp
      simp only [Bool.false_eq_true, if_false, happ]
      constructor
      · refine Ev.step (fun k => by simp only [spec_huDown.l0]; rfl) (Ev.bind e2 ?_)
        simp only [Bool.false_eq_true, if_false]
        refine Ev.bind j2 ?_
        simp only [hlen, if_true]
        exact r1
      · refine Ev.step (fun k => by simp only [impl_WayDown.l0]; rfl) (Ev.bind e1 ?_)
        simp only [Bool.false_eq_true, if_false]
        refine Ev.bind j1 (Ev.bind0 (clone_is _ ?_) ?_)
        · have := (huIs_iff.1 s3).1
          show (jmp l a 0).length < _
          omega
        · simp only [hlen, if_true]
          exact r2
/-- The whole way. -/
def wayOf (l : List Int) (a : Int) : List (List Int) := way a 400000 l
theorem huDown_ev {l : List Int} {a b : Int} (hg : huGv a b = true) (h : huIs l a b = true) : Ev (fun k => spec_huDown.f k l a) (wayOf l a) := by
  obtain ⟨h1, h2, h3, h4⟩ := huIs_iff.1 h
  have hs := smm_bd h2
  unfold spec_huDown.f
  refine Ev.bind0 (own_is l (by omega)) ?_
  exact (way_both hg 400000 l [] h (by omega) (by simp)).1
def wayAll (l : List Int) (a b : Int) : List (List Int) × Bool := if huSol l a b then (wayOf l a, true) else ([], false)
theorem WayDown_ev (l : List Int) (a b : Int) : Ev (fun k => impl_WayDown.f k l a b) (wayAll l a b) := by
  unfold impl_WayDown.f wayAll
  refine Ev.bind (isSolution_ev l a b) ?_
  cases hs : huSol l a b with
  | false =>
    simp only [Bool.false_eq_true, if_false]
    exact Ev.is rfl
  | true =>
    obtain ⟨hg, h⟩ := huSol_iff.1 hs
    obtain ⟨h1, h2, h3, h4⟩ := huIs_iff.1 h
    have hs := smm_bd h2
    simp only [if_true]
    refine Ev.bind0 (clone_is l (by omega)) ?_
    exact (way_both hg 400000 l [] h (by omega) (by simp)).2
theorem way_length (a : Int) (d : Nat) : ∀ l, 1 ≤ (way a d l).length ∧ (way a d l).length ≤ d + 1 := by
  induction d with
  | zero => intro l; simp [way]
  | succ d ih =>
    intro l
    rw [way]
    have := ih (jmp l a 0)
    split
    · simp
    · simp only [List.length_cons]; omega
theorem way_head (a : Int) (d : Nat) (l : List Int) : (way a d l)[0]? = some l := by
  cases d with
  | zero => rfl
  | succ d => rw [way]; split <;> rfl
/-- Each but the first is behind a jump at 0 from the one before. -/
theorem way_steps {a b : Int} (hg : huGv a b = true) (d : Nat) : ∀ l, huIs l a b = true → ∀ i x, (way a d l)[i]? = some x → huIs x a b = true ∧ ∀ y, (way a d l)[i + 1]? = some y → inB 1 100000 (oth x a 0) = true ∧ y = jmp x a 0 := by
  induction d with
  | zero =>
    intro l h i x hx
    rw [way] at hx ⊢
    cases i with
    | zero =>
      obtain rfl : l = x := by simpa using hx
      exact ⟨h, fun y hy => by simp at hy⟩
    | succ i => simp at hx
  | succ d ih =>
    intro l h i x hx
    rw [way] at hx ⊢
    cases hl : lastOf l a with
    | true =>
      rw [hl] at hx
      simp only [if_true] at hx ⊢
      cases i with
      | zero =>
        obtain rfl : l = x := by simpa using hx
        exact ⟨h, fun y hy => by simp at hy⟩
      | succ i => simp at hx
    | false =>
      rw [hl] at hx
      simp only [Bool.false_eq_true, if_false] at hx ⊢
      obtain ⟨s1, s2, s3⟩ := step_down hg h hl
      cases i with
      | zero =>
        obtain rfl : l = x := by simpa using hx
        refine ⟨h, fun y hy => ?_⟩
        rw [List.getElem?_cons_succ, way_head] at hy
        exact ⟨s1, by simpa using hy.symm⟩
      | succ i =>
        rw [List.getElem?_cons_succ] at hx
        obtain ⟨q1, q2⟩ := ih (jmp l a 0) s3 i x hx
        exact ⟨q1, fun y hy => q2 y (by rw [List.getElem?_cons_succ] at hy; exact hy)⟩
end Go.Proofs.Ytfdjbcbhlfjogaa.P

namespace Go.Proofs.Ytfdjbcbhlfjogaa.Pure
set_option linter.unusedVariables false
set_option linter.unusedSimpArgs false
open Go.RowKit Go.Proofs.Ytfdjbcbhlfjogaa.P Go.Proofs.YtfdjbcbhlfjogaaW.PrintWords Go.Proofs.YtfdjbcbhlfjogaaW.PrintLast
theorem spec_WayDown_ev (l : List Int) (a b : Int) (hn : l.length ≤ 4611686018427387904) : Ev (fun k => spec_WayDown.f k l a b) (wayAll l a b) := by
  unfold spec_WayDown.f wayAll huSol
  refine Ev.bind0 (huGiven_is a b) ?_
  cases hg : huGv a b with
  | false =>
    simp only [Bool.false_eq_true, if_false, Bool.false_and]
    exact Ev.is rfl
  | true =>
    simp only [if_true, Bool.true_and]
    refine Ev.bind (huGood_ev l a b hg hn) ?_
    cases hs : huIs l a b with
    | false =>
      simp only [Bool.false_eq_true, if_false]
      exact Ev.is rfl
    | true =>
      simp only [if_true]
      exact Ev.bind (huDown_ev hg hs) (Ev.is rfl)
theorem total_le (W : List (List Int)) (n : Nat) (h : ∀ x ∈ W, x.length ≤ n) : total W ≤ n * W.length := by
  induction W with
  | nil => simp [total]
  | cons x W ih =>
    have h1 := h x List.mem_cons_self
    have h2 := ih (fun y hy => h y (List.mem_cons_of_mem _ hy))
    simp only [total, List.length_cons, Nat.mul_succ]
    omega
theorem wayAll_bd (l : List Int) (a b : Int) : (wayAll l a b).1.length ≤ 1000000000 ∧ total (wayAll l a b).1 ≤ 1000000000 := by
  unfold wayAll
  cases hs : huSol l a b with
  | false => simp [total]
  | true =>
    obtain ⟨hg, h⟩ := huSol_iff.1 hs
    have hl := way_length a 400000 l
    have hl2 : (wayOf l a).length = (way a 400000 l).length := rfl
    have ht := total_le (wayOf l a) 4 (fun x hx => by
      obtain ⟨i, hi, rfl⟩ := List.getElem_of_mem hx
      exact (huIs_iff.1 (way_steps hg 400000 l h i _ (List.getElem?_eq_getElem hi)).1).1.2)
    simp only [if_true]
    omega
theorem FnExactWayDown : laws_FnExactWayDown.Pure := by
  intro l a b _ hl _ _ _
  refine Ev.rounds ?_
  unfold laws_FnExactWayDown.f
  by_cases h : (l.length : Int) > 1048576
  · simp only [h, if_true]
    exact Ev.is rfl
  · simp only [h, if_false]
    have e1 := spec_WayDown_ev l a b (by omega)
    have e2 := WayDown_ev l a b
    have hr := wayAll_bd l a b
    generalize wayAll l a b = r at e1 e2 hr
    refine Ev.bind e1 (Ev.bind e2 ?_)
    simp only [hr, and_self, if_true]
    exact Ev.is rfl
end Go.Proofs.Ytfdjbcbhlfjogaa.Pure
