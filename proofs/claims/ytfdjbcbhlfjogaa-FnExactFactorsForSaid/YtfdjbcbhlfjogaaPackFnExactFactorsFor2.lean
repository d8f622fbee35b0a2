/- FactorsFor answers what the reference answers, for all numbers; what it hands back is its own. No condition. -/
import Derived.Test.YtfdjbcbhlfjogaaPackFnExactFactorsFor1
-- Uhurwitz
namespace Go.Proofs.Ytfdjbcbhlfjogaa.P
set_option linter.unusedVariables false
set_option linter.unusedSimpArgs false
open Go.RowKit Go.Proofs.YtfdjbcbhlfjogaaW.PrintWords Go.Proofs.YtfdjbcbhlfjogaaW.PrintLast Go.Proofs.YtfdjbcbhlfjogaaW.PrintMore

def sqs : List Int → Int
  | [] => 0
  | x :: l => x * x + sqs l
def prd : List Int → Int
  | [] => 1
  | x :: l => x * prd l
def fallsFrom (p : Int) : List Int → Bool
  | [] => true
  | x :: l => decide (x ≤ p) && fallsFrom x l
def falls : List Int → Bool
  | [] => true
  | x :: l => fallsFrom x l
/-- Three or four numbers, none rising, that solve Hurwitz's equation. -/
def huIs (l : List Int) (a b : Int) : Bool := decide (3 ≤ l.length ∧ l.length ≤ 4) && (l.all (inB 1 100000) && (falls l && decide (sqs l = a * prd l + b)))
def huGv (a b : Int) : Bool := inB 1 20 a && inB (-50) 50 b
theorem inB_iff {lo hi x : Int} : inB lo hi x = true ↔ lo ≤ x ∧ x ≤ hi := by simp [inB]
theorem all_iff {l : List Int} {lo hi : Int} : l.all (inB lo hi) = true ↔ ∀ x ∈ l, lo ≤ x ∧ x ≤ hi := by simp [List.all_eq_true, inB]

theorem beq_dec (a b : Int) : (a == b) = decide (a = b) := by by_cases h : a = b <;> simp [h]
theorem within_inB (x lo hi : Int) : impl_within.f x lo hi = some (inB lo hi x) := by
  unfold impl_within.f inB
  by_cases h : lo ≤ x <;> simp [h]
theorem huGiven_is (a b : Int) : spec_huGiven.f a b = some (huGv a b) := by
  unfold spec_huGiven.f huGv
  rw [l1In_inB, l1In_inB]
  cases inB 1 20 a <;> rfl
theorem prd_pos {l : List Int} (h : ∀ x ∈ l, 1 ≤ x) : 1 ≤ prd l := by
  induction l with
  | nil => simp [prd]
  | cons x l ih =>
    have h1 := h x (List.mem_cons_self)
    have h2 := ih (fun y hy => h y (List.mem_cons_of_mem _ hy))
    have h3 := Int.mul_le_mul h1 h2 (by omega) (by omega)
    simp only [prd]
    omega
theorem sqs_bd {l : List Int} (h : ∀ x ∈ l, 1 ≤ x ∧ x ≤ 100000) : 0 ≤ sqs l ∧ sqs l ≤ 10000000000 * (l.length : Int) := by
  induction l with
  | nil => simp [sqs]
  | cons x l ih =>
    have h1 := h x (List.mem_cons_self)
    have h2 := ih (fun y hy => h y (List.mem_cons_of_mem _ hy))
    have h3 : x * x ≤ 100000 * 100000 := Int.mul_le_mul h1.2 h1.2 (by omega) (by omega)
    have h4 : 0 ≤ x * x := Int.mul_nonneg (by omega) (by omega)
    simp only [sqs, List.length_cons]
    omega
theorem drop_all {l : List Int} {P : Int → Prop} (h : ∀ x ∈ l, P x) (i : Nat) : ∀ x ∈ l.drop i, P x := fun x hx => h x (List.mem_of_mem_drop hx)
theorem rd_mem {l : List Int} {i : Nat} (h : i < l.length) : rd l (i : Int) ∈ l := by rw [rd_lt l i h]; exact List.getElem_mem h

theorem sq_bd {x : Int} (hx : 1 ≤ x ∧ x ≤ 100000) : 1 ≤ x * x ∧ x * x ≤ 10000000000 := by
  have h3 : x * x ≤ 100000 * 100000 := Int.mul_le_mul hx.2 hx.2 (by omega) (by omega)
  have h4 : 1 * 1 ≤ x * x := Int.mul_le_mul hx.1 hx.1 (by omega) (by omega)
  omega
theorem huSquares_upto (l : List Int) (hl : ∀ x ∈ l, 1 ≤ x ∧ x ≤ 100000) (hn : l.length ≤ 1000000) (d : Nat) : ∀ (i : Nat) (s : Int), i + d = l.length → 0 ≤ s → s + 10000000000 * (d : Int) ≤ 9000000000000000000 → Ev (fun k => spec_huSquares.l0 k s l (l.length : Int) (i : Int)) (s + sqs (l.drop i)) := by
  induction d with
  | zero =>
    intro i s hid h0 h1
    refine Ev.step (f := fun _ => some s) (fun k => by simp only [spec_huSquares.l0]; rw [if_neg (by omega)]) ?_
    rw [List.drop_eq_nil_of_le (by omega), sqs, Int.add_zero]
    exact Ev.is rfl
  | succ d ih =>
    intro i s hid h0 h1
    have hx := sq_bd (hl _ (rd_mem (l := l) (i := i) (by omega)))
    have w1 : wrap64 (rd l (i : Int) * rd l (i : Int)) = rd l (i : Int) * rd l (i : Int) := w64 (by omega) (by omega)
    have w2 : wrap64 (s + rd l (i : Int) * rd l (i : Int)) = s + rd l (i : Int) * rd l (i : Int) := w64 (by omega) (by omega)
    refine Ev.step (f := fun k => spec_huSquares.l0 k (s + rd l (i : Int) * rd l (i : Int)) l (l.length : Int) ((i + 1 : Nat) : Int)) (fun k => ?_) ?_
    · simp only [spec_huSquares.l0]
      rw [if_pos (by omega), if_pos (by omega), if_pos (by omega), w1, w2, w64_succ (n := l.length) (by omega) (by omega)]
    · rw [rd_drop l i (by omega), sqs, ← Int.add_assoc]
      exact ih (i + 1) _ (by omega) (by omega) (by omega)
theorem huSquares_ev (l : List Int) (hl : ∀ x ∈ l, 1 ≤ x ∧ x ≤ 100000) (hn : l.length ≤ 1000000) : Ev (fun k => spec_huSquares.f k l) (sqs l) := by
  unfold spec_huSquares.f
  have h := huSquares_upto l hl hn l.length 0 0 (by omega) (by omega) (by omega)
  rw [List.drop_zero, Int.zero_add] at h
  exact h

theorem cap_mul {y q C : Int} (h0 : 0 ≤ y) (hq : 1 ≤ q) (hC : 0 ≤ C) : min (min y C * q) C = min (y * q) C := by
  by_cases h : y ≤ C
  · rw [Int.min_eq_left h]
  · have h1 : min y C = C := Int.min_eq_right (by omega)
    rw [h1]
    have h2 : C ≤ C * q := by have := Int.mul_le_mul (Int.le_refl C) hq (by omega) hC; omega
    have h3 : y ≤ y * q := by have := Int.mul_le_mul (Int.le_refl y) hq (by omega) h0; omega
    rw [Int.min_eq_right h2, Int.min_eq_right (by omega)]
theorem least_is (a b : Int) : spec_l1Least.f a b = some (min a b) := by
  unfold spec_l1Least.f
  by_cases h : a < b
  · rw [if_pos h, Int.min_eq_left (by omega)]
  · rw [if_neg h, Int.min_eq_right (by omega)]
theorem mul_bd2 {p x P X : Int} (h1 : 0 ≤ p) (h2 : p ≤ P) (h3 : 1 ≤ x) (h4 : x ≤ X) : 0 ≤ p * x ∧ p * x ≤ P * X ∧ p ≤ p * x := by
  have h5 := Int.mul_le_mul (Int.le_refl p) h3 (by omega) h1
  exact ⟨Int.mul_nonneg h1 (by omega), Int.mul_le_mul h2 h4 (by omega) (by omega), by omega⟩
theorem huProduct_upto (l : List Int) (hl : ∀ x ∈ l, 1 ≤ x ∧ x ≤ 100000) (hn : l.length ≤ 1000000) (d : Nat) : ∀ (i : Nat) (p : Int), i + d = l.length → 0 ≤ p → p ≤ 1000000000000 → Ev (fun k => spec_huProduct.l0 k p l (l.length : Int) (i : Int)) (min (p * prd (l.drop i)) 1000000000000) := by
  induction d with
  | zero =>
    intro i p hid h0 h1
    refine Ev.step (f := fun _ => some p) (fun k => by simp only [spec_huProduct.l0]; rw [if_neg (by omega)]) ?_
    rw [List.drop_eq_nil_of_le (by omega), prd, Int.mul_one, Int.min_eq_left h1]
    exact Ev.is rfl
  | succ d ih =>
    intro i p hid h0 h1
    have hx := hl _ (rd_mem (l := l) (i := i) (by omega))
    have hb := mul_bd2 h0 h1 hx.1 hx.2
    have w1 : wrap64 (p * rd l (i : Int)) = p * rd l (i : Int) := w64 (by omega) (by omega)
    refine Ev.step (f := fun k => spec_huProduct.l0 k (min (p * rd l (i : Int)) 1000000000000) l (l.length : Int) ((i + 1 : Nat) : Int)) (fun k => ?_) ?_
    · simp only [spec_huProduct.l0]
      rw [if_pos (by omega), if_pos (by omega), if_pos (by omega), w1, least_is, w64_succ (n := l.length) (by omega) (by omega)]
      rfl
    · have hq := prd_pos (fun x hx => (drop_all hl (i + 1) x hx).1)
      rw [rd_drop l i (by omega), prd, ← Int.mul_assoc, ← cap_mul (by omega) hq (by omega)]
      exact ih (i + 1) _ (by omega) (by omega) (by omega)
theorem huProduct_ev (l : List Int) (a : Int) (ha : 0 ≤ a ∧ a ≤ 1000000000000) (hl : ∀ x ∈ l, 1 ≤ x ∧ x ≤ 100000) (hn : l.length ≤ 1000000) : Ev (fun k => spec_huProduct.f k l a) (min (a * prd l) 1000000000000) := by
  unfold spec_huProduct.f
  have h := huProduct_upto l hl hn l.length 0 a (by omega) ha.1 ha.2
  rw [List.drop_zero] at h
  exact h

theorem huGood_falls (l : List Int) (a b : Int) (r : Bool) (hn : l.length ≤ 1000000) (hend : Ev (fun k => (spec_huSquares.f k l).bind fun t112 => ((spec_huProduct.f k l a).bind fun t113 => (some (t112 == (wrap64 (t113 + b)))))) r) (d : Nat) : ∀ (i : Nat), 1 ≤ i → i + d = l.length → Ev (fun k => spec_huGood.l0 k l a b (i : Int)) (fallsFrom (rd l ((i - 1 : Nat) : Int)) (l.drop i) && r) := by
  induction d with
  | zero =>
    intro i h1 hid
    refine Ev.step (fun k => by simp only [spec_huGood.l0]; rw [if_neg (by omega)]) ?_
    rw [List.drop_eq_nil_of_le (by omega), fallsFrom, Bool.true_and]
    exact hend
  | succ d ih =>
    intro i h1 hid
    have w1 : wrap64 ((i : Int) - 1) = ((i - 1 : Nat) : Int) := by rw [w64 (by omega) (by omega)]; omega
    refine Ev.step (f := fun k => if rd l (i : Int) > rd l ((i - 1 : Nat) : Int) then some false else spec_huGood.l0 k l a b ((i + 1 : Nat) : Int)) (fun k => ?_) ?_
    · simp only [spec_huGood.l0]
      rw [w1, if_pos (by omega), if_pos (by omega), if_pos (by omega), if_pos (by omega), w64_succ (n := l.length) (by omega) (by omega)]
    · rw [rd_drop l i (by omega), fallsFrom]
      by_cases h : rd l (i : Int) > rd l ((i - 1 : Nat) : Int)
      · simp only [h, if_true]
        rw [decide_eq_false (by omega), Bool.false_and, Bool.false_and]
        exact Ev.is rfl
      · simp only [h, if_false]
        rw [decide_eq_true (by omega), Bool.true_and]
        have h2 := ih (i + 1) (by omega) (by omega)
        rw [Nat.add_sub_cancel] at h2
        exact h2
theorem falls_ge (l : List Int) (h : 1 ≤ l.length) : falls l = fallsFrom (rd l ((1 - 1 : Nat) : Int)) (l.drop 1) := by
  cases l with
  | nil => simp at h
  | cons x l => rfl
theorem huGood_ev (l : List Int) (a b : Int) (h : huGv a b = true) (hn : l.length ≤ 4611686018427387904) : Ev (fun k => spec_huGood.f k l a b) (huIs l a b) := by
  unfold spec_huGood.f huIs
  simp only [huGv, inB_iff, Bool.and_eq_true] at h
  rw [l1In_inB]
  refine Ev.bind0 rfl ?_
  by_cases h3 : 3 ≤ l.length ∧ l.length ≤ 4
  · have h4 : inB 3 4 (l.length : Int) = true := by rw [inB_iff]; omega
    rw [h4, decide_eq_true h3, Bool.true_and]
    simp only [if_true]
    refine Ev.bind (l1All_ev l 1 100000 hn) ?_
    cases hA : l.all (inB 1 100000) with
    | false =>
      simp only [Bool.false_and, Bool.not_false]
      exact Ev.step (f := fun _ => some false) (fun k => by simp only [spec_huGood.j0, if_true]) (Ev.is rfl)
    | true =>
      have hl := all_iff.1 hA
      simp only [Bool.true_and, Bool.not_true]
      refine Ev.step (f := fun k => spec_huGood.l0 k l a b ((1 : Nat) : Int)) (fun k => by simp only [spec_huGood.j0, Bool.false_eq_true, if_false]; rfl) ?_
      rw [falls_ge l (by omega)]
      refine huGood_falls l a b _ (by omega) ?_ (l.length - 1) 1 (by omega) (by omega)
      refine Ev.bind (huSquares_ev l hl (by omega)) (Ev.bind (huProduct_ev l a (by omega) hl (by omega)) (Ev.is ?_))
      have hs := sqs_bd hl
      have hp := prd_pos (fun x hx => (hl x hx).1)
      have hap := mul_bd2 (p := a) (x := prd l) (P := 20) (X := prd l) (by omega) (by omega) hp (by omega)
      generalize a * prd l = q at hap
      have w1 : wrap64 (min q 1000000000000 + b) = min q 1000000000000 + b := w64 (by omega) (by omega)
      rw [w1]
      congr 1
      rw [beq_dec]
      exact decide_eq_decide.2 (by omega)
  · have h4 : inB 3 4 (l.length : Int) = false := by rw [Bool.eq_false_iff]; intro h5; rw [inB_iff] at h5; omega
    rw [h4, decide_eq_false h3, Bool.false_and]
    simp only [Bool.false_eq_true, if_false]
    exact Ev.step (f := fun _ => some false) (fun k => by simp only [spec_huGood.j0, if_true]) (Ev.is rfl)

/-- What a solution's numbers are. -/
theorem huIs_iff {l : List Int} {a b : Int} : huIs l a b = true ↔ (3 ≤ l.length ∧ l.length ≤ 4) ∧ (∀ x ∈ l, 1 ≤ x ∧ x ≤ 100000) ∧ falls l = true ∧ sqs l = a * prd l + b := by
  simp only [huIs, Bool.and_eq_true, decide_eq_true_eq, all_iff]

theorem own_is (l : List Int) (h : l.length < 17592186044416) : spec_l1Own.f l = some l := by
  unfold spec_l1Own.f
  simp [h]
end Go.Proofs.Ytfdjbcbhlfjogaa.P

-- PFimplisSolution
namespace Go.Proofs.Ytfdjbcbhlfjogaa.P
open Go.RowKit Go.Proofs.YtfdjbcbhlfjogaaW.PrintWords Go.Proofs.YtfdjbcbhlfjogaaW.PrintLast
set_option linter.unusedVariables false
set_option linter.unusedSimpArgs false

/-! ### impl_isSolution: function 56 -/
end Go.Proofs.Ytfdjbcbhlfjogaa.P

-- PFimplOtherRootAt
namespace Go.Proofs.Ytfdjbcbhlfjogaa.P
open Go.RowKit Go.Proofs.YtfdjbcbhlfjogaaW.PrintWords Go.Proofs.YtfdjbcbhlfjogaaW.PrintLast
set_option linter.unusedVariables false
set_option linter.unusedSimpArgs false

/-! ### impl_OtherRootAt: function 20 -/
end Go.Proofs.Ytfdjbcbhlfjogaa.P

-- PFspecOtherRootAt
namespace Go.Proofs.Ytfdjbcbhlfjogaa.P
open Go.RowKit Go.Proofs.YtfdjbcbhlfjogaaW.PrintWords Go.Proofs.YtfdjbcbhlfjogaaW.PrintLast
set_option linter.unusedVariables false
set_option linter.unusedSimpArgs false

/-! ### spec_OtherRootAt: function 19 -/
end Go.Proofs.Ytfdjbcbhlfjogaa.P

-- UhuAt
namespace Go.Proofs.Ytfdjbcbhlfjogaa.P
set_option linter.unusedVariables false
set_option linter.unusedSimpArgs false
open Go.RowKit Go.Proofs.YtfdjbcbhlfjogaaW.PrintWords Go.Proofs.YtfdjbcbhlfjogaaW.PrintLast Go.Proofs.YtfdjbcbhlfjogaaW.PrintMore

end Go.Proofs.Ytfdjbcbhlfjogaa.P

-- PFimplisFundamental
namespace Go.Proofs.Ytfdjbcbhlfjogaa.P
open Go.RowKit Go.Proofs.YtfdjbcbhlfjogaaW.PrintWords Go.Proofs.YtfdjbcbhlfjogaaW.PrintLast
set_option linter.unusedVariables false
set_option linter.unusedSimpArgs false

/-! ### impl_isFundamental: function 60 -/
end Go.Proofs.Ytfdjbcbhlfjogaa.P

-- PFspechuLast
namespace Go.Proofs.Ytfdjbcbhlfjogaa.P
open Go.RowKit Go.Proofs.YtfdjbcbhlfjogaaW.PrintWords Go.Proofs.YtfdjbcbhlfjogaaW.PrintLast
set_option linter.unusedVariables false
set_option linter.unusedSimpArgs false

/-! ### spec_huLast: function 59 -/
end Go.Proofs.Ytfdjbcbhlfjogaa.P

-- PFimplIsFundamental
namespace Go.Proofs.Ytfdjbcbhlfjogaa.P
open Go.RowKit Go.Proofs.YtfdjbcbhlfjogaaW.PrintWords Go.Proofs.YtfdjbcbhlfjogaaW.PrintLast
set_option linter.unusedVariables false
set_option linter.unusedSimpArgs false

/-! ### impl_IsFundamental: function 22 -/
end Go.Proofs.Ytfdjbcbhlfjogaa.P

-- PFspecIsFundamental
namespace Go.Proofs.Ytfdjbcbhlfjogaa.P
open Go.RowKit Go.Proofs.YtfdjbcbhlfjogaaW.PrintWords Go.Proofs.YtfdjbcbhlfjogaaW.PrintLast
set_option linter.unusedVariables false
set_option linter.unusedSimpArgs false

/-! ### spec_IsFundamental: function 21 -/
end Go.Proofs.Ytfdjbcbhlfjogaa.P

-- UhuLast
namespace Go.Proofs.Ytfdjbcbhlfjogaa.P
set_option linter.unusedVariables false
set_option linter.unusedSimpArgs false
open Go.RowKit Go.Proofs.YtfdjbcbhlfjogaaW.PrintWords Go.Proofs.YtfdjbcbhlfjogaaW.PrintLast Go.Proofs.YtfdjbcbhlfjogaaW.PrintMore
end Go.Proofs.Ytfdjbcbhlfjogaa.P

-- UmarkIntS
namespace Go.Proofs.Ytfdjbcbhlfjogaa.P
set_option linter.unusedVariables false
set_option linter.unusedSimpArgs false
open Go.RowKit Go.Proofs.YtfdjbcbhlfjogaaW.PrintWords Go.Proofs.YtfdjbcbhlfjogaaW.PrintLast

theorem markIntS_from (n : Nat) (m : Int) (hn : n ≤ 1152921504606846976) (hm : 0 ≤ m) (hm2 : m ≤ 1152921504606846976) (d : Nat) : ∀ (i : Nat) (x : List Int), i + d = n → x.length = n → x.take i = upFrom m i → Ev (fun k => laws_markIntS.l0 k x (m + i) (i : Int)) (m + n, upFrom m n) := by
  induction d with
  | zero =>
    intro i x hi hx ht
    refine Ev.step (fun k => by simp only [laws_markIntS.l0]; rw [if_neg (by omega)]) ?_
    rw [List.take_of_length_le (by omega)] at ht
    obtain rfl : i = n := by omega
    exact Ev.is (by rw [ht])
  | succ d ih =>
    intro i x hi hx ht
    have hw : wrap64 (m + (i : Int) + 1) = m + ((i + 1 : Nat) : Int) := by rw [w64 (by omega) (by omega)]; omega
    refine Ev.step (fun k => by simp only [laws_markIntS.l0]; rw [if_pos (by omega), if_pos (by omega), w64_succ (n := n) (by omega) (by omega), hw, Int.toNat_natCast]) ?_
    refine ih (i + 1) _ (by omega) (by rw [List.length_set]; exact hx) ?_
    rw [List.take_succ_eq_append_getElem (by rw [List.length_set]; omega), List.take_set_of_le (Nat.le_refl _), ht, List.getElem_set_self, upFrom_snoc]
theorem markIntS_ev (x : List Int) (m : Int) (hn : x.length ≤ 1152921504606846976) (hm : 0 ≤ m) (hm2 : m ≤ 1152921504606846976) : Ev (fun k => laws_markIntS.f k x m) (m + x.length, upFrom m x.length) := by
  unfold laws_markIntS.f
  have h := markIntS_from x.length m hn hm hm2 x.length 0 x (by omega) rfl rfl
  simpa using h

theorem heldIntS_from (n : Nat) (m : Int) (hn : n ≤ 1152921504606846976) (hm : 0 ≤ m) (hm2 : m ≤ 1152921504606846976) (d : Nat) : ∀ (i : Nat), i + d = n → Ev (fun k => laws_heldIntS.l0 k (upFrom m n) (m + i) (i : Int)) (m + n) := by
  have hl := upFrom_length m n
  induction d with
  | zero =>
    intro i hi
    refine Ev.step (fun k => by simp only [laws_heldIntS.l0]; rw [if_neg (by omega)]) ?_
    obtain rfl : i = n := by omega
    exact Ev.is rfl
  | succ d ih =>
    intro i hi
    have hw : wrap64 (m + (i : Int) + 1) = m + ((i + 1 : Nat) : Int) := by rw [w64 (by omega) (by omega)]; omega
    refine Ev.step (fun k => by simp only [laws_heldIntS.l0]; rw [if_pos (by omega), if_pos (by omega), if_pos (rd_upFrom m n i (by omega)), w64_succ (n := n) (by omega) (by omega), hw]) ?_
    exact ih (i + 1) (by omega)
theorem heldIntS_ev (n : Nat) (m : Int) (hn : n ≤ 1152921504606846976) (hm : 0 ≤ m) (hm2 : m ≤ 1152921504606846976) : Ev (fun k => laws_heldIntS.f k (upFrom m n) m) (m + n) := by
  unfold laws_heldIntS.f
  have h := heldIntS_from n m hn hm hm2 n 0 (by omega)
  simpa using h
end Go.Proofs.Ytfdjbcbhlfjogaa.P

-- GmarkIntSS
namespace Go.Proofs.Ytfdjbcbhlfjogaa.P
open Go.RowKit Go.Proofs.YtfdjbcbhlfjogaaW.PrintWords Go.Proofs.YtfdjbcbhlfjogaaW.PrintLast
set_option linter.unusedVariables false
set_option linter.unusedSimpArgs false

end Go.Proofs.Ytfdjbcbhlfjogaa.P

-- UrowsSS
namespace Go.Proofs.Ytfdjbcbhlfjogaa.P
set_option linter.unusedVariables false
set_option linter.unusedSimpArgs false
open Go.RowKit Go.Proofs.YtfdjbcbhlfjogaaW.PrintWords Go.Proofs.YtfdjbcbhlfjogaaW.PrintLast

/-- Two values that lead to one block are no two rows of ours. -/
def Apart (u v : Value) : Prop := ∀ k, u.ownBlock = some k → v.ownBlock ≠ some k
theorem Apart.symm {u v : Value} (h : Apart u v) : Apart v u := fun k hv hu => h k hu hv
/-- The values of a row of rows. -/
structure RowVals (w : World) (base : Nat) (ok : Nat → Prop) (vs : List Value) (L : List (List Int)) : Prop where
  len : vs.length = L.length
  row : ∀ (j : Nat) (u : Value) (x : List Int), vs[j]? = some u → L[j]? = some x → Kd.R (Kd.int .i64) 3 w base ok u x
  apart : vs.Pairwise Apart
end Go.Proofs.Ytfdjbcbhlfjogaa.P

-- UrowsVals
namespace Go.Proofs.Ytfdjbcbhlfjogaa.P
set_option linter.unusedVariables false
set_option linter.unusedSimpArgs false
open Go.RowKit Go.Proofs.YtfdjbcbhlfjogaaW.PrintWords Go.Proofs.YtfdjbcbhlfjogaaW.PrintLast
theorem RowVals.own {w : World} {base : Nat} {ok : Nat → Prop} {vs : List Value} {L : List (List Int)} (h : RowVals w base ok vs L) {u : Value} (hu : u ∈ vs) {k : Nat} (hk : u.ownBlock = some k) : ok k ∧ base ≤ k ∧ k < w.heap.size := by
  obtain ⟨j, hj, rfl⟩ := List.getElem_of_mem hu
  have hL : j < L.length := by have := h.len; omega
  have hr := Kd.R_bound (h.row j vs[j] L[j] (List.getElem?_eq_getElem hj) (List.getElem?_eq_getElem hL))
  have := hr.1 k hk
  exact ⟨this.1, this.2.1, this.2.2.1⟩
/-- Rows in a later world. -/
theorem RowVals.step {w w1 : World} {base : Nat} {ok ok' : Nat → Prop} {vs : List Value} {L : List (List Int)} (h : RowVals w base ok vs L) (hm : ∀ k, ok k → k < w.heap.size → w1.heap[k]? = w.heap[k]?) (ho : ∀ k, ok k → k < w.heap.size → ok' k) : RowVals w1 base ok' vs L where
  len := h.len
  row := fun j u x hu hx => by
    have hr := h.row j u x hu hx
    exact Kd.R_mono (Kd.R_step (Kd.R_bound hr) (fun k hk hlt => hm k hk.1 hlt)) (fun k hk => ho k hk.1 hk.2.2.1)
  apart := h.apart
end Go.Proofs.Ytfdjbcbhlfjogaa.P

-- UrowsRest
namespace Go.Proofs.Ytfdjbcbhlfjogaa.P
set_option linter.unusedVariables false
set_option linter.unusedSimpArgs false
open Go.RowKit Go.Proofs.YtfdjbcbhlfjogaaW.PrintWords Go.Proofs.YtfdjbcbhlfjogaaW.PrintLast

/-- A block that is none of those that are left. -/
def Free (g : Nat) (ns : List Value) (k : Nat) : Prop := k ≠ g ∧ ∀ u ∈ ns, u.ownBlock ≠ some k
/-- What is left of a row of rows behind its first off rows. -/
structure Rest (w : World) (base g off : Nat) (ns : List Value) (bs : List (List Int)) : Prop where
  lt : ns ≠ [] → g < w.heap.size
  cell : ∀ (j : Nat) (u : Value), ns[j]? = some u → w.cell? ⟨g, off + j, none⟩ = some u
  rows : RowVals w base (fun k => k ≠ g ∧ k < w.heap.size ∧ ∃ u ∈ ns, u.ownBlock = some k) ns bs
theorem Rest.step {w w1 : World} {base g off : Nat} {ns : List Value} {bs : List (List Int)} (h : Rest w base g off ns bs) (hs : w.heap.size ≤ w1.heap.size) (hm : ∀ k, ¬ Free g ns k → k < w.heap.size → w1.heap[k]? = w.heap[k]?) : Rest w1 base g off ns bs where
  lt := fun hne => by have := h.lt hne; omega
  cell := fun j u hu => by
    rw [← h.cell j u hu]
    unfold World.cell?
    have hne : ns ≠ [] := by rintro rfl; simp at hu
    rw [hm g (fun hf => hf.1 rfl) (h.lt hne)]
  rows := h.rows.step (fun k hk hlt => hm k (fun hf => by obtain ⟨_, _, u, hu, e⟩ := hk; exact hf.2 u hu e) hlt) (fun k hk hlt => ⟨hk.1, by omega, hk.2.2⟩)
theorem Rest.below {w w1 : World} {base g off : Nat} {ns : List Value} {bs : List (List Int)} (h : Rest w base g off ns bs) (hb : Below w.heap.size w w1) : Rest w1 base g off ns bs :=
  h.step hb.size (fun k _ hk => hb.block k hk)
end Go.Proofs.Ytfdjbcbhlfjogaa.P

-- PFspecSolutionsUpTo
namespace Go.Proofs.Ytfdjbcbhlfjogaa.P
open Go.RowKit Go.Proofs.YtfdjbcbhlfjogaaW.PrintWords Go.Proofs.YtfdjbcbhlfjogaaW.PrintLast
set_option linter.unusedVariables false
set_option linter.unusedSimpArgs false

/-! ### spec_SolutionsUpTo: function 27 -/
end Go.Proofs.Ytfdjbcbhlfjogaa.P

-- PFspecFundamentalsUpTo
namespace Go.Proofs.Ytfdjbcbhlfjogaa.P
open Go.RowKit Go.Proofs.YtfdjbcbhlfjogaaW.PrintWords Go.Proofs.YtfdjbcbhlfjogaaW.PrintLast
set_option linter.unusedVariables false
set_option linter.unusedSimpArgs false

/-! ### spec_FundamentalsUpTo: function 32 -/
end Go.Proofs.Ytfdjbcbhlfjogaa.P

-- UeqIntS
namespace Go.Proofs.Ytfdjbcbhlfjogaa.P
set_option linter.unusedVariables false
set_option linter.unusedSimpArgs false
open Go.RowKit Go.Proofs.YtfdjbcbhlfjogaaW.PrintWords Go.Proofs.YtfdjbcbhlfjogaaW.PrintLast

theorem eqIntS_from (a b : List Int) (hl : a.length = b.length) (hn : a.length ≤ 4611686018427387904) (d : Nat) : ∀ i : Nat, i + d = a.length → a.take i = b.take i → Ev (fun k => laws_eqIntS.l0 k a b (i : Int)) (decide (a = b)) := by
  induction d with
  | zero =>
    intro i hi ht
    refine Ev.step (fun k => by simp only [laws_eqIntS.l0]; rw [if_neg (by omega)]) ?_
    rw [List.take_of_length_le (by omega), List.take_of_length_le (by omega)] at ht
    exact Ev.is (by rw [decide_eq_true ht])
  | succ d ih =>
    intro i hi ht
    refine Ev.step (fun k => by simp only [laws_eqIntS.l0]; rw [if_pos (by omega), if_pos (by omega), if_pos (by omega), w64_succ (n := a.length) (by omega) hn]) ?_
    by_cases h : rd a (i : Int) = rd b (i : Int)
    · simp only [h, if_true]
      refine ih (i + 1) (by omega) ?_
      rw [List.take_succ_eq_append_getElem (by omega), List.take_succ_eq_append_getElem (by omega), ht, ← rd_lt a i (by omega), ← rd_lt b i (by omega), h]
    · simp only [h, if_false]
      exact Ev.is (by rw [decide_eq_false (fun e => h (by rw [e]))])
theorem eqIntS_ev (a b : List Int) (hn : a.length ≤ 4611686018427387904) : Ev (fun k => laws_eqIntS.f k a b) (decide (a = b)) := by
  unfold laws_eqIntS.f
  by_cases hl : a.length = b.length
  · simp only [hl, if_true]
    exact eqIntS_from a b hl hn a.length 0 (by omega) rfl
  · have h : ¬ (a.length : Int) = (b.length : Int) := by omega
    simp only [h, if_false]
    exact Ev.is (by rw [decide_eq_false (fun e => hl (by rw [e]))])
end Go.Proofs.Ytfdjbcbhlfjogaa.P

-- UheldLaw
namespace Go.Proofs.Ytfdjbcbhlfjogaa.P
set_option linter.unusedVariables false
set_option linter.unusedSimpArgs false
open Go.RowKit Go.Proofs.YtfdjbcbhlfjogaaW.PrintWords Go.Proofs.YtfdjbcbhlfjogaaW.PrintLast
/-- mark, held, then what follows (with the marked list and the next mark). -/
theorem held_then {α : Type} (l : List Int) (no r : α) (f : Nat → Int × List Int → Option α) (hn : l.length ≤ 1000000) (h : Ev (fun k => f k (1 + (l.length : Int), upFrom 1 l.length)) r) :
    Ev (fun k => (laws_markIntS.f k l 1).bind fun bt => (laws_heldIntS.f k bt.2 1).bind fun t => if t < 0 then some no else if t = bt.1 then f k bt else some no) r := by
  refine Ev.bind (markIntS_ev l 1 (by omega) (by omega) (by omega)) (Ev.bind (heldIntS_ev _ 1 (by omega) (by omega) (by omega)) ?_)
  have h1 : ¬ (1 + (l.length : Int) < 0) := by omega
  simp only [h1, if_false, if_true]
  exact h
theorem held_last (n : Nat) (hn : n ≤ 1000000) : Ev (fun k => (laws_heldIntS.f k (upFrom 1 n) 1).bind fun t => if t < 0 then some false else if t = 1 + (n : Int) then some true else some false) true := by
  refine Ev.bind (heldIntS_ev _ 1 (by omega) (by omega) (by omega)) ?_
  have h1 : ¬ (1 + (n : Int) < 0) := by omega
  simp only [h1, if_false, if_true]
  exact Ev.is rfl
end Go.Proofs.Ytfdjbcbhlfjogaa.P
