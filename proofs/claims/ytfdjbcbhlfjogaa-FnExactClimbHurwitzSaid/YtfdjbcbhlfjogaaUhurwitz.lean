/- Hurwitz's equation: what a solution is, for both texts; the other root. -/
import Derived.Test.YtfdjbcbhlfjogaaUall
import Derived.Test.YtfdjbcbhlfjogaaPFspechuGood
import Derived.Test.YtfdjbcbhlfjogaaPFspechuGiven
import Derived.Test.YtfdjbcbhlfjogaaPFspechuOther
import Derived.Test.YtfdjbcbhlfjogaaPFimplisHurwitz
import Derived.Test.YtfdjbcbhlfjogaaPFimplareGiven
import Derived.Test.YtfdjbcbhlfjogaaPFimplotherRoot
namespace Go.Proofs.Ytfdjbcbhlfjogaa.P
set_option linter.unusedVariables false
set_option linter.unusedSimpArgs false
open Go.RowKit Go.Proofs.YtfdjbcbhlfjogaaW.PrintWords Go.Proofs.YtfdjbcbhlfjogaaW.PrintLast Go.Proofs.YtfdjbcbhlfjogaaW.PrintMore

def sqs : List Int → Int
  | [] => 0
  | x :: l => x * x + sqs l
def prd : List Int → Int
  | [] => 1
  | x :: l => x * prd l
def fallsFrom (p : Int) : List Int → Bool
  | [] => true
  | x :: l => decide (x ≤ p) && fallsFrom x l
def falls : List Int → Bool
  | [] => true
  | x :: l => fallsFrom x l
/-- Three or four numbers, none rising, that solve Hurwitz's equation. -/
def huIs (l : List Int) (a b : Int) : Bool := decide (3 ≤ l.length ∧ l.length ≤ 4) && (l.all (inB 1 100000) && (falls l && decide (sqs l = a * prd l + b)))
def huGv (a b : Int) : Bool := inB 1 20 a && inB (-50) 50 b
theorem inB_iff {lo hi x : Int} : inB lo hi x = true ↔ lo ≤ x ∧ x ≤ hi := by simp [inB]
theorem all_iff {l : List Int} {lo hi : Int} : l.all (inB lo hi) = true ↔ ∀ x ∈ l, lo ≤ x ∧ x ≤ hi := by simp [List.all_eq_true, inB]

theorem beq_dec (a b : Int) : (a == b) = decide (a = b) := by by_cases h : a = b <;> simp [h]
theorem within_inB (x lo hi : Int) : impl_within.f x lo hi = some (inB lo hi x) := by
  unfold impl_within.f inB
  by_cases h : lo ≤ x <;> simp [h]
theorem huGiven_is (a b : Int) : spec_huGiven.f a b = some (huGv a b) := by
  unfold spec_huGiven.f huGv
  rw [l1In_inB, l1In_inB]
  cases inB 1 20 a <;> rfl
theorem areGiven_is (a b : Int) : impl_areGiven.f a b = some (huGv a b) := by
  unfold impl_areGiven.f huGv
  rw [within_inB, within_inB]
  cases inB 1 20 a <;> rfl

theorem prd_pos {l : List Int} (h : ∀ x ∈ l, 1 ≤ x) : 1 ≤ prd l := by
  induction l with
  | nil => simp [prd]
  | cons x l ih =>
    have h1 := h x (List.mem_cons_self)
    have h2 := ih (fun y hy => h y (List.mem_cons_of_mem _ hy))
    have h3 := Int.mul_le_mul h1 h2 (by omega) (by omega)
    simp only [prd]
    omega
theorem sqs_bd {l : List Int} (h : ∀ x ∈ l, 1 ≤ x ∧ x ≤ 100000) : 0 ≤ sqs l ∧ sqs l ≤ 10000000000 * (l.length : Int) := by
  induction l with
  | nil => simp [sqs]
  | cons x l ih =>
    have h1 := h x (List.mem_cons_self)
    have h2 := ih (fun y hy => h y (List.mem_cons_of_mem _ hy))
    have h3 : x * x ≤ 100000 * 100000 := Int.mul_le_mul h1.2 h1.2 (by omega) (by omega)
    have h4 : 0 ≤ x * x := Int.mul_nonneg (by omega) (by omega)
    simp only [sqs, List.length_cons]
    omega
theorem drop_all {l : List Int} {P : Int → Prop} (h : ∀ x ∈ l, P x) (i : Nat) : ∀ x ∈ l.drop i, P x := fun x hx => h x (List.mem_of_mem_drop hx)
theorem rd_mem {l : List Int} {i : Nat} (h : i < l.length) : rd l (i : Int) ∈ l := by rw [rd_lt l i h]; exact List.getElem_mem h

theorem sq_bd {x : Int} (hx : 1 ≤ x ∧ x ≤ 100000) : 1 ≤ x * x ∧ x * x ≤ 10000000000 := by
  have h3 : x * x ≤ 100000 * 100000 := Int.mul_le_mul hx.2 hx.2 (by omega) (by omega)
  have h4 : 1 * 1 ≤ x * x := Int.mul_le_mul hx.1 hx.1 (by omega) (by omega)
  omega
theorem huSquares_upto (l : List Int) (hl : ∀ x ∈ l, 1 ≤ x ∧ x ≤ 100000) (hn : l.length ≤ 1000000) (d : Nat) : ∀ (i : Nat) (s : Int), i + d = l.length → 0 ≤ s → s + 10000000000 * (d : Int) ≤ 9000000000000000000 → Ev (fun k => spec_huSquares.l0 k s l (l.length : Int) (i : Int)) (s + sqs (l.drop i)) := by
  induction d with
  | zero =>
    intro i s hid h0 h1
    refine Ev.step (f := fun _ => some s) (fun k => by simp only [spec_huSquares.l0]; rw [if_neg (by omega)]) ?_
    rw [List.drop_eq_nil_of_le (by omega), sqs, Int.add_zero]
    exact Ev.is rfl
  | succ d ih =>
    intro i s hid h0 h1
    have hx := sq_bd (hl _ (rd_mem (l := l) (i := i) (by omega)))
    have w1 : wrap64 (rd l (i : Int) * rd l (i : Int)) = rd l (i : Int) * rd l (i : Int) := w64 (by omega) (by omega)
    have w2 : wrap64 (s + rd l (i : Int) * rd l (i : Int)) = s + rd l (i : Int) * rd l (i : Int) := w64 (by omega) (by omega)
    refine Ev.step (f := fun k => spec_huSquares.l0 k (s + rd l (i : Int) * rd l (i : Int)) l (l.length : Int) ((i + 1 : Nat) : Int)) (fun k => ?_) ?_
    · simp only [spec_huSquares.l0]
      rw [if_pos (by omega), if_pos (by omega), if_pos (by omega), w1, w2, w64_succ (n := l.length) (by omega) (by omega)]
    · rw [rd_drop l i (by omega), sqs, ← Int.add_assoc]
      exact ih (i + 1) _ (by omega) (by omega) (by omega)
theorem huSquares_ev (l : List Int) (hl : ∀ x ∈ l, 1 ≤ x ∧ x ≤ 100000) (hn : l.length ≤ 1000000) : Ev (fun k => spec_huSquares.f k l) (sqs l) := by
  unfold spec_huSquares.f
  have h := huSquares_upto l hl hn l.length 0 0 (by omega) (by omega) (by omega)
  rw [List.drop_zero, Int.zero_add] at h
  exact h

theorem cap_mul {y q C : Int} (h0 : 0 ≤ y) (hq : 1 ≤ q) (hC : 0 ≤ C) : min (min y C * q) C = min (y * q) C := by
  by_cases h : y ≤ C
  · rw [Int.min_eq_left h]
  · have h1 : min y C = C := Int.min_eq_right (by omega)
    rw [h1]
    have h2 : C ≤ C * q := by have := Int.mul_le_mul (Int.le_refl C) hq (by omega) hC; omega
    have h3 : y ≤ y * q := by have := Int.mul_le_mul (Int.le_refl y) hq (by omega) h0; omega
    rw [Int.min_eq_right h2, Int.min_eq_right (by omega)]
theorem least_is (a b : Int) : spec_l1Least.f a b = some (min a b) := by
  unfold spec_l1Least.f
  by_cases h : a < b
  · rw [if_pos h, Int.min_eq_left (by omega)]
  · rw [if_neg h, Int.min_eq_right (by omega)]
theorem mul_bd2 {p x P X : Int} (h1 : 0 ≤ p) (h2 : p ≤ P) (h3 : 1 ≤ x) (h4 : x ≤ X) : 0 ≤ p * x ∧ p * x ≤ P * X ∧ p ≤ p * x := by
  have h5 := Int.mul_le_mul (Int.le_refl p) h3 (by omega) h1
  exact ⟨Int.mul_nonneg h1 (by omega), Int.mul_le_mul h2 h4 (by omega) (by omega), by omega⟩
theorem huProduct_upto (l : List Int) (hl : ∀ x ∈ l, 1 ≤ x ∧ x ≤ 100000) (hn : l.length ≤ 1000000) (d : Nat) : ∀ (i : Nat) (p : Int), i + d = l.length → 0 ≤ p → p ≤ 1000000000000 → Ev (fun k => spec_huProduct.l0 k p l (l.length : Int) (i : Int)) (min (p * prd (l.drop i)) 1000000000000) := by
  induction d with
  | zero =>
    intro i p hid h0 h1
    refine Ev.step (f := fun _ => some p) (fun k => by simp only [spec_huProduct.l0]; rw [if_neg (by omega)]) ?_
    rw [List.drop_eq_nil_of_le (by omega), prd, Int.mul_one, Int.min_eq_left h1]
    exact Ev.is rfl
  | succ d ih =>
    intro i p hid h0 h1
    have hx := hl _ (rd_mem (l := l) (i := i) (by omega))
    have hb := mul_bd2 h0 h1 hx.1 hx.2
    have w1 : wrap64 (p * rd l (i : Int)) = p * rd l (i : Int) := w64 (by omega) (by omega)
    refine Ev.step (f := fun k => spec_huProduct.l0 k (min (p * rd l (i : Int)) 1000000000000) l (l.length : Int) ((i + 1 : Nat) : Int)) (fun k => ?_) ?_
    · simp only [spec_huProduct.l0]
      rw [if_pos (by omega), if_pos (by omega), if_pos (by omega), w1, least_is, w64_succ (n := l.length) (by omega) (by omega)]
      rfl
    · have hq := prd_pos (fun x hx => (drop_all hl (i + 1) x hx).1)
      rw [rd_drop l i (by omega), prd, ← Int.mul_assoc, ← cap_mul (by omega) hq (by omega)]
      exact ih (i + 1) _ (by omega) (by omega) (by omega)
theorem huProduct_ev (l : List Int) (a : Int) (ha : 0 ≤ a ∧ a ≤ 1000000000000) (hl : ∀ x ∈ l, 1 ≤ x ∧ x ≤ 100000) (hn : l.length ≤ 1000000) : Ev (fun k => spec_huProduct.f k l a) (min (a * prd l) 1000000000000) := by
  unfold spec_huProduct.f
  have h := huProduct_upto l hl hn l.length 0 a (by omega) ha.1 ha.2
  rw [List.drop_zero] at h
  exact h

theorem huGood_falls (l : List Int) (a b : Int) (r : Bool) (hn : l.length ≤ 1000000) (hend : Ev (fun k => (spec_huSquares.f k l).bind fun t112 => ((spec_huProduct.f k l a).bind fun t113 => (some (t112 == (wrap64 (t113 + b)))))) r) (d : Nat) : ∀ (i : Nat), 1 ≤ i → i + d = l.length → Ev (fun k => spec_huGood.l0 k l a b (i : Int)) (fallsFrom (rd l ((i - 1 : Nat) : Int)) (l.drop i) && r) := by
  induction d with
  | zero =>
    intro i h1 hid
    refine Ev.step (fun k => by simp only [spec_huGood.l0]; rw [if_neg (by omega)]) ?_
    rw [List.drop_eq_nil_of_le (by omega), fallsFrom, Bool.true_and]
    exact hend
  | succ d ih =>
    intro i h1 hid
    have w1 : wrap64 ((i : Int) - 1) = ((i - 1 : Nat) : Int) := by rw [w64 (by omega) (by omega)]; omega
    refine Ev.step (f := fun k => if rd l (i : Int) > rd l ((i - 1 : Nat) : Int) then some false else spec_huGood.l0 k l a b ((i + 1 : Nat) : Int)) (fun k => ?_) ?_
    · simp only [spec_huGood.l0]
      rw [w1, if_pos (by omega), if_pos (by omega), if_pos (by omega), if_pos (by omega), w64_succ (n := l.length) (by omega) (by omega)]
    · rw [rd_drop l i (by omega), fallsFrom]
      by_cases h : rd l (i : Int) > rd l ((i - 1 : Nat) : Int)
      · simp only [h, if_true]
        rw [decide_eq_false (by omega), Bool.false_and, Bool.false_and]
        exact Ev.is rfl
      · simp only [h, if_false]
        rw [decide_eq_true (by omega), Bool.true_and]
        have h2 := ih (i + 1) (by omega) (by omega)
        rw [Nat.add_sub_cancel] at h2
        exact h2
theorem falls_ge (l : List Int) (h : 1 ≤ l.length) : falls l = fallsFrom (rd l ((1 - 1 : Nat) : Int)) (l.drop 1) := by
  cases l with
  | nil => simp at h
  | cons x l => rfl
theorem huGood_ev (l : List Int) (a b : Int) (h : huGv a b = true) (hn : l.length ≤ 4611686018427387904) : Ev (fun k => spec_huGood.f k l a b) (huIs l a b) := by
  unfold spec_huGood.f huIs
  simp only [huGv, inB_iff, Bool.and_eq_true] at h
  rw [l1In_inB]
  refine Ev.bind0 rfl ?_
  by_cases h3 : 3 ≤ l.length ∧ l.length ≤ 4
  · have h4 : inB 3 4 (l.length : Int) = true := by rw [inB_iff]; omega
    rw [h4, decide_eq_true h3, Bool.true_and]
    simp only [if_true]
    refine Ev.bind (l1All_ev l 1 100000 hn) ?_
    cases hA : l.all (inB 1 100000) with
    | false =>
      simp only [Bool.false_and, Bool.not_false]
      exact Ev.step (f := fun _ => some false) (fun k => by simp only [spec_huGood.j0, if_true]) (Ev.is rfl)
    | true =>
      have hl := all_iff.1 hA
      simp only [Bool.true_and, Bool.not_true]
      refine Ev.step (f := fun k => spec_huGood.l0 k l a b ((1 : Nat) : Int)) (fun k => by simp only [spec_huGood.j0, Bool.false_eq_true, if_false]; rfl) ?_
      rw [falls_ge l (by omega)]
      refine huGood_falls l a b _ (by omega) ?_ (l.length - 1) 1 (by omega) (by omega)
      refine Ev.bind (huSquares_ev l hl (by omega)) (Ev.bind (huProduct_ev l a (by omega) hl (by omega)) (Ev.is ?_))
      have hs := sqs_bd hl
      have hp := prd_pos (fun x hx => (hl x hx).1)
      have hap := mul_bd2 (p := a) (x := prd l) (P := 20) (X := prd l) (by omega) (by omega) hp (by omega)
      generalize a * prd l = q at hap
      have w1 : wrap64 (min q 1000000000000 + b) = min q 1000000000000 + b := w64 (by omega) (by omega)
      rw [w1]
      congr 1
      rw [beq_dec]
      exact decide_eq_decide.2 (by omega)
  · have h4 : inB 3 4 (l.length : Int) = false := by rw [Bool.eq_false_iff]; intro h5; rw [inB_iff] at h5; omega
    rw [h4, decide_eq_false h3, Bool.false_and]
    simp only [Bool.false_eq_true, if_false]
    exact Ev.step (f := fun _ => some false) (fun k => by simp only [spec_huGood.j0, if_true]) (Ev.is rfl)

theorem isHurwitz_upto (l : List Int) (hl : ∀ x ∈ l, 1 ≤ x ∧ x ≤ 100000) (hn : l.length ≤ 4) (b : Int) (hb : -50 ≤ b ∧ b ≤ 50) (d : Nat) : ∀ (i : Nat) (s p : Int), i + d = l.length → 0 ≤ s → s + 10000000000 * (d : Int) ≤ 9000000000000000000 → 0 ≤ p → p ≤ 100000000000 → Ev (fun k => impl_isHurwitz.l0 k l b s p l (l.length : Int) (i : Int)) ((if i = 0 then falls (l.drop i) else fallsFrom (rd l ((i - 1 : Nat) : Int)) (l.drop i)) && decide (s + sqs (l.drop i) = min (p * prd (l.drop i)) 100000000000 + b)) := by
  induction d with
  | zero =>
    intro i s p hid h0 h1 h2 h3
    refine Ev.step (f := fun _ => some (s == wrap64 (p + b))) (fun k => by simp only [impl_isHurwitz.l0]; rw [if_neg (by omega)]) ?_
    rw [List.drop_eq_nil_of_le (by omega), sqs, prd, Int.add_zero, Int.mul_one, Int.min_eq_left h3, w64 (by omega) (by omega)]
    refine Ev.is ?_
    rw [beq_dec]
    simp [falls, fallsFrom]
  | succ d ih =>
    intro i s p hid h0 h1 h2 h3
    have hx := hl _ (rd_mem (l := l) (i := i) (by omega))
    have hs := sq_bd hx
    have hp := mul_bd2 h2 h3 hx.1 hx.2
    have w1 : wrap64 (rd l (i : Int) * rd l (i : Int)) = rd l (i : Int) * rd l (i : Int) := w64 (by omega) (by omega)
    have w2 : wrap64 (s + rd l (i : Int) * rd l (i : Int)) = s + rd l (i : Int) * rd l (i : Int) := w64 (by omega) (by omega)
    have w3 : wrap64 (p * rd l (i : Int)) = p * rd l (i : Int) := w64 (by omega) (by omega)
    have hq := prd_pos (fun x hx => (drop_all hl (i + 1) x hx).1)
    have hmn : mn (p * rd l (i : Int)) 100000000000 = min (p * rd l (i : Int)) 100000000000 := by
      unfold mn
      split <;> omega
    have hnext := ih (i + 1) (s + rd l (i : Int) * rd l (i : Int)) (min (p * rd l (i : Int)) 100000000000) (by omega) (by omega) (by omega) (by omega) (by omega)
    rw [if_neg (by omega), Nat.add_sub_cancel, cap_mul (by omega) hq (by omega), Int.add_assoc, Int.mul_assoc] at hnext
    by_cases hi : i = 0
    · subst hi
      refine Ev.step (f := fun k => impl_isHurwitz.l0 k l b (s + rd l ((0 : Nat) : Int) * rd l ((0 : Nat) : Int)) (min (p * rd l ((0 : Nat) : Int)) 100000000000) l (l.length : Int) ((0 + 1 : Nat) : Int)) (fun k => ?_) ?_
      · simp only [impl_isHurwitz.l0]
        rw [if_pos (by omega), if_pos (by omega), if_pos (by omega), if_neg (by omega), w1, w2, w3, hmn, w64_succ (n := l.length) (by omega) (by omega)]
      · rw [if_pos rfl, rd_drop l 0 (by omega), falls, sqs, prd]
        exact hnext
    · have w4 : wrap64 ((i : Int) - 1) = ((i - 1 : Nat) : Int) := by rw [w64 (by omega) (by omega)]; omega
      refine Ev.step (f := fun k => if rd l ((i - 1 : Nat) : Int) < rd l (i : Int) then some false else impl_isHurwitz.l0 k l b (s + rd l (i : Int) * rd l (i : Int)) (min (p * rd l (i : Int)) 100000000000) l (l.length : Int) ((i + 1 : Nat) : Int)) (fun k => ?_) ?_
      · simp only [impl_isHurwitz.l0]
        rw [if_pos (by omega), if_pos (by omega), if_pos (by omega), if_pos (by omega), w4, if_pos (by omega), if_pos (by omega), w1, w2, w3, hmn, w64_succ (n := l.length) (by omega) (by omega)]
      · rw [if_neg hi, rd_drop l i (by omega), fallsFrom, sqs, prd]
        by_cases h : rd l ((i - 1 : Nat) : Int) < rd l (i : Int)
        · simp only [h, if_true]
          rw [decide_eq_false (by omega), Bool.false_and, Bool.false_and]
          exact Ev.is rfl
        · simp only [h, if_false]
          rw [decide_eq_true (by omega), Bool.true_and]
          exact hnext
theorem isHurwitz_ev (l : List Int) (a b : Int) (h : huGv a b = true) : Ev (fun k => impl_isHurwitz.f k l a b) (huIs l a b) := by
  unfold impl_isHurwitz.f huIs
  simp only [huGv, inB_iff, Bool.and_eq_true] at h
  rw [within_inB]
  refine Ev.bind0 rfl ?_
  by_cases h3 : 3 ≤ l.length ∧ l.length ≤ 4
  · have h4 : inB 3 4 (l.length : Int) = true := by rw [inB_iff]; omega
    rw [h4, decide_eq_true h3, Bool.true_and]
    simp only [if_true]
    refine Ev.bind0 rfl ?_
    cases hA : l.all (inB 1 100000) with
    | false =>
      simp only [Bool.false_and, Bool.not_false]
      exact Ev.step (f := fun _ => some false) (fun k => by simp only [impl_isHurwitz.j0, if_true]) (Ev.is rfl)
    | true =>
      have hl := all_iff.1 hA
      simp only [Bool.true_and, Bool.not_true]
      refine Ev.step (f := fun k => impl_isHurwitz.l0 k l b 0 a l (l.length : Int) ((0 : Nat) : Int)) (fun k => by simp only [impl_isHurwitz.j0, Bool.false_eq_true, if_false]; rfl) ?_
      have hE := isHurwitz_upto l hl (by omega) b h.2 l.length 0 0 a (by omega) (by omega) (by omega) (by omega) (by omega)
      rw [if_pos rfl, List.drop_zero, Int.zero_add] at hE
      have hs := sqs_bd hl
      have hp := prd_pos (fun x hx => (hl x hx).1)
      have hap := mul_bd2 (p := a) (x := prd l) (P := 20) (X := prd l) (by omega) (by omega) hp (by omega)
      have he : decide (sqs l = a * prd l + b) = decide (sqs l = min (a * prd l) 100000000000 + b) := by
        generalize a * prd l = q at hap
        exact decide_eq_decide.2 (by omega)
      rw [he]
      exact hE
  · have h4 : inB 3 4 (l.length : Int) = false := by rw [Bool.eq_false_iff]; intro h5; rw [inB_iff] at h5; omega
    rw [h4, decide_eq_false h3, Bool.false_and]
    simp only [Bool.false_eq_true, if_false]
    exact Ev.step (f := fun _ => some false) (fun k => by simp only [impl_isHurwitz.j0, if_true]) (Ev.is rfl)

/-- What a solution's numbers are. -/
theorem huIs_iff {l : List Int} {a b : Int} : huIs l a b = true ↔ (3 ≤ l.length ∧ l.length ≤ 4) ∧ (∀ x ∈ l, 1 ≤ x ∧ x ≤ 100000) ∧ falls l = true ∧ sqs l = a * prd l + b := by
  simp only [huIs, Bool.and_eq_true, decide_eq_true_eq, all_iff]

/-- The other root. -/
def oth (l : List Int) (a : Int) (i : Nat) : Int := a * prd (l.eraseIdx i) - rd l (i : Int)
def prdBut (i : Nat) : Nat → List Int → Int
  | _, [] => 1
  | j, x :: l => (if j = i then 1 else x) * prdBut i (j + 1) l
theorem prdBut_past (i : Nat) (l : List Int) : ∀ j, i < j → prdBut i j l = prd l := by
  induction l with
  | nil => intro j h; rfl
  | cons x l ih =>
    intro j h
    rw [prdBut, prd, if_neg (by omega), ih (j + 1) (by omega)]
theorem prdBut_erase (l : List Int) : ∀ (j i : Nat), prdBut (j + i) j l = prd (l.eraseIdx i) := by
  induction l with
  | nil => intro j i; rfl
  | cons x l ih =>
    intro j i
    cases i with
    | zero => rw [prdBut, if_pos (by omega), Int.one_mul, List.eraseIdx_cons_zero, prdBut_past _ _ _ (by omega)]
    | succ i => rw [prdBut, if_neg (by omega), List.eraseIdx_cons_succ, prd, show j + (i + 1) = (j + 1) + i by omega, ih (j + 1) i]
theorem prdBut_pos (i : Nat) (l : List Int) (h : ∀ x ∈ l, 1 ≤ x) : ∀ j, 1 ≤ prdBut i j l := by
  induction l with
  | nil => intro j; simp [prdBut]
  | cons x l ih =>
    intro j
    have h1 := h x List.mem_cons_self
    have h2 := ih (fun y hy => h y (List.mem_cons_of_mem _ hy)) (j + 1)
    rw [prdBut]
    split
    · omega
    · have := Int.mul_le_mul h1 h2 (by omega) (by omega)
      omega
theorem otherRoot_upto (l : List Int) (hl : ∀ x ∈ l, 1 ≤ x ∧ x ≤ 100000) (hn : l.length ≤ 1000000) (t : Nat) (ht : t < l.length) (d : Nat) : ∀ (i : Nat) (p : Int), i + d = l.length → 1 ≤ p → p * prdBut t i (l.drop i) ≤ 1000000000000 → Ev (fun k => impl_otherRoot.l0 k l (t : Int) p l (l.length : Int) (i : Int)) (p * prdBut t i (l.drop i) - rd l (t : Int)) := by
  have hr := hl _ (rd_mem ht)
  induction d with
  | zero =>
    intro i p hid h0 h1
    rw [List.drop_eq_nil_of_le (by omega), prdBut, Int.mul_one] at h1 ⊢
    refine Ev.step (f := fun _ => some (p - rd l (t : Int))) (fun k => by simp only [impl_otherRoot.l0]; rw [if_neg (by omega), if_pos (by omega), if_pos (by omega), w64 (by omega) (by omega)]) (Ev.is rfl)
  | succ d ih =>
    intro i p hid h0 h1
    have hx := hl _ (rd_mem (l := l) (i := i) (by omega))
    rw [rd_drop l i (by omega), prdBut] at h1 ⊢
    have hq := prdBut_pos t (l.drop (i + 1)) (fun x hx => (drop_all hl (i + 1) x hx).1) (i + 1)
    by_cases h : i = t
    · subst h
      rw [if_pos rfl, Int.one_mul] at h1 ⊢
      refine Ev.step (f := fun k => impl_otherRoot.l0 k l (i : Int) p l (l.length : Int) ((i + 1 : Nat) : Int)) (fun k => ?_) (ih (i + 1) p (by omega) h0 h1)
      simp only [impl_otherRoot.l0]
      rw [if_pos (by omega), if_pos (by omega), if_pos (by omega), if_pos trivial, w64_succ (n := l.length) (by omega) (by omega)]
    · rw [if_neg h, ← Int.mul_assoc] at h1 ⊢
      have hb := mul_bd2 (p := p) (P := p) (by omega) (by omega) hx.1 hx.2
      have hb2 := mul_bd2 (p := p * rd l (i : Int)) (P := p * rd l (i : Int)) (by omega) (by omega) hq (Int.le_refl _)
      refine Ev.step (f := fun k => impl_otherRoot.l0 k l (t : Int) (p * rd l (i : Int)) l (l.length : Int) ((i + 1 : Nat) : Int)) (fun k => ?_) (ih (i + 1) _ (by omega) (by omega) h1)
      simp only [impl_otherRoot.l0]
      rw [if_pos (by omega), if_pos (by omega), if_pos (by omega), if_neg (by omega), w64 (x := p * rd l (i : Int)) (by omega) (by omega), w64_succ (n := l.length) (by omega) (by omega)]
theorem otherRoot_ev (l : List Int) (a : Int) (i : Nat) (hl : ∀ x ∈ l, 1 ≤ x ∧ x ≤ 100000) (hn : l.length ≤ 1000000) (hi : i < l.length) (ha : 1 ≤ a) (hp : a * prd (l.eraseIdx i) ≤ 1000000000000) : Ev (fun k => impl_otherRoot.f k l a (i : Int)) (oth l a i) := by
  unfold impl_otherRoot.f oth
  have he := prdBut_erase l 0 i
  rw [Nat.zero_add] at he
  have h := otherRoot_upto l hl hn i hi l.length 0 a (by omega) ha (by rw [List.drop_zero, he]; exact hp)
  rw [List.drop_zero, he] at h
  exact h
theorem own_is (l : List Int) (h : l.length < 17592186044416) : spec_l1Own.f l = some l := by
  unfold spec_l1Own.f
  simp [h]
theorem huOther_ev (l : List Int) (a : Int) (i : Nat) (hl : ∀ x ∈ l, 1 ≤ x ∧ x ≤ 100000) (hn : l.length ≤ 1000000) (hi : i < l.length) (ha : 1 ≤ a ∧ a ≤ 1000000000000) (hp : a * prd (l.eraseIdx i) ≤ 1000000000000) : Ev (fun k => spec_huOther.f k l a (i : Int)) (oth l a i) := by
  unfold spec_huOther.f oth
  have w1 : wrap64 ((i : Int) + 1) = ((i + 1 : Nat) : Int) := w64_succ (n := l.length) hi (by omega)
  simp only [w1, Int.toNat_natCast]
  have hr := hl _ (rd_mem hi)
  have c1 : (0 : Int) ≤ (i : Int) := by omega
  have c2 : (i : Int) ≤ (l.length : Int) := by omega
  have c3 : (0 : Int) ≤ ((i + 1 : Nat) : Int) := by omega
  have c4 : ((i + 1 : Nat) : Int) ≤ (l.length : Int) := by omega
  have c5 : (i : Int) < (l.length : Int) := by omega
  simp only [c1, c2, c3, c4, c5, if_true]
  refine Ev.bind0 (own_is _ (by rw [List.length_take]; omega)) ?_
  have hlen : (l.take i).length + (l.drop (i + 1)).length < 17592186044416 := by rw [List.length_take, List.length_drop]; omega
  simp only [hlen, if_true]
  have he : l.take i ++ l.drop (i + 1) = l.eraseIdx i := (List.eraseIdx_eq_take_drop_succ ..).symm
  rw [he]
  have hle : ∀ x ∈ l.eraseIdx i, 1 ≤ x ∧ x ≤ 100000 := fun x hx => hl x (List.mem_of_mem_eraseIdx hx)
  have hq := prd_pos (fun x hx => (hle x hx).1)
  have hb := mul_bd2 (p := a) (P := a) (by omega) (by omega) hq (Int.le_refl _)
  refine Ev.bind (huProduct_ev (l.eraseIdx i) a (by omega) hle (by have := List.length_eraseIdx_le l i; omega)) (Ev.is ?_)
  rw [Int.min_eq_left hp, w64 (by omega) (by omega)]
/-- The product is one number times the others'. -/
theorem prd_erase (l : List Int) (i : Nat) (hi : i < l.length) : prd l = rd l (i : Int) * prd (l.eraseIdx i) := by
  induction l generalizing i with
  | nil => simp at hi
  | cons x l ih =>
    cases i with
    | zero => simp [prd, rd]
    | succ i =>
      have h1 : i < l.length := by simpa using hi
      rw [List.eraseIdx_cons_succ, prd, prd, ih i h1, rd_lt _ _ hi, rd_lt _ _ h1, List.getElem_cons_succ]
      grind
theorem sqs_mem (l : List Int) (i : Nat) (hi : i < l.length) : sqs l = rd l (i : Int) * rd l (i : Int) + sqs (l.eraseIdx i) := by
  induction l generalizing i with
  | nil => simp at hi
  | cons x l ih =>
    cases i with
    | zero => simp [sqs, rd]
    | succ i =>
      have h1 : i < l.length := by simpa using hi
      rw [List.eraseIdx_cons_succ, sqs, sqs, ih i h1, rd_lt _ _ hi, rd_lt _ _ h1, List.getElem_cons_succ]
      omega
/-- In a solution the others' product is not too great. -/
theorem huIs_bd {l : List Int} {a b : Int} (hg : huGv a b = true) (h : huIs l a b = true) (i : Nat) (hi : i < l.length) : 1 ≤ a ∧ a ≤ 20 ∧ 1 ≤ a * prd (l.eraseIdx i) ∧ a * prd (l.eraseIdx i) ≤ 40000000050 := by
  obtain ⟨h1, h2, h3, h4⟩ := huIs_iff.1 h
  simp only [huGv, inB_iff, Bool.and_eq_true] at hg
  have hs := sqs_bd h2
  have hr := h2 _ (rd_mem hi)
  have hq := prd_pos (l := l.eraseIdx i) (fun x hx => (h2 x (List.mem_of_mem_eraseIdx hx)).1)
  rw [prd_erase l i hi] at h4
  have hb := mul_bd2 (p := a) (P := a) (by omega) (by omega) hq (Int.le_refl _)
  have hb2 := mul_bd2 (p := a * prd (l.eraseIdx i)) (P := a * prd (l.eraseIdx i)) (by omega) (by omega) hr.1 hr.2
  have he : a * (rd l (i : Int) * prd (l.eraseIdx i)) = a * prd (l.eraseIdx i) * rd l (i : Int) := by grind
  rw [he] at h4
  omega
theorem other_both {l : List Int} {a b : Int} (hg : huGv a b = true) (h : huIs l a b = true) (i : Nat) (hi : i < l.length) : Ev (fun k => impl_otherRoot.f k l a (i : Int)) (oth l a i) ∧ Ev (fun k => spec_huOther.f k l a (i : Int)) (oth l a i) := by
  have hb := huIs_bd hg h i hi
  obtain ⟨h1, h2, h3, h4⟩ := huIs_iff.1 h
  exact ⟨otherRoot_ev l a i h2 (by omega) hi (by omega) (by omega), huOther_ev l a i h2 (by omega) hi (by omega) (by omega)⟩
end Go.Proofs.Ytfdjbcbhlfjogaa.P
