/- Turns are told in order, mirrored twice letters are the same, and neighbours of a word have its factors. No condition. -/
import Derived.Test.YtkphmbcoefkilaaPackFnLettersTurned3
import Derived.Laws.BitsLemmas
-- Uletters
namespace Go.Proofs.Ytkphmbcoefkilaa.P
set_option linter.unusedVariables false
set_option linter.unusedSimpArgs false
open Go.RowKit Go.Proofs.YtkphmbcoefkilaaW.PrintWords Go.Proofs.YtkphmbcoefkilaaW.PrintLast

/-- A text of 1 to 40 letters a and b. -/
def isLet (s : ByteArray) : Bool := decide (1 ≤ s.size) && (decide (s.size ≤ 40) && (bytesOf s).all (oneOf 97 98))
theorem bytes_drop (s : ByteArray) (i : Nat) (h : i < s.size) : (bytesOf s).drop i = bt s (i : Int) :: (bytesOf s).drop (i + 1) := by
  rw [rd_drop _ i (by rw [bytesOf_length]; exact h), rd_bytesOf]
theorem chLetters_from (s : ByteArray) (hn : s.size ≤ 4611686018427387904) (d : Nat) : ∀ i : Nat, i + d = s.size → Ev (fun k => spec_chLetters.l0 k s (i : Int)) (((bytesOf s).drop i).all (oneOf 97 98)) := by
  induction d with
  | zero =>
    intro i hi
    refine Ev.step (fun k => by simp only [spec_chLetters.l0]; rw [if_neg (by omega)]) ?_
    rw [List.drop_eq_nil_of_le (by rw [bytesOf_length]; omega)]
    exact Ev.is rfl
  | succ d ih =>
    intro i hi
    refine Ev.step (fun k => by simp only [spec_chLetters.l0]; rw [if_pos (by omega), if_pos (by omega), w64_succ (n := s.size) (by omega) hn]) ?_
    rw [bytes_drop s i (by omega), List.all_cons]
    by_cases h1 : bt s (i : Int) = 97
    · have e : oneOf 97 98 (bt s (i : Int)) = true := by simp [oneOf, h1]
      simp only [h1, if_true]
      rw [h1] at e
      rw [e, Bool.true_and]
      exact ih (i + 1) (by omega)
    · by_cases h2 : bt s (i : Int) = 98
      · have e : oneOf 97 98 (bt s (i : Int)) = true := by simp [oneOf, h2]
        simp only [h2, if_true, if_false]
        rw [h2] at e
        rw [e, Bool.true_and]
        exact ih (i + 1) (by omega)
      · have e : oneOf 97 98 (bt s (i : Int)) = false := by simp [oneOf, h1, h2]
        simp only [h1, h2, if_false]
        rw [e]
        exact Ev.is rfl
theorem chLetters_ev (s : ByteArray) : Ev (fun k => spec_chLetters.f k s) (isLet s) := by
  unfold spec_chLetters.f spec_l1In.f isLet
  by_cases h1 : 1 ≤ s.size
  · have e1 : (s.size : Int) ≥ 1 := by omega
    rw [decide_eq_true h1, Bool.true_and]
    by_cases h2 : s.size ≤ 40
    · have e2 : decide ((s.size : Int) ≤ 40) = true := decide_eq_true (by omega)
      simp only [e1, e2, if_true, Option.bind_some]
      rw [decide_eq_true h2, Bool.true_and]
      exact chLetters_from s (by omega) s.size 0 (by omega)
    · have e2 : decide ((s.size : Int) ≤ 40) = false := decide_eq_false (by omega)
      simp only [e1, e2, if_true, Option.bind_some]
      rw [decide_eq_false h2]
      exact Ev.is rfl
  · have e1 : ¬ (s.size : Int) ≥ 1 := by omega
    simp only [e1, if_false, Option.bind_some]
    rw [decide_eq_false h1]
    exact Ev.is rfl
theorem impl_IsLetters_is (s : ByteArray) : impl_IsLetters.f s = some (isLet s) := by
  unfold impl_IsLetters.f impl_isWord.f isLet
  have hl : s.toList.length = s.size := by rw [ByteArray.toList_eq, data_length]
  by_cases h1 : 1 ≤ s.size
  · have e : ¬ s.toList = [] := by
      intro h
      rw [h] at hl
      simp at hl
      omega
    rw [if_neg e, decide_eq_true h1, Bool.true_and]
    simp only [Option.bind_some]
    congr 2
    exact decide_eq_decide.2 (by omega)
  · have e : s.toList = [] := List.eq_nil_of_length_eq_zero (by omega)
    rw [if_pos e, decide_eq_false h1]
    rfl
end Go.Proofs.Ytkphmbcoefkilaa.P

-- Ugcd
namespace Go.Proofs.Ytkphmbcoefkilaa.P
set_option linter.unusedVariables false
set_option linter.unusedSimpArgs false
open Go.RowKit Go.Proofs.YtkphmbcoefkilaaW.PrintWords Go.Proofs.YtkphmbcoefkilaaW.PrintLast Go.Proofs.YtkphmbcoefkilaaW.PrintMore

theorem gcd_step (a b : Int) (h : ¬ b = 0) : Int.gcd a b = Int.gcd b (Int.tmod a b) := by
  unfold Int.gcd
  rw [Int.natAbs_tmod, Nat.gcd_comm a.natAbs, Nat.gcd_rec b.natAbs a.natAbs, Nat.gcd_comm]
theorem abs_both (a : Int) (h1 : -9223372036854775807 ≤ a) (h2 : a ≤ 9223372036854775807) : spec_l1Abs.f a = some (a.natAbs : Int) ∧ mx a (wrap64 (-a)) = (a.natAbs : Int) := by
  have hw : wrap64 (-a) = -a := w64 (by omega) (by omega)
  unfold spec_l1Abs.f spec_l1Most.f mx
  rw [hw]
  constructor
  · by_cases h : a > -a
    · simp only [h, if_true, Option.bind_some]
      congr 1
      omega
    · simp only [h, if_false, Option.bind_some]
      congr 1
      omega
  · by_cases h : a < -a
    · rw [if_pos h]; omega
    · rw [if_neg h]; omega
theorem gcd_both (d : Nat) : ∀ a b : Int, b.natAbs ≤ d → -9223372036854775807 ≤ a → a ≤ 9223372036854775807 → -9223372036854775807 ≤ b → b ≤ 9223372036854775807 →
    Ev (fun k => spec_foGcd.f k a b) (Int.gcd a b : Int) ∧ Ev (fun k => impl_divisor.l0 k a b) (Int.gcd a b : Int) := by
  induction d with
  | zero =>
    intro a b hb h1 h2 h3 h4
    obtain rfl : b = 0 := by omega
    obtain ⟨e1, e2⟩ := abs_both a h1 h2
    have e3 : (Int.gcd a 0 : Int) = (a.natAbs : Int) := by simp
    rw [e3]
    constructor
    · refine Ev.step (f := fun _ => some (a.natAbs : Int)) (fun k => ?_) (Ev.is rfl)
      simp only [spec_foGcd.f, if_true, e1, Option.bind_some]
    · refine Ev.step (f := fun _ => some (a.natAbs : Int)) (fun k => ?_) (Ev.is rfl)
      simp only [impl_divisor.l0, if_true, e2]
  | succ d ih =>
    intro a b hb h1 h2 h3 h4
    by_cases hz : b = 0
    · subst hz
      obtain ⟨e1, e2⟩ := abs_both a h1 h2
      have e3 : (Int.gcd a 0 : Int) = (a.natAbs : Int) := by simp
      rw [e3]
      constructor
      · refine Ev.step (f := fun _ => some (a.natAbs : Int)) (fun k => ?_) (Ev.is rfl)
        simp only [spec_foGcd.f, if_true, e1, Option.bind_some]
      · refine Ev.step (f := fun _ => some (a.natAbs : Int)) (fun k => ?_) (Ev.is rfl)
        simp only [impl_divisor.l0, if_true, e2]
    · have hn := Int.natAbs_tmod a b
      have hlt : a.natAbs % b.natAbs < b.natAbs := Nat.mod_lt _ (by omega)
      obtain ⟨i1, i2⟩ := ih b (Int.tmod a b) (by omega) h3 h4 (by omega) (by omega)
      rw [gcd_step a b hz]
      constructor
      · refine Ev.step (f := fun k => (spec_foGcd.f k b (Int.tmod a b)).bind fun t => some t) (fun k => ?_) (Ev.bind i1 (Ev.is rfl))
        simp only [spec_foGcd.f, hz, if_false]
      · refine Ev.step (f := fun k => impl_divisor.l0 k b (Int.tmod a b)) (fun k => ?_) i2
        simp only [impl_divisor.l0, hz, if_false]
theorem foGcd_ev (a b : Int) (h1 : -9223372036854775807 ≤ a) (h2 : a ≤ 9223372036854775807) (h3 : -9223372036854775807 ≤ b) (h4 : b ≤ 9223372036854775807) : Ev (fun k => spec_foGcd.f k a b) (Int.gcd a b : Int) :=
  (gcd_both b.natAbs a b (Nat.le_refl _) h1 h2 h3 h4).1
theorem divisor_ev (a b : Int) (h1 : -9223372036854775807 ≤ a) (h2 : a ≤ 9223372036854775807) (h3 : -9223372036854775807 ≤ b) (h4 : b ≤ 9223372036854775807) : Ev (fun k => impl_divisor.f k a b) (Int.gcd a b : Int) :=
  (gcd_both b.natAbs a b (Nat.le_refl _) h1 h2 h3 h4).2
end Go.Proofs.Ytkphmbcoefkilaa.P

-- Uchristoffel
namespace Go.Proofs.Ytkphmbcoefkilaa.P
set_option linter.unusedVariables false
set_option linter.unusedSimpArgs false
open Go.RowKit Go.Proofs.YtkphmbcoefkilaaW.PrintWords Go.Proofs.YtkphmbcoefkilaaW.PrintLast Go.Proofs.YtkphmbcoefkilaaW.PrintMore

/-- The letter with an index: 97 or 98. -/
def chLet (b n i : Int) : Int := if i * b / n = (i + 1) * b / n then 97 else 98
/-- The letters of a word, from one on. -/
def chLets (b n : Int) (i : Nat) : Nat → List Int
  | 0 => []
  | d + 1 => chLet b n i :: chLets b n (i + 1) d
theorem chLets_length (b n : Int) (d : Nat) : ∀ i, (chLets b n i d).length = d := by
  induction d with
  | zero => intro i; rfl
  | succ d ih => intro i; simp [chLets, ih]
theorem strOfNums_append (xs ys : List Int) : strOfNums xs ++ strOfNums ys = strOfNums (xs ++ ys) := by
  unfold strOfNums
  apply ByteArray.ext
  simp
theorem strOfNums_size (xs : List Int) : (strOfNums xs).size = xs.length := by
  unfold strOfNums
  simp [ByteArray.size]
theorem chWord_from (b : Int) (hb : 0 ≤ b ∧ b ≤ 40) (n : Nat) (hn : n ≤ 40) (d : Nat) : ∀ (i : Nat) (xs : List Int), i + d = n → xs.length = i → Ev (fun k => spec_chWord.l0 k b (n : Int) (strOfNums xs) (i : Int)) (strOfNums (xs ++ chLets b n i d)) := by
  induction d with
  | zero =>
    intro i xs hi hx
    refine Ev.step (f := fun _ => some (strOfNums xs)) (fun k => ?_) (Ev.is (by simp [chLets]))
    simp only [spec_chWord.l0]
    rw [if_neg (by omega)]
  | succ d ih =>
    intro i xs hi hx
    have b1 : 0 ≤ (i : Int) * b ∧ (i : Int) * b ≤ 40 * 40 := ⟨Int.mul_nonneg (by omega) hb.1, Int.mul_le_mul (by omega) hb.2 hb.1 (by omega)⟩
    have b2 : 0 ≤ ((i : Int) + 1) * b ∧ ((i : Int) + 1) * b ≤ 40 * 40 := ⟨Int.mul_nonneg (by omega) hb.1, Int.mul_le_mul (by omega) hb.2 hb.1 (by omega)⟩
    have w1 : wrap64 ((i : Int) * b) = i * b := w64 (by omega) (by omega)
    have w2 : wrap64 ((i : Int) + 1) = i + 1 := w64 (by omega) (by omega)
    have w3 : wrap64 (((i : Int) + 1) * b) = (i + 1) * b := w64 (by omega) (by omega)
    have t1 : Int.tdiv ((i : Int) * b) n = i * b / n := Int.tdiv_eq_ediv_of_nonneg b1.1
    have t2 : Int.tdiv (((i : Int) + 1) * b) n = (i + 1) * b / n := Int.tdiv_eq_ediv_of_nonneg b2.1
    have q1 : 0 ≤ (i : Int) * b / n := Int.ediv_nonneg b1.1 (by omega)
    have q2 : (i : Int) * b / n ≤ i * b := Int.ediv_le_self _ b1.1
    have q3 : 0 ≤ ((i : Int) + 1) * b / n := Int.ediv_nonneg b2.1 (by omega)
    have q4 : ((i : Int) + 1) * b / n ≤ (i + 1) * b := Int.ediv_le_self _ b2.1
    have w4 : wrap64 ((i : Int) * b / n) = i * b / n := w64 (by omega) (by omega)
    have w5 : wrap64 (((i : Int) + 1) * b / n) = (i + 1) * b / n := w64 (by omega) (by omega)
    have hs : (strOfNums xs).size + 1 ≤ 9223372036854775807 := by rw [strOfNums_size]; omega
    have hc : ((i : Int) + 1) = ((i + 1 : Nat) : Int) := by omega
    have a97 : strOfNums xs ++ (⟨#[97]⟩ : ByteArray) = strOfNums (xs ++ [97]) := strOfNums_append xs [97]
    have a98 : strOfNums xs ++ (⟨#[98]⟩ : ByteArray) = strOfNums (xs ++ [98]) := strOfNums_append xs [98]
    have e : xs ++ chLets b n i (d + 1) = (xs ++ [chLet b n i]) ++ chLets b n (i + 1) d := by simp [chLets]
    rw [e]
    refine Ev.step (f := fun k => spec_chWord.l0 k b (n : Int) (strOfNums (xs ++ [chLet b n i])) ((i + 1 : Nat) : Int)) (fun k => ?_) (ih (i + 1) _ (by omega) (by simp [hx]))
    simp only [spec_chWord.l0]
    rw [if_pos (by omega), if_neg (by omega), w1, w2, w3, t1, t2, w4, w5, if_pos hs, a97, a98]
    unfold chLet
    by_cases h : (i : Int) * b / n = (i + 1) * b / n
    · rw [if_pos h, if_pos h, hc]
    · rw [if_neg h, if_neg h, if_pos hs, hc]
theorem christoffel_from (b : Int) (hb : 0 ≤ b ∧ b ≤ 40) (n : Nat) (hn : n ≤ 40) (d : Nat) : ∀ (i : Nat) (xs : List Int), i + d = n → xs.length = i → Ev (fun k => impl_christoffel.l0 k b (n : Int) xs (n : Int) (i : Int)) (strOfNums (xs ++ chLets b n i d)) := by
  induction d with
  | zero =>
    intro i xs hi hx
    refine Ev.step (f := fun _ => some (strOfNums xs)) (fun k => ?_) (Ev.is (by simp [chLets]))
    simp only [impl_christoffel.l0]
    rw [if_neg (by omega)]
  | succ d ih =>
    intro i xs hi hx
    have b1 : 0 ≤ (i : Int) * b ∧ (i : Int) * b ≤ 40 * 40 := ⟨Int.mul_nonneg (by omega) hb.1, Int.mul_le_mul (by omega) hb.2 hb.1 (by omega)⟩
    have b2 : 0 ≤ ((i : Int) + 1) * b ∧ ((i : Int) + 1) * b ≤ 40 * 40 := ⟨Int.mul_nonneg (by omega) hb.1, Int.mul_le_mul (by omega) hb.2 hb.1 (by omega)⟩
    have w1 : wrap64 ((i : Int) * b) = i * b := w64 (by omega) (by omega)
    have w2 : wrap64 ((i : Int) + 1) = i + 1 := w64 (by omega) (by omega)
    have w3 : wrap64 (((i : Int) + 1) * b) = (i + 1) * b := w64 (by omega) (by omega)
    have t1 : Int.tdiv ((i : Int) * b) n = i * b / n := Int.tdiv_eq_ediv_of_nonneg b1.1
    have t2 : Int.tdiv (((i : Int) + 1) * b) n = (i + 1) * b / n := Int.tdiv_eq_ediv_of_nonneg b2.1
    have q1 : 0 ≤ (i : Int) * b / n := Int.ediv_nonneg b1.1 (by omega)
    have q2 : (i : Int) * b / n ≤ i * b := Int.ediv_le_self _ b1.1
    have q3 : 0 ≤ ((i : Int) + 1) * b / n := Int.ediv_nonneg b2.1 (by omega)
    have q4 : ((i : Int) + 1) * b / n ≤ (i + 1) * b := Int.ediv_le_self _ b2.1
    have w4 : wrap64 ((i : Int) * b / n) = i * b / n := w64 (by omega) (by omega)
    have w5 : wrap64 (((i : Int) + 1) * b / n) = (i + 1) * b / n := w64 (by omega) (by omega)
    have hs : xs.length < 140737488355328 := by omega
    have hc : ((i : Int) + 1) = ((i + 1 : Nat) : Int) := by omega
    have e : xs ++ chLets b n i (d + 1) = (xs ++ [chLet b n i]) ++ chLets b n (i + 1) d := by simp [chLets]
    rw [e]
    refine Ev.step (f := fun k => impl_christoffel.l0 k b (n : Int) (xs ++ [chLet b n i]) (n : Int) ((i + 1 : Nat) : Int)) (fun k => ?_) (ih (i + 1) _ (by omega) (by simp [hx]))
    simp only [impl_christoffel.l0]
    rw [if_pos (by omega), if_neg (by omega), w1, w2, w3, t1, t2, w4, w5]
    unfold chLet
    by_cases h : (i : Int) * b / n = (i + 1) * b / n
    · rw [if_pos h, if_pos h, if_pos hs, hc]
    · rw [if_neg h, if_neg h, if_pos hs, hc]
/-- The Christoffel word of so many letters. -/
def chText (a b : Int) : ByteArray := strOfNums (chLets b (a + b) 0 (a + b).toNat)
theorem chText_both (a b : Int) (ha : 0 ≤ a) (hb : 0 ≤ b) (hn : a + b ≤ 40) : Ev (fun k => spec_chWord.f k a b) (chText a b) ∧ Ev (fun k => impl_christoffel.f k a b) (chText a b) := by
  unfold spec_chWord.f impl_christoffel.f chText
  have hw : wrap64 (a + b) = (((a + b).toNat : Nat) : Int) := by rw [w64 (by omega) (by omega)]; omega
  have hc : (((a + b).toNat : Nat) : Int) = a + b := by omega
  rw [hw]
  have h1 := chWord_from b (by omega) (a + b).toNat (by omega) (a + b).toNat 0 [] (by omega) rfl
  have h2 := christoffel_from b (by omega) (a + b).toNat (by omega) (a + b).toNat 0 [] (by omega) rfl
  rw [List.nil_append, hc] at h1 h2
  rw [hc]
  exact ⟨h1, h2⟩
end Go.Proofs.Ytkphmbcoefkilaa.P

-- PFspecCentreOf
namespace Go.Proofs.Ytkphmbcoefkilaa.P
open Go.RowKit Go.Proofs.YtkphmbcoefkilaaW.PrintWords Go.Proofs.YtkphmbcoefkilaaW.PrintLast
set_option linter.unusedVariables false
set_option linter.unusedSimpArgs false

/-! ### spec_CentreOf: function 20 -/
end Go.Proofs.Ytkphmbcoefkilaa.P

-- PFspecChristoffelOf
namespace Go.Proofs.Ytkphmbcoefkilaa.P
open Go.RowKit Go.Proofs.YtkphmbcoefkilaaW.PrintWords Go.Proofs.YtkphmbcoefkilaaW.PrintLast
set_option linter.unusedVariables false
set_option linter.unusedSimpArgs false

/-! ### spec_ChristoffelOf: function 41 -/
end Go.Proofs.Ytkphmbcoefkilaa.P

-- PFimplChristoffelOf
namespace Go.Proofs.Ytkphmbcoefkilaa.P
open Go.RowKit Go.Proofs.YtkphmbcoefkilaaW.PrintWords Go.Proofs.YtkphmbcoefkilaaW.PrintLast
set_option linter.unusedVariables false
set_option linter.unusedSimpArgs false

/-! ### impl_ChristoffelOf: function 38 -/
end Go.Proofs.Ytkphmbcoefkilaa.P

-- UChristoffelOf
namespace Go.Proofs.Ytkphmbcoefkilaa.P
set_option linter.unusedVariables false
set_option linter.unusedSimpArgs false
open Go.RowKit Go.Proofs.YtkphmbcoefkilaaW.PrintWords Go.Proofs.YtkphmbcoefkilaaW.PrintLast Go.Proofs.YtkphmbcoefkilaaW.PrintMore

theorem in_is (x lo hi : Int) : spec_l1In.f x lo hi = some (decide (lo ≤ x ∧ x ≤ hi)) := by
  unfold spec_l1In.f
  by_cases h : x ≥ lo
  · rw [if_pos h]
    congr 1
    exact decide_eq_decide.2 (by omega)
  · rw [if_neg h, decide_eq_false (by omega)]
theorem within_is (x lo hi : Int) : impl_within.f x lo hi = some (decide (lo ≤ x ∧ x ≤ hi)) := in_is x lo hi
end Go.Proofs.Ytkphmbcoefkilaa.P

-- PFspecIsChristoffel
namespace Go.Proofs.Ytkphmbcoefkilaa.P
open Go.RowKit Go.Proofs.YtkphmbcoefkilaaW.PrintWords Go.Proofs.YtkphmbcoefkilaaW.PrintLast
set_option linter.unusedVariables false
set_option linter.unusedSimpArgs false

/-! ### spec_IsChristoffel: function 18 -/
end Go.Proofs.Ytkphmbcoefkilaa.P

-- Udraw
namespace Go.Proofs.Ytkphmbcoefkilaa.P
set_option linter.unusedVariables false
set_option linter.unusedSimpArgs false
open Go.RowKit Go.Proofs.YtkphmbcoefkilaaW.PrintWords Go.Proofs.YtkphmbcoefkilaaW.PrintLast Go.Proofs.YtkphmbcoefkilaaW.PrintMore

theorem wrap_u64 (n : Int) : IntKind.u64.wrap n = n % 18446744073709551616 := by simp [IntKind.wrap, IntKind.bits, IntKind.signed]
theorem mask255 (n : Int) : ∃ v, wrap64 (Go.bits .and .u64 (IntKind.u64.wrap n / 1099511627776) 255) = v ∧ 0 ≤ v ∧ v ≤ 255 := by
  have h0 : 0 ≤ IntKind.u64.wrap n := by rw [wrap_u64]; omega
  have h1 : IntKind.u64.wrap n < 18446744073709551616 := by rw [wrap_u64]; omega
  generalize IntKind.u64.wrap n = m at h0 h1
  have h2 : Go.bits .and .u64 (m / 1099511627776) 255 = (m / 1099511627776) % 256 :=
    bits_mask .u64 64 (by decide) (fun n a b => by rw [wrap_u64]; have : (2 : Int) ^ 64 = 18446744073709551616 := by decide
                                                   omega) 8 (by decide) _ (by omega) (by have : (2 : Int) ^ 64 = 18446744073709551616 := by decide
                                                                                         omega)
  rw [h2]
  exact ⟨_, rfl, by rw [w64 (by omega) (by omega)]; omega, by rw [w64 (by omega) (by omega)]; omega⟩
def Bytes (code : List Int) : Prop := ∀ x ∈ code, 0 ≤ x ∧ x ≤ 255
theorem bytes_of_u8 {code : List Int} (h : ∀ x ∈ code, (Lit.int .u8 x).wf = true) : Bytes code := fun x hx => by
  have := h x hx
  simp [Lit.wf, IntKind.min, IntKind.max, IntKind.signed, IntKind.bits] at this
  omega
theorem next_ok (code : List Int) (hc : Bytes code) (at_ seed : Int) (h0 : 0 ≤ at_) (h1 : at_ ≤ 1000000000) : ∃ v seed', spec_l1Cur_next.f code at_ seed = some (v, at_ + 1, seed') ∧ 0 ≤ v ∧ v ≤ 255 := by
  have w1 : wrap64 (at_ + 1) = at_ + 1 := w64 (by omega) (by omega)
  unfold spec_l1Cur_next.f
  rw [w1]
  by_cases h2 : at_ < (code.length : Int)
  · have hm : rd code at_ ∈ code := by
      have h3 : at_.toNat < code.length := by omega
      have h4 : rd code at_ = code[at_.toNat] := by
        have := rd_lt code at_.toNat h3
        rwa [Int.toNat_of_nonneg h0] at this
      rw [h4]
      exact List.getElem_mem h3
    have hb := hc _ hm
    have w2 : wrap64 (rd code at_) = rd code at_ := w64 (by omega) (by omega)
    rw [if_pos h2, if_pos h0, if_pos (by omega), w2]
    exact ⟨_, _, rfl, hb.1, hb.2⟩
  · rw [if_neg h2, if_neg (by omega)]
    obtain ⟨v, e, hv⟩ := mask255 ((IntKind.u64.wrap ((IntKind.u64.wrap (seed * 6364136223846793005)) + 0)) + 1442695040888963407)
    rw [e]
    exact ⟨_, _, rfl, hv.1, hv.2⟩
theorem pick_ok (code : List Int) (hc : Bytes code) (at_ seed n : Int) (h0 : 0 ≤ at_) (h1 : at_ ≤ 999999999) (hn : n ≤ 1000000000000) : ∃ v at' seed', spec_l1Cur_pick.f code at_ seed n = some (v, at', seed') ∧ 0 ≤ v ∧ (1 ≤ n → v < n) ∧ at_ ≤ at' ∧ at' ≤ at_ + 2 := by
  unfold spec_l1Cur_pick.f
  by_cases h2 : n ≤ 1
  · rw [if_pos h2]
    exact ⟨_, _, _, rfl, by omega, fun _ => by omega, by omega, by omega⟩
  · rw [if_neg h2]
    obtain ⟨v, s1, e1, hv⟩ := next_ok code hc at_ seed h0 (by omega)
    rw [e1]
    simp only [Option.bind_some]
    have hn0 : ¬ n = 0 := by omega
    by_cases h3 : n > 200
    · obtain ⟨v2, s2, e2, hv2⟩ := next_ok code hc (at_ + 1) s1 (by omega) (by omega)
      have w1 : wrap64 (wrap64 (v * 256) + v2) = v * 256 + v2 := by rw [w64 (x := v * 256) (by omega) (by omega), w64 (by omega) (by omega)]
      have t1 : Int.tmod (v * 256 + v2) n = (v * 256 + v2) % n := Int.tmod_eq_emod_of_nonneg (by omega)
      rw [if_pos h3, e2]
      simp only [Option.bind_some, hn0, if_false, w1, t1]
      exact ⟨_, _, _, rfl, Int.emod_nonneg _ hn0, fun _ => Int.emod_lt_of_pos _ (by omega), by omega, by omega⟩
    · have t1 : Int.tmod v n = v % n := Int.tmod_eq_emod_of_nonneg hv.1
      rw [if_neg h3, if_neg hn0, t1]
      exact ⟨_, _, _, rfl, Int.emod_nonneg _ hn0, fun _ => Int.emod_lt_of_pos _ (by omega), by omega, by omega⟩
theorem one_ok (code : List Int) (hc : Bytes code) (at_ seed n : Int) (h0 : 0 ≤ at_) (h1 : at_ ≤ 999999999) (hn : n ≤ 1000000000000) : ∃ v at' seed', spec_l1Cur_one.f code at_ seed n = some (v, at', seed') ∧ at_ ≤ at' ∧ at' ≤ at_ + 2 := by
  obtain ⟨v, a, s, e, _, _, h3, h4⟩ := pick_ok code hc at_ seed n h0 h1 hn
  unfold spec_l1Cur_one.f
  rw [e]
  exact ⟨_, _, _, rfl, h3, h4⟩
theorem among_ok (code : List Int) (hc : Bytes code) (at_ seed : Int) (l : List Int) (h0 : 0 ≤ at_) (h1 : at_ ≤ 999999999) (hl : 1 ≤ l.length) (hl2 : l.length ≤ 1000) : ∃ v at' seed', spec_l1Cur_among.f code at_ seed l = some (v, at', seed') ∧ v ∈ l ∧ at_ ≤ at' ∧ at' ≤ at_ + 2 := by
  obtain ⟨v, a, s, e, h2, h5, h3, h4⟩ := pick_ok code hc at_ seed (l.length : Int) h0 h1 (by omega)
  have h6 := h5 (by omega)
  have h7 : v.toNat < l.length := by omega
  have h8 : rd l v = l[v.toNat] := by
    have := rd_lt l v.toNat h7
    rwa [Int.toNat_of_nonneg h2] at this
  unfold spec_l1Cur_among.f
  rw [e]
  simp only [Option.bind_some]
  rw [if_pos h2, if_pos h6]
  exact ⟨_, _, _, rfl, by rw [h8]; exact List.getElem_mem h7, h3, h4⟩
end Go.Proofs.Ytkphmbcoefkilaa.P

-- UdrawLet
namespace Go.Proofs.Ytkphmbcoefkilaa.P
set_option linter.unusedVariables false
set_option linter.unusedSimpArgs false
open Go.RowKit Go.Proofs.YtkphmbcoefkilaaW.PrintWords Go.Proofs.YtkphmbcoefkilaaW.PrintLast Go.Proofs.YtkphmbcoefkilaaW.PrintMore
theorem spoilt_loop (code : List Int) (hc : Bytes code) (wth : ByteArray) (hw1 : 1 ≤ wth.size) (hw2 : wth.size ≤ 1000) (d : Nat) : ∀ (t : ByteArray) (at_ seed : Int), d ≤ 10 → t.size + d ≤ 1000 → 0 ≤ at_ → at_ + 10 * (d : Int) ≤ 100000 →
    ∃ t' at' seed', Ev (fun k => spec_l1Cur_spoilt.l0 k t wth (d : Int) code at_ seed) (t', at', seed') ∧ t'.size ≤ t.size + d ∧ 0 ≤ at' ∧ at' ≤ at_ + 10 * (d : Int) := by
  induction d with
  | zero =>
    intro t at_ seed hd ht h0 h1
    have c : ¬ ((0 : Nat) : Int) > 0 := by decide
    refine ⟨t, at_, seed, Ev.step (fun k => by simp only [spec_l1Cur_spoilt.l0, c, if_false]; rfl) (Ev.step (f := fun _ => some (t, at_, seed)) (fun k => by simp only [spec_l1Cur_spoilt.j1, Bool.false_eq_true, if_false]) (Ev.is rfl)), by omega, h0, by omega⟩
  | succ d ih =>
    intro t at_ seed hd ht h0 h1
    have c : ((d + 1 : Nat) : Int) > 0 := by omega
    by_cases hp : (t.size : Int) > 0
    · obtain ⟨i, a1, s1, e1, p1, q1, _, _⟩ := pick_ok code hc at_ seed (t.size : Int) h0 (by omega) (by omega)
      obtain ⟨j, a2, s2, e2, p2, q2, _, _⟩ := pick_ok code hc a1 s1 (wth.size : Int) (by omega) (by omega) (by omega)
      obtain ⟨v, a3, s3, e3, p3, q3, _, _⟩ := pick_ok code hc a2 s2 3 (by omega) (by omega) (by decide)
      have q1 := q1 (by omega)
      have q2 := q2 (by omega)
      have w1 : wrap64 (((d + 1 : Nat) : Int) - 1) = (d : Int) := by rw [w64 (by omega) (by omega)]; omega
      have w2 : wrap64 (i + 1) = i + 1 := w64 (by omega) (by omega)
      have k1 : i ≤ (t.size : Int) := by omega
      have k2 : 0 ≤ i + 1 := by omega
      have k3 : i + 1 ≤ (t.size : Int) := by omega
      have z1 : (t.extract 0 i.toNat).size = i.toNat := by rw [ByteArray.size_extract]; omega
      have z2 : (t.extract i.toNat t.size).size = t.size - i.toNat := by rw [ByteArray.size_extract]; omega
      have z3 : (t.extract (i + 1).toNat t.size).size = t.size - (i.toNat + 1) := by rw [ByteArray.size_extract]; omega
      have z4 : (strOfNums ([bt wth j] : List Int)).size = 1 := by rw [strOfNums_size]; rfl
      have y1 : (t.extract 0 i.toNat).size + (strOfNums ([bt wth j] : List Int)).size ≤ 9223372036854775807 := by omega
      have y2 : ((t.extract 0 i.toNat) ++ (strOfNums ([bt wth j] : List Int))).size + (t.extract i.toNat t.size).size ≤ 9223372036854775807 := by rw [ByteArray.size_append]; omega
      have y3 : ((t.extract 0 i.toNat) ++ (strOfNums ([bt wth j] : List Int))).size + (t.extract (i + 1).toNat t.size).size ≤ 9223372036854775807 := by rw [ByteArray.size_append]; omega
      have y4 : (t.extract 0 i.toNat).size + (t.extract (i + 1).toNat t.size).size ≤ 9223372036854775807 := by omega
      have st : ∀ r, Ev (fun k => spec_l1Cur_spoilt.j1 k t wth ((d + 1 : Nat) : Int) true code at_ seed) r → Ev (fun k => spec_l1Cur_spoilt.l0 k t wth ((d + 1 : Nat) : Int) code at_ seed) r := fun r hr => Ev.step (fun k => by simp only [spec_l1Cur_spoilt.l0, c, if_true, decide_eq_true hp]) hr
      by_cases v0 : v = 0
      · obtain ⟨t', at', seed', e, h⟩ := ih (((t.extract 0 i.toNat) ++ (strOfNums ([bt wth j] : List Int))) ++ (t.extract i.toNat t.size)) a3 s3 (by omega) (by rw [ByteArray.size_append, ByteArray.size_append]; omega) (by omega) (by omega)
        rw [ByteArray.size_append, ByteArray.size_append] at h
        exact ⟨t', at', seed', st _ (Ev.step (fun k => by simp only [spec_l1Cur_spoilt.j1, if_true, e1, Option.bind_some, e2, p2, q2, e3, v0, p1, k1, y1, y2, w1]) e), by omega, by omega, by omega⟩
      · by_cases v1 : v = 1
        · have v1' : ¬ ((1 : Int) = 0) := by decide
          obtain ⟨t', at', seed', e, h⟩ := ih (((t.extract 0 i.toNat) ++ (strOfNums ([bt wth j] : List Int))) ++ (t.extract (i + 1).toNat t.size)) a3 s3 (by omega) (by rw [ByteArray.size_append, ByteArray.size_append]; omega) (by omega) (by omega)
          rw [ByteArray.size_append, ByteArray.size_append] at h
          exact ⟨t', at', seed', st _ (Ev.step (fun k => by simp only [spec_l1Cur_spoilt.j1, if_true, e1, Option.bind_some, e2, p2, q2, e3, v1, v1', if_false, p1, k1, y1, y3, w1, w2, k2, k3]) e), by omega, by omega, by omega⟩
        · obtain ⟨t', at', seed', e, h⟩ := ih ((t.extract 0 i.toNat) ++ (t.extract (i + 1).toNat t.size)) a3 s3 (by omega) (by rw [ByteArray.size_append]; omega) (by omega) (by omega)
          rw [ByteArray.size_append] at h
          exact ⟨t', at', seed', st _ (Ev.step (fun k => by simp only [spec_l1Cur_spoilt.j1, if_true, e1, Option.bind_some, e2, p2, q2, e3, v0, v1, if_false, p1, k1, y4, w1, w2, k2, k3]) e), by omega, by omega, by omega⟩
    · exact ⟨t, at_, seed, Ev.step (fun k => by simp only [spec_l1Cur_spoilt.l0, c, if_true, decide_eq_false hp]; rfl) (Ev.step (f := fun _ => some (t, at_, seed)) (fun k => by simp only [spec_l1Cur_spoilt.j1, Bool.false_eq_true, if_false]) (Ev.is rfl)), by omega, h0, by omega⟩
theorem chText_size (a b : Int) : (chText a b).size = (a + b).toNat := by
  unfold chText
  rw [strOfNums_size, chLets_length]
theorem letters_j2 (code : List Int) (hc : Bytes code) (a b at_ seed : Int) (ha : 0 ≤ a) (hb : 0 ≤ b) (h1 : 1 ≤ a + b) (h40 : a + b ≤ 40) (h0 : 0 ≤ at_) (h2 : at_ ≤ 1000) :
    ∃ t' at' seed', Ev (fun k => spec_l1Cur_letters.j2 k a b code at_ seed) (t', at', seed') ∧ t'.size ≤ 1000 ∧ 0 ≤ at' := by
  have eC := (chText_both a b ha hb h40).1
  have hs := chText_size a b
  obtain ⟨v, a1, s1, e1, p1, q1, _, _⟩ := pick_ok code hc at_ seed 14 h0 (by omega) (by decide)
  by_cases v0 : v = 0
  · obtain ⟨u, a2, s2, e2, p2, q2, _, _⟩ := pick_ok code hc a1 s1 2 (by omega) (by omega) (by decide)
    have q2 := q2 (by decide)
    obtain ⟨n, hn⟩ := Int.eq_ofNat_of_zero_le (show 0 ≤ wrap64 (1 + u) by rw [w64 (by omega) (by omega)]; omega)
    have hn2 : n ≤ 2 := by rw [w64 (by omega) (by omega)] at hn; omega
    obtain ⟨t', at', seed', e, h3, h4, _⟩ := spoilt_loop code hc (⟨#[97, 98, 99]⟩ : ByteArray) (by decide) (by decide) n (chText a b) a2 s2 (by omega) (by omega) (by omega) (by omega)
    have hsp : Ev (fun k => spec_l1Cur_spoilt.f k code a1 s1 (chText a b) (⟨#[97, 98, 99]⟩ : ByteArray)) (t', at', seed') := by
      unfold spec_l1Cur_spoilt.f
      rw [e2]
      simp only [Option.bind_some, hn]
      exact e
    refine ⟨t', at', seed', Ev.step (fun k => by simp only [spec_l1Cur_letters.j2]; rfl) (Ev.bind eC ?_), by omega, h4⟩
    simp only [e1, Option.bind_some, v0, if_true]
    exact Ev.bind hsp (Ev.is rfl)
  · by_cases v1 : v = 1
    · obtain ⟨i, a2, s2, e2, p2, q2, _, _⟩ := pick_ok code hc a1 s1 ((chText a b).size : Int) (by omega) (by omega) (by omega)
      have q2 := q2 (by omega)
      have z1 : ((chText a b).extract i.toNat (chText a b).size).size + ((chText a b).extract 0 i.toNat).size = (chText a b).size := by
        rw [ByteArray.size_extract, ByteArray.size_extract]
        omega
      have k1 : i ≤ ((chText a b).size : Int) := by omega
      have y1 : ((chText a b).extract i.toNat (chText a b).size).size + ((chText a b).extract 0 i.toNat).size ≤ 9223372036854775807 := by omega
      have v1' : ¬ ((1 : Int) = 0) := by decide
      refine ⟨((chText a b).extract i.toNat (chText a b).size) ++ ((chText a b).extract 0 i.toNat), a2, s2, Ev.step (fun k => by simp only [spec_l1Cur_letters.j2]; rfl) (Ev.bind eC ?_), by rw [ByteArray.size_append]; omega, by omega⟩
      simp only [e1, Option.bind_some, v1, v1', if_false, if_true, e2, p2, k1, y1]
      exact Ev.is rfl
    · by_cases v2 : v = 2
      · have y1 : (chText a b).size + (chText a b).size ≤ 9223372036854775807 := by omega
        refine ⟨(chText a b) ++ (chText a b), a1, s1, Ev.step (fun k => by simp only [spec_l1Cur_letters.j2]; rfl) (Ev.bind eC ?_), by rw [ByteArray.size_append]; omega, by omega⟩
        have v1' : ¬ ((2 : Int) = 0) := by decide
        have v1'' : ¬ ((2 : Int) = 1) := by decide
        simp only [e1, Option.bind_some, v2, v1', v1'', if_false, if_true, y1]
        exact Ev.is rfl
      · by_cases v3 : v = 3
        · refine ⟨(⟨#[]⟩ : ByteArray), a1, s1, Ev.step (fun k => by simp only [spec_l1Cur_letters.j2]; rfl) (Ev.bind eC ?_), by decide, by omega⟩
          have x0 : ¬ ((3 : Int) = 0) := by decide
          have x1 : ¬ ((3 : Int) = 1) := by decide
          have x2 : ¬ ((3 : Int) = 2) := by decide
          simp only [e1, Option.bind_some, v3, x0, x1, x2, if_false, if_true]
          exact Ev.is rfl
        · refine ⟨chText a b, a1, s1, Ev.step (fun k => by simp only [spec_l1Cur_letters.j2]; rfl) (Ev.bind eC ?_), by omega, by omega⟩
          simp only [e1, Option.bind_some, v0, v1, v2, v3, if_false]
          exact Ev.is rfl
theorem letters_j1 (code : List Int) (hc : Bytes code) (a b at_ seed : Int) (ha : 0 ≤ a) (hb : 0 ≤ b) (h40 : a + b ≤ 40) (h0 : 0 ≤ at_) (h2 : at_ ≤ 1000) :
    ∃ t' at' seed', Ev (fun k => spec_l1Cur_letters.j1 k a b code at_ seed) (t', at', seed') ∧ t'.size ≤ 1000 ∧ 0 ≤ at' := by
  have w1 : wrap64 (a + b) = a + b := w64 (by omega) (by omega)
  by_cases h : a + b = 0
  · obtain ⟨t', at', seed', e, h3⟩ := letters_j2 code hc 1 b at_ seed (by omega) hb (by omega) (by omega) h0 h2
    exact ⟨t', at', seed', Ev.step (fun k => by simp only [spec_l1Cur_letters.j1]; rw [w1, if_pos h]) e, h3⟩
  · obtain ⟨t', at', seed', e, h3⟩ := letters_j2 code hc a b at_ seed ha hb (by omega) h40 h0 h2
    exact ⟨t', at', seed', Ev.step (fun k => by simp only [spec_l1Cur_letters.j1]; rw [w1, if_neg h]) e, h3⟩
theorem letters_ok (code : List Int) (hc : Bytes code) (at_ seed most : Int) (hm : 1 ≤ most) (hm2 : most ≤ 24) (h0 : 0 ≤ at_) (h2 : at_ ≤ 500) :
    ∃ t' at' seed', Ev (fun k => spec_l1Cur_letters.f k code at_ seed most) (t', at', seed') ∧ t'.size ≤ 1000 := by
  unfold spec_l1Cur_letters.f
  obtain ⟨a, a1, s1, e1, p1, q1, _, _⟩ := pick_ok code hc at_ seed most h0 (by omega) (by omega)
  have q1 := q1 hm
  obtain ⟨m, hm3, hm4, hm5⟩ : ∃ m, spec_l1Most.f 1 (wrap64 (most - a)) = some m ∧ 1 ≤ m ∧ a + m ≤ most + 1 := by
    rw [w64 (by omega) (by omega)]
    unfold spec_l1Most.f
    split
    · exact ⟨_, rfl, by omega, by omega⟩
    · exact ⟨_, rfl, by omega, by omega⟩
  obtain ⟨b, a2, s2, e2, p2, q2, _, _⟩ := pick_ok code hc a1 s1 m (by omega) (by omega) (by omega)
  have q2 := q2 hm4
  have eG := foGcd_ev a b (by omega) (by omega) (by omega) (by omega)
  rw [e1]
  simp only [Option.bind_some, hm3, e2]
  by_cases hg : (Int.gcd a b : Int) > 1
  · obtain ⟨o, a3, s3, e3, _, _⟩ := one_ok code hc a2 s2 6 (by omega) (by omega) (by decide)
    cases o with
    | true =>
      obtain ⟨t', at', seed', e, h3, _⟩ := letters_j1 code hc a b a3 s3 p1 p2 (by omega) (by omega) (by omega)
      refine ⟨t', at', seed', Ev.bind eG ?_, h3⟩
      simp only [hg, if_true, e3, Option.bind_some, Bool.not_true]
      exact Ev.step (fun k => by simp only [spec_l1Cur_letters.j0, Bool.false_eq_true, if_false]) e
    | false =>
      have hg0 : ¬ (Int.gcd a b : Int) = 0 := by omega
      have d1 : 0 ≤ a / (Int.gcd a b : Int) := Int.ediv_nonneg p1 (by omega)
      have d2 : a / (Int.gcd a b : Int) ≤ a := Int.ediv_le_self _ p1
      have d3 : 0 ≤ b / (Int.gcd a b : Int) := Int.ediv_nonneg p2 (by omega)
      have d4 : b / (Int.gcd a b : Int) ≤ b := Int.ediv_le_self _ p2
      have w1 : wrap64 (Int.tdiv a (Int.gcd a b : Int)) = a / (Int.gcd a b : Int) := by rw [Int.tdiv_eq_ediv_of_nonneg p1]; exact w64 (by omega) (by omega)
      have w2 : wrap64 (Int.tdiv b (Int.gcd a b : Int)) = b / (Int.gcd a b : Int) := by rw [Int.tdiv_eq_ediv_of_nonneg p2]; exact w64 (by omega) (by omega)
      obtain ⟨t', at', seed', e, h3, _⟩ := letters_j1 code hc (a / (Int.gcd a b : Int)) (b / (Int.gcd a b : Int)) a3 s3 d1 d3 (by omega) (by omega) (by omega)
      refine ⟨t', at', seed', Ev.bind eG ?_, h3⟩
      simp only [hg, if_true, e3, Option.bind_some, Bool.not_false]
      exact Ev.step (fun k => by simp only [spec_l1Cur_letters.j0, if_true, hg0, if_false, w1, w2]) e
  · obtain ⟨t', at', seed', e, h3, _⟩ := letters_j1 code hc a b a2 s2 p1 p2 (by omega) (by omega) (by omega)
    refine ⟨t', at', seed', Ev.bind eG ?_, h3⟩
    simp only [hg, if_false]
    exact Ev.step (fun k => by simp only [spec_l1Cur_letters.j0, Bool.false_eq_true, if_false]) e
theorem DrawIsLetters_ok (code : List Int) (hc : Bytes code) : ∃ t : ByteArray, Ev (fun k => spec_DrawIsLetters.f k code) t ∧ t.size ≤ 1000 := by
  unfold spec_DrawIsLetters.f
  obtain ⟨m, a1, s1, e1, hm, _, _⟩ := among_ok code hc 0 0 [5, 12, 24] (by omega) (by omega) (by decide) (by decide)
  have hv : 1 ≤ m ∧ m ≤ 24 := by
    simp only [List.mem_cons, List.not_mem_nil, or_false] at hm
    omega
  obtain ⟨t, at', seed', e, h⟩ := letters_ok code hc a1 s1 m hv.1 hv.2 (by omega) (by omega)
  exact ⟨t, Ev.bind0 e1 (Ev.bind e (Ev.is rfl)), h⟩
end Go.Proofs.Ytkphmbcoefkilaa.P
