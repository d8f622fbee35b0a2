/- Christoffel words: spec.chWord and impl.christoffel make the same text. -/
import Derived.Test.YtkphmbcoefkilaaUgcd
import Derived.Test.YtkphmbcoefkilaaPFspecchWord
import Derived.Test.YtkphmbcoefkilaaPFimplchristoffel
namespace Go.Proofs.Ytkphmbcoefkilaa.P
set_option linter.unusedVariables false
set_option linter.unusedSimpArgs false
open Go.RowKit Go.Proofs.YtkphmbcoefkilaaW.PrintWords Go.Proofs.YtkphmbcoefkilaaW.PrintLast Go.Proofs.YtkphmbcoefkilaaW.PrintMore

/-- The letter with an index: 97 or 98. -/
def chLet (b n i : Int) : Int := if i * b / n = (i + 1) * b / n then 97 else 98
/-- The letters of a word, from one on. -/
def chLets (b n : Int) (i : Nat) : Nat → List Int
  | 0 => []
  | d + 1 => chLet b n i :: chLets b n (i + 1) d
theorem chLets_length (b n : Int) (d : Nat) : ∀ i, (chLets b n i d).length = d := by
  induction d with
  | zero => intro i; rfl
  | succ d ih => intro i; simp [chLets, ih]
theorem strOfNums_append (xs ys : List Int) : strOfNums xs ++ strOfNums ys = strOfNums (xs ++ ys) := by
  unfold strOfNums
  apply ByteArray.ext
  simp
theorem strOfNums_size (xs : List Int) : (strOfNums xs).size = xs.length := by
  unfold strOfNums
  simp [ByteArray.size]
theorem chWord_from (b : Int) (hb : 0 ≤ b ∧ b ≤ 40) (n : Nat) (hn : n ≤ 40) (d : Nat) : ∀ (i : Nat) (xs : List Int), i + d = n → xs.length = i → Ev (fun k => spec_chWord.l0 k b (n : Int) (strOfNums xs) (i : Int)) (strOfNums (xs ++ chLets b n i d)) := by
  induction d with
  | zero =>
    intro i xs hi hx
    refine Ev.step (f := fun _ => some (strOfNums xs)) (fun k => ?_) (Ev.is (by simp [chLets]))
    simp only [spec_chWord.l0]
    rw [if_neg (by omega)]
  | succ d ih =>
    intro i xs hi hx
    have b1 : 0 ≤ (i : Int) * b ∧ (i : Int) * b ≤ 40 * 40 := ⟨Int.mul_nonneg (by omega) hb.1, Int.mul_le_mul (by omega) hb.2 hb.1 (by omega)⟩
    have b2 : 0 ≤ ((i : Int) + 1) * b ∧ ((i : Int) + 1) * b ≤ 40 * 40 := ⟨Int.mul_nonneg (by omega) hb.1, Int.mul_le_mul (by omega) hb.2 hb.1 (by omega)⟩
    have w1 : wrap64 ((i : Int) * b) = i * b := w64 (by omega) (by omega)
    have w2 : wrap64 ((i : Int) + 1) = i + 1 := w64 (by omega) (by omega)
    have w3 : wrap64 (((i : Int) + 1) * b) = (i + 1) * b := w64 (by omega) (by omega)
    have t1 : Int.tdiv ((i : Int) * b) n = i * b / n := Int.tdiv_eq_ediv_of_nonneg b1.1
    have t2 : Int.tdiv (((i : Int) + 1) * b) n = (i + 1) * b / n := Int.tdiv_eq_ediv_of_nonneg b2.1
    have q1 : 0 ≤ (i : Int) * b / n := Int.ediv_nonneg b1.1 (by omega)
    have q2 : (i : Int) * b / n ≤ i * b := Int.ediv_le_self _ b1.1
    have q3 : 0 ≤ ((i : Int) + 1) * b / n := Int.ediv_nonneg b2.1 (by omega)
    have q4 : ((i : Int) + 1) * b / n ≤ (i + 1) * b := Int.ediv_le_self _ b2.1
    have w4 : wrap64 ((i : Int) * b / n) = i * b / n := w64 (by omega) (by omega)
    have w5 : wrap64 (((i : Int) + 1) * b / n) = (i + 1) * b / n := w64 (by omega) (by omega)
    have hs : (strOfNums xs).size + 1 ≤ 9223372036854775807 := by rw [strOfNums_size]; omega
    have hc : ((i : Int) + 1) = ((i + 1 : Nat) : Int) := by omega
    have a97 : strOfNums xs ++ (⟨#[97]⟩ : ByteArray) = strOfNums (xs ++ [97]) := strOfNums_append xs [97]
    have a98 : strOfNums xs ++ (⟨#[98]⟩ : ByteArray) = strOfNums (xs ++ [98]) := strOfNums_append xs [98]
    have e : xs ++ chLets b n i (d + 1) = (xs ++ [chLet b n i]) ++ chLets b n (i + 1) d := by simp [chLets]
    rw [e]
    refine Ev.step (f := fun k => spec_chWord.l0 k b (n : Int) (strOfNums (xs ++ [chLet b n i])) ((i + 1 : Nat) : Int)) (fun k => ?_) (ih (i + 1) _ (by omega) (by simp [hx]))
    simp only [spec_chWord.l0]
    rw [if_pos (by omega), if_neg (by omega), w1, w2, w3, t1, t2, w4, w5, if_pos hs, a97, a98]
    unfold chLet
    by_cases h : (i : Int) * b / n = (i + 1) * b / n
    · rw [if_pos h, if_pos h, hc]
    · rw [if_neg h, if_neg h, if_pos hs, hc]
theorem christoffel_from (b : Int) (hb : 0 ≤ b ∧ b ≤ 40) (n : Nat) (hn : n ≤ 40) (d : Nat) : ∀ (i : Nat) (xs : List Int), i + d = n → xs.length = i → Ev (fun k => impl_christoffel.l0 k b (n : Int) xs (n : Int) (i : Int)) (strOfNums (xs ++ chLets b n i d)) := by
  induction d with
  | zero =>
    intro i xs hi hx
    refine Ev.step (f := fun _ => some (strOfNums xs)) (fun k => ?_) (Ev.is (by simp [chLets]))
    simp only [impl_christoffel.l0]
    rw [if_neg (by omega)]
  | succ d ih =>
    intro i xs hi hx
    have b1 : 0 ≤ (i : Int) * b ∧ (i : Int) * b ≤ 40 * 40 := ⟨Int.mul_nonneg (by omega) hb.1, Int.mul_le_mul (by omega) hb.2 hb.1 (by omega)⟩
    have b2 : 0 ≤ ((i : Int) + 1) * b ∧ ((i : Int) + 1) * b ≤ 40 * 40 := ⟨Int.mul_nonneg (by omega) hb.1, Int.mul_le_mul (by omega) hb.2 hb.1 (by omega)⟩
    have w1 : wrap64 ((i : Int) * b) = i * b := w64 (by omega) (by omega)
    have w2 : wrap64 ((i : Int) + 1) = i + 1 := w64 (by omega) (by omega)
    have w3 : wrap64 (((i : Int) + 1) * b) = (i + 1) * b := w64 (by omega) (by omega)
    have t1 : Int.tdiv ((i : Int) * b) n = i * b / n := Int.tdiv_eq_ediv_of_nonneg b1.1
    have t2 : Int.tdiv (((i : Int) + 1) * b) n = (i + 1) * b / n := Int.tdiv_eq_ediv_of_nonneg b2.1
    have q1 : 0 ≤ (i : Int) * b / n := Int.ediv_nonneg b1.1 (by omega)
    have q2 : (i : Int) * b / n ≤ i * b := Int.ediv_le_self _ b1.1
    have q3 : 0 ≤ ((i : Int) + 1) * b / n := Int.ediv_nonneg b2.1 (by omega)
    have q4 : ((i : Int) + 1) * b / n ≤ (i + 1) * b := Int.ediv_le_self _ b2.1
    have w4 : wrap64 ((i : Int) * b / n) = i * b / n := w64 (by omega) (by omega)
    have w5 : wrap64 (((i : Int) + 1) * b / n) = (i + 1) * b / n := w64 (by omega) (by omega)
    have hs : xs.length < 140737488355328 := by omega
    have hc : ((i : Int) + 1) = ((i + 1 : Nat) : Int) := by omega
    have e : xs ++ chLets b n i (d + 1) = (xs ++ [chLet b n i]) ++ chLets b n (i + 1) d := by simp [chLets]
    rw [e]
    refine Ev.step (f := fun k => impl_christoffel.l0 k b (n : Int) (xs ++ [chLet b n i]) (n : Int) ((i + 1 : Nat) : Int)) (fun k => ?_) (ih (i + 1) _ (by omega) (by simp [hx]))
    simp only [impl_christoffel.l0]
    rw [if_pos (by omega), if_neg (by omega), w1, w2, w3, t1, t2, w4, w5]
    unfold chLet
    by_cases h : (i : Int) * b / n = (i + 1) * b / n
    · rw [if_pos h, if_pos h, if_pos hs, hc]
    · rw [if_neg h, if_neg h, if_pos hs, hc]
/-- The Christoffel word of so many letters. -/
def chText (a b : Int) : ByteArray := strOfNums (chLets b (a + b) 0 (a + b).toNat)
theorem chText_both (a b : Int) (ha : 0 ≤ a) (hb : 0 ≤ b) (hn : a + b ≤ 40) : Ev (fun k => spec_chWord.f k a b) (chText a b) ∧ Ev (fun k => impl_christoffel.f k a b) (chText a b) := by
  unfold spec_chWord.f impl_christoffel.f chText
  have hw : wrap64 (a + b) = (((a + b).toNat : Nat) : Int) := by rw [w64 (by omega) (by omega)]; omega
  have hc : (((a + b).toNat : Nat) : Int) = a + b := by omega
  rw [hw]
  have h1 := chWord_from b (by omega) (a + b).toNat (by omega) (a + b).toNat 0 [] (by omega) rfl
  have h2 := christoffel_from b (by omega) (a + b).toNat (by omega) (a + b).toNat 0 [] (by omega) rfl
  rw [List.nil_append, hc] at h1 h2
  rw [hc]
  exact ⟨h1, h2⟩
end Go.Proofs.Ytkphmbcoefkilaa.P
