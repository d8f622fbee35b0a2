/- Is a text a Christoffel word: both texts. -/
import Derived.Test.YtkphmbcoefkilaaUcounts
import Derived.Test.YtkphmbcoefkilaaUchristoffel
import Derived.Test.YtkphmbcoefkilaaPFimplisChristoffel
import Derived.Test.YtkphmbcoefkilaaPFspecchGood
namespace Go.Proofs.Ytkphmbcoefkilaa.P
set_option linter.unusedVariables false
set_option linter.unusedSimpArgs false
open Go.RowKit Go.Proofs.YtkphmbcoefkilaaW.PrintWords Go.Proofs.YtkphmbcoefkilaaW.PrintLast Go.Proofs.YtkphmbcoefkilaaW.PrintMore

/-- The letters of a Christoffel word. -/
def wd (a b : Nat) : List Int := chLets b ((a : Int) + b) 0 (a + b)
/-- Letters that are those of a Christoffel word. -/
def isW (l : List Int) : Bool := Nat.gcd (numA l) (numB l) == 1 && wd (numA l) (numB l) == l
theorem chLets_in (b n : Int) (d : Nat) : ∀ i, (chLets b n i d).all (oneOf 97 98) = true := by
  induction d with
  | zero => intro i; rfl
  | succ d ih =>
    intro i
    rw [chLets, List.all_cons, ih, Bool.and_true]
    unfold chLet oneOf
    split <;> rfl
theorem bytes_chLets (l : List Int) (h : l.all (oneOf 97 98) = true) : bytesOf (strOfNums l) = l := by
  unfold bytesOf strOfNums
  induction l with
  | nil => rfl
  | cons x l ih =>
    rw [List.all_cons, Bool.and_eq_true] at h
    have h1 : x = 97 ∨ x = 98 := by simpa [oneOf] using h.1
    have h2 := ih h.2
    simp only [List.map_cons, List.map_map] at h2 ⊢
    rw [List.cons.injEq]
    refine ⟨?_, by simpa using h2⟩
    rcases h1 with rfl | rfl <;> rfl
theorem chText_bytes (a b : Nat) : bytesOf (chText (a : Int) (b : Int)) = wd a b := by
  unfold chText wd
  have e : ((a : Int) + (b : Int)).toNat = a + b := by omega
  rw [e, bytes_chLets _ (chLets_in _ _ _ _)]
theorem chText_beq (a b : Nat) (s : ByteArray) : ((chText (a : Int) (b : Int)).toList == s.toList) = (wd a b == bytesOf s) := by
  rw [toList_beq, chText_bytes]
  by_cases h : wd a b = bytesOf s
  · rw [decide_eq_true h, h, beq_self_eq_true]
  · rw [decide_eq_false h, beq_eq_false_iff_ne.2 h]
theorem gcd_nat (a b : Nat) : (Int.gcd (a : Int) (b : Int) : Int) = ((Nat.gcd a b : Nat) : Int) := rfl
theorem isW_eq (l : List Int) : isW l = if Nat.gcd (numA l) (numB l) = 1 then wd (numA l) (numB l) == l else false := by
  unfold isW
  by_cases h : Nat.gcd (numA l) (numB l) = 1
  · rw [if_pos h, h, beq_self_eq_true, Bool.true_and]
  · rw [if_neg h, beq_eq_false_iff_ne.2 h, Bool.false_and]
theorem isChristoffel_both (s : ByteArray) (h40 : s.size ≤ 40) (hl : (bytesOf s).all (oneOf 97 98) = true) : Ev (fun k => impl_isChristoffel.f k s) (isW (bytesOf s)) ∧ Ev (fun k => spec_chGood.f k s) (isW (bytesOf s)) := by
  have hn := lets_num hl
  have hb := num_both hl
  rw [bytesOf_length] at hb
  unfold impl_isChristoffel.f spec_chGood.f
  have hw : wrap64 ((s.size : Int) - (numB (bytesOf s) : Int)) = (numA (bytesOf s) : Int) := by rw [hn, w64 (by omega) (by omega)]
  have hc := chText_beq (numA (bytesOf s)) (numB (bytesOf s)) s
  have hsz : numA (bytesOf s) + numB (bytesOf s) ≤ 40 := by omega
  obtain ⟨e1, e2⟩ := chText_both (numA (bytesOf s) : Int) (numB (bytesOf s) : Int) (by omega) (by omega) (by omega)
  have g1 := divisor_ev (numA (bytesOf s) : Int) (numB (bytesOf s) : Int) (by omega) (by omega) (by omega) (by omega)
  have g2 := foGcd_ev (numA (bytesOf s) : Int) (numB (bytesOf s) : Int) (by omega) (by omega) (by omega) (by omega)
  rw [gcd_nat] at g1 g2
  rw [isW_eq]
  constructor
  · refine Ev.bind0 (counts_is s) (Ev.bind g1 ?_)
    by_cases h : Nat.gcd (numA (bytesOf s)) (numB (bytesOf s)) = 1
    · have h3 : ((Nat.gcd (numA (bytesOf s)) (numB (bytesOf s)) : Nat) : Int) = 1 := by omega
      rw [if_pos h]
      simp only [h3, if_true]
      exact Ev.bind e2 (Ev.is (by rw [hc]))
    · have h2 : ¬ ((Nat.gcd (numA (bytesOf s)) (numB (bytesOf s)) : Nat) : Int) = 1 := by omega
      rw [if_neg h]
      simp only [h2, if_false]
      exact Ev.is rfl
  · refine Ev.bind (chMany_ev s (by omega)) ?_
    rw [hw]
    refine Ev.bind g2 ?_
    by_cases h : Nat.gcd (numA (bytesOf s)) (numB (bytesOf s)) = 1
    · have h3 : ((Nat.gcd (numA (bytesOf s)) (numB (bytesOf s)) : Nat) : Int) = 1 := by omega
      rw [if_pos h]
      simp only [h3, if_true]
      exact Ev.bind e1 (Ev.is (by rw [hc]))
    · have h2 : ¬ ((Nat.gcd (numA (bytesOf s)) (numB (bytesOf s)) : Nat) : Int) = 1 := by omega
      rw [if_neg h]
      simp only [h2, if_false]
      exact Ev.is rfl
end Go.Proofs.Ytkphmbcoefkilaa.P
