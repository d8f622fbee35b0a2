/- The factors of a Christoffel word: both texts; they are there (a word has at most 40 letters: all are looked at). -/
import Derived.Test.YtkphmbcoefkilaaUchTwo
import Derived.Test.YtkphmbcoefkilaaPFimplFactorsOf
import Derived.Test.YtkphmbcoefkilaaPFspecFactorsOf
namespace Go.Proofs.Ytkphmbcoefkilaa.P
set_option linter.unusedVariables false
set_option linter.unusedSimpArgs false
open Go.RowKit Go.Proofs.YtkphmbcoefkilaaW.PrintWords Go.Proofs.YtkphmbcoefkilaaW.PrintLast Go.Proofs.YtkphmbcoefkilaaW.PrintMore

def isSplit (l : List Int) (k : Nat) : Bool := isW (l.take k) && isW (l.drop k)
/-- The first place from i on where a word parts into two words. -/
def sp (l : List Int) : Nat → Nat → Option Nat
  | _, 0 => none
  | i, d + 1 => if isSplit l i then some i else sp l (i + 1) d
theorem sp_some {l : List Int} {k : Nat} (d : Nat) : ∀ i, sp l i d = some k → i ≤ k ∧ k < i + d ∧ isSplit l k = true ∧ ∀ j, i ≤ j → j < k → isSplit l j = false := by
  induction d with
  | zero => intro i h; simp [sp] at h
  | succ d ih =>
    intro i h
    rw [sp] at h
    by_cases hs : isSplit l i = true
    · rw [if_pos hs] at h
      injection h with h
      subst h
      exact ⟨Nat.le_refl _, by omega, hs, fun j h1 h2 => by omega⟩
    · rw [if_neg hs] at h
      obtain ⟨h1, h2, h3, h4⟩ := ih (i + 1) h
      refine ⟨by omega, by omega, h3, fun j h5 h6 => ?_⟩
      by_cases hj : j = i
      · subst hj
        simpa using hs
      · exact h4 j (by omega) h6
theorem sp_none {l : List Int} (d : Nat) : ∀ i, sp l i d = none → ∀ k, i ≤ k → k < i + d → isSplit l k = false := by
  induction d with
  | zero => intro i h k h1 h2; omega
  | succ d ih =>
    intro i h k h1 h2
    rw [sp] at h
    by_cases hs : isSplit l i = true
    · rw [if_pos hs] at h
      simp at h
    · rw [if_neg hs] at h
      by_cases hk : k = i
      · subst hk
        simpa using hs
      · exact ih (i + 1) h k (by omega) (by omega)

def splits (l : List Int) : Bool := (List.range l.length).any fun k => decide (1 ≤ k) && (k * numB l % l.length == 1 && (isW (l.take k) && isW (l.drop k)))
def splitAll (m : Nat) : Bool := (List.range m).all fun a => (List.range (m - a)).all fun b => !(decide (2 ≤ a + b) && Nat.gcd a b == 1) || splits (wd a b)
set_option maxRecDepth 100000 in
theorem splitAll_is : splitAll 41 = true := by decide +kernel
theorem split_exists {l : List Int} (h2 : 2 ≤ l.length) (h40 : l.length ≤ 40) (hl : l.all (oneOf 97 98) = true) (hw : isW l = true) : ∃ k, sp l 1 (l.length - 1) = some k := by
  have hn := num_both hl
  unfold isW at hw
  rw [Bool.and_eq_true, beq_iff_eq, beq_iff_eq] at hw
  have h1 := splitAll_is
  unfold splitAll at h1
  rw [List.all_eq_true] at h1
  have h3 := h1 (numA l) (List.mem_range.2 (by omega))
  rw [List.all_eq_true] at h3
  have h4 := h3 (numB l) (List.mem_range.2 (by omega))
  rw [hw.1, hw.2, decide_eq_true (show 2 ≤ numA l + numB l by omega)] at h4
  simp only [beq_self_eq_true, Bool.and_self, Bool.not_true, Bool.false_or] at h4
  unfold splits at h4
  rw [List.any_eq_true] at h4
  obtain ⟨k, hk, h5⟩ := h4
  simp only [Bool.and_eq_true, decide_eq_true_eq] at h5
  cases hs : sp l 1 (l.length - 1) with
  | some k => exact ⟨k, rfl⟩
  | none =>
    have h6 := sp_none _ _ hs k h5.1 (by have := List.mem_range.1 hk; omega)
    unfold isSplit at h6
    rw [h5.2.2.1, h5.2.2.2] at h6
    simp at h6

theorem all_take {l : List Int} {p : Int → Bool} (h : l.all p = true) (i : Nat) : (l.take i).all p = true := by
  rw [List.all_eq_true] at h ⊢
  exact fun x hx => h x (List.mem_of_mem_take hx)
theorem all_drop {l : List Int} {p : Int → Bool} (h : l.all p = true) (i : Nat) : (l.drop i).all p = true := by
  rw [List.all_eq_true] at h ⊢
  exact fun x hx => h x (List.mem_of_mem_drop hx)
theorem bytes_head (s : ByteArray) (i : Nat) : bytesOf (s.extract 0 i) = (bytesOf s).take i := by rw [bytesOf_extract, List.drop_zero]
theorem bytes_tail (s : ByteArray) (i : Nat) : bytesOf (s.extract i s.size) = (bytesOf s).drop i := by rw [bytesOf_extract, List.take_of_length_le (by rw [bytesOf_length]; omega)]
theorem head_both (s : ByteArray) (h40 : s.size ≤ 40) (hl : (bytesOf s).all (oneOf 97 98) = true) (i : Nat) : Ev (fun k => impl_isChristoffel.f k (s.extract 0 i)) (isW ((bytesOf s).take i)) ∧ Ev (fun k => spec_chGood.f k (s.extract 0 i)) (isW ((bytesOf s).take i)) := by
  rw [← bytes_head]
  refine isChristoffel_both _ (by rw [ByteArray.size_extract]; omega) ?_
  rw [bytes_head]
  exact all_take hl i
theorem tail_both (s : ByteArray) (h40 : s.size ≤ 40) (hl : (bytesOf s).all (oneOf 97 98) = true) (i : Nat) : Ev (fun k => impl_isChristoffel.f k (s.extract i s.size)) (isW ((bytesOf s).drop i)) ∧ Ev (fun k => spec_chGood.f k (s.extract i s.size)) (isW ((bytesOf s).drop i)) := by
  rw [← bytes_tail]
  refine isChristoffel_both _ (by rw [ByteArray.size_extract]; omega) ?_
  rw [bytes_tail]
  exact all_drop hl i
def cutAt (s : ByteArray) : Option Nat → ByteArray × ByteArray × Bool
  | some k => (s.extract 0 k, s.extract k s.size, true)
  | none => ((⟨#[]⟩ : ByteArray), (⟨#[]⟩ : ByteArray), false)
theorem split_step {α : Type} (a b : Bool) (g : Nat → Option α) (f1 f2 : Nat → Option Bool) (x : α) (y : α) (h1 : Ev f1 a) (h2 : Ev f2 b) (hg : Ev g y) :
    Ev (fun k => (f1 k).bind fun t => if t = true then ((f2 k).bind fun t => if t = true then some x else g k) else g k) (if (a && b) = true then x else y) := by
  refine Ev.bind h1 ?_
  cases a with
  | false =>
    simp only [Bool.false_eq_true, if_false, Bool.false_and]
    exact hg
  | true =>
    simp only [if_true, Bool.true_and]
    refine Ev.bind h2 ?_
    cases b with
    | false =>
      simp only [Bool.false_eq_true, if_false]
      exact hg
    | true =>
      simp only [if_true]
      exact Ev.is rfl
theorem factors_from (s : ByteArray) (h40 : s.size ≤ 40) (hl : (bytesOf s).all (oneOf 97 98) = true) (d : Nat) : ∀ i : Nat, i + d = s.size → Ev (fun k => impl_FactorsOf.l0 k s (i : Int)) (cutAt s (sp (bytesOf s) i d)) ∧ Ev (fun k => spec_chSplit.l0 k s (i : Int)) (((sp (bytesOf s) i d).getD 0 : Nat) : Int) := by
  induction d with
  | zero =>
    intro i hi
    exact ⟨Ev.step (f := fun _ => some (cutAt s none)) (fun k => by simp only [impl_FactorsOf.l0]; rw [if_neg (by omega)]; rfl) (Ev.is rfl),
      Ev.step (f := fun _ => some 0) (fun k => by simp only [spec_chSplit.l0]; rw [if_neg (by omega)]) (Ev.is rfl)⟩
  | succ d ih =>
    intro i hi
    obtain ⟨i1, i2⟩ := ih (i + 1) (by omega)
    obtain ⟨a1, a2⟩ := head_both s h40 hl i
    obtain ⟨b1, b2⟩ := tail_both s h40 hl i
    have e1 : wrap64 ((i : Int) + 1) = ((i + 1 : Nat) : Int) := w64_succ (n := s.size) (by omega) (by omega)
    have hr : cutAt s (sp (bytesOf s) i (d + 1)) = if (isW ((bytesOf s).take i) && isW ((bytesOf s).drop i)) = true then (s.extract 0 i, s.extract i s.size, true) else cutAt s (sp (bytesOf s) (i + 1) d) := by
      rw [sp]
      unfold isSplit
      split <;> rfl
    have hr2 : (((sp (bytesOf s) i (d + 1)).getD 0 : Nat) : Int) = if (isW ((bytesOf s).take i) && isW ((bytesOf s).drop i)) = true then (i : Int) else (((sp (bytesOf s) (i + 1) d).getD 0 : Nat) : Int) := by
      rw [sp]
      unfold isSplit
      split <;> rfl
    rw [hr, hr2]
    constructor
    · refine Ev.step (fun k => ?_) (split_step _ _ (fun k => impl_FactorsOf.l0 k s ((i + 1 : Nat) : Int)) _ _ (s.extract 0 i, s.extract i s.size, true) _ a1 b1 i1)
      simp only [impl_FactorsOf.l0]
      rw [if_pos (by omega), if_pos (by omega), if_pos (by omega), e1, Int.toNat_natCast]
    · refine Ev.step (fun k => ?_) (split_step _ _ (fun k => spec_chSplit.l0 k s ((i + 1 : Nat) : Int)) _ _ (i : Int) _ a2 b2 i2)
      simp only [spec_chSplit.l0]
      rw [if_pos (by omega), if_pos (by omega), if_pos (by omega), e1, Int.toNat_natCast]
def factorsOf (s : ByteArray) : ByteArray × ByteArray × Bool := if isTwo s then cutAt s (sp (bytesOf s) 1 (s.size - 1)) else cutAt s none
theorem two_split {s : ByteArray} (h : isTwo s = true) : ∃ k, sp (bytesOf s) 1 (s.size - 1) = some k ∧ 1 ≤ k ∧ k < s.size := by
  obtain ⟨h1, h2, h3⟩ := isTwo_iff.1 h
  obtain ⟨_, h40, hl⟩ := isLet_iff.1 h1
  obtain ⟨k, hk⟩ := split_exists (l := bytesOf s) (by rw [bytesOf_length]; exact h2) (by rw [bytesOf_length]; exact h40) hl h3
  rw [bytesOf_length] at hk
  have := sp_some _ _ hk
  exact ⟨k, hk, by omega, by omega⟩
theorem spec_FactorsOf_ev (s : ByteArray) : Ev (fun k => spec_FactorsOf.f k s) (factorsOf s) := by
  unfold spec_FactorsOf.f factorsOf
  refine Ev.bind (chTwo_ev s) ?_
  cases h : isTwo s with
  | false =>
    simp only [Bool.false_eq_true, if_false]
    exact Ev.is rfl
  | true =>
    obtain ⟨h1, h2, h3⟩ := isTwo_iff.1 h
    obtain ⟨_, h40, hl⟩ := isLet_iff.1 h1
    obtain ⟨k, hk, hk1, hk2⟩ := two_split h
    have hE := (factors_from s h40 hl (s.size - 1) 1 (by omega)).2
    rw [hk] at hE ⊢
    simp only [if_true]
    refine Ev.bind (show Ev (fun k => spec_chSplit.f k s) ((k : Nat) : Int) from hE) ?_
    have c1 : (0 : Int) ≤ (k : Int) := by omega
    have c2 : (k : Int) ≤ (s.size : Int) := by omega
    simp only [c1, c2, if_true, Int.toNat_natCast]
    exact Ev.is rfl
theorem impl_FactorsOf_ev (s : ByteArray) : Ev (fun k => impl_FactorsOf.f k s) (factorsOf s) := by
  unfold impl_FactorsOf.f factorsOf isTwo
  have no : Ev (fun k => impl_FactorsOf.j0 k s true) (cutAt s none) := Ev.step (f := fun _ => some (cutAt s none)) (fun k => by simp only [impl_FactorsOf.j0, if_true]; rfl) (Ev.is rfl)
  refine Ev.bind0 (impl_IsLetters_is s) ?_
  cases h : isLet s with
  | false =>
    simp only [Bool.false_eq_true, if_false, Bool.false_and]
    exact no
  | true =>
    obtain ⟨h1, h40, hl⟩ := isLet_iff.1 h
    simp only [if_true, Bool.true_and]
    refine Ev.bind (isChristoffel_both s h40 hl).1 ?_
    cases hw : isW (bytesOf s) with
    | false =>
      simp only [Bool.and_false, Bool.false_eq_true, if_false, Bool.not_false]
      exact no
    | true =>
      rw [Bool.and_true]
      have hE := (factors_from s h40 hl (s.size - 1) 1 (by omega)).1
      refine Ev.step (f := fun k => impl_FactorsOf.l0 k s 1) (fun k => by simp only [impl_FactorsOf.j0, Bool.not_true, Bool.false_eq_true, if_false]) ?_
      by_cases h2 : 2 ≤ s.size
      · rw [decide_eq_true h2]
        simp only [if_true]
        exact hE
      · rw [decide_eq_false h2]
        have e : s.size - 1 = 0 := by omega
        rw [e] at hE
        simp only [Bool.false_eq_true, if_false]
        exact hE
end Go.Proofs.Ytkphmbcoefkilaa.P
