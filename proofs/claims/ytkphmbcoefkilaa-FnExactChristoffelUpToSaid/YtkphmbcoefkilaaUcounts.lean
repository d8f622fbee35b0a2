/- How many letters a and b there are: both texts. -/
import Derived.Test.YtkphmbcoefkilaaUletters
import Derived.Test.YtkphmbcoefkilaaGMirrorWord
import Derived.Test.YtkphmbcoefkilaaPFspecchMany
import Derived.Test.YtkphmbcoefkilaaPFimplcounts
namespace Go.Proofs.Ytkphmbcoefkilaa.P
set_option linter.unusedVariables false
set_option linter.unusedSimpArgs false
open Go.RowKit Go.Proofs.YtkphmbcoefkilaaW.PrintWords Go.Proofs.YtkphmbcoefkilaaW.PrintLast Go.Proofs.YtkphmbcoefkilaaW.PrintMore

def numB (l : List Int) : Nat := l.count 98
def numA (l : List Int) : Nat := l.count 97
theorem num_both {l : List Int} (h : l.all (oneOf 97 98) = true) : numA l + numB l = l.length := by
  induction l with
  | nil => rfl
  | cons x l ih =>
    rw [List.all_cons, Bool.and_eq_true] at h
    have h2 := ih h.2
    have h1 : x = 97 ∨ x = 98 := by simpa [oneOf] using h.1
    unfold numA numB at *
    rcases h1 with rfl | rfl <;> simp <;> omega
theorem chMany_from (s : ByteArray) (hn : s.size ≤ 4611686018427387904) (d : Nat) : ∀ (i n : Nat), i + d = s.size → n ≤ i → Ev (fun k => spec_chMany.l0 k s (n : Int) (i : Int)) (((n + numB ((bytesOf s).drop i) : Nat) : Int)) := by
  induction d with
  | zero =>
    intro i n hi h
    refine Ev.step (f := fun _ => some (n : Int)) (fun k => by simp only [spec_chMany.l0]; rw [if_neg (by omega)]) ?_
    rw [List.drop_eq_nil_of_le (by rw [bytesOf_length]; omega)]
    exact Ev.is rfl
  | succ d ih =>
    intro i n hi h
    have e1 : wrap64 ((i : Int) + 1) = ((i + 1 : Nat) : Int) := w64_succ (n := s.size) (by omega) hn
    have e2 : wrap64 ((n : Int) + 1) = ((n + 1 : Nat) : Int) := w64_succ (n := s.size) (by omega) hn
    refine Ev.step (f := fun k => if bt s (i : Int) = 98 then spec_chMany.l0 k s ((n + 1 : Nat) : Int) ((i + 1 : Nat) : Int) else spec_chMany.l0 k s (n : Int) ((i + 1 : Nat) : Int)) (fun k => ?_) ?_
    · simp only [spec_chMany.l0]
      rw [if_pos (by omega), if_pos (by omega), e1, e2]
    · rw [bytes_drop s i (by omega)]
      by_cases h2 : bt s (i : Int) = 98
      · simp only [h2, if_true]
        have e : n + numB (98 :: (bytesOf s).drop (i + 1)) = (n + 1) + numB ((bytesOf s).drop (i + 1)) := by simp [numB]; omega
        rw [e]
        exact ih (i + 1) (n + 1) (by omega) (by omega)
      · simp only [h2, if_false]
        have e : numB (bt s (i : Int) :: (bytesOf s).drop (i + 1)) = numB ((bytesOf s).drop (i + 1)) := by simp [numB, List.count_cons, h2]
        rw [e]
        exact ih (i + 1) n (by omega) (by omega)
theorem chMany_ev (s : ByteArray) (hn : s.size ≤ 4611686018427387904) : Ev (fun k => spec_chMany.f k s) (numB (bytesOf s) : Int) := by
  unfold spec_chMany.f
  have h := chMany_from s hn s.size 0 0 (by omega) (by omega)
  rw [Nat.zero_add, List.drop_zero] at h
  exact h
theorem count_bytes (l : List UInt8) (c : UInt8) : l.count c = (l.map fun b => (b.toNat : Int)).count (c.toNat : Int) := by
  induction l with
  | nil => rfl
  | cons x l ih =>
    rw [List.map_cons, List.count_cons, List.count_cons, ih]
    congr 1
    by_cases h : x = c
    · simp [h]
    · have h2 : ¬ ((x.toNat : Int) = (c.toNat : Int)) := by
        intro h3
        apply h
        apply UInt8.toNat_inj.1
        omega
      simp [h, h2]
theorem count_b (s : ByteArray) : strings_Count.f s (⟨#[98]⟩ : ByteArray) = some (numB (bytesOf s) : Int) := by
  show some ((Go.Lib.countByte s.data.toList 98 : Nat) : Int) = _
  unfold Go.Lib.countByte numB bytesOf
  rw [count_bytes]
  rfl
theorem count_a (s : ByteArray) : strings_Count.f s (⟨#[97]⟩ : ByteArray) = some (numA (bytesOf s) : Int) := by
  show some ((Go.Lib.countByte s.data.toList 97 : Nat) : Int) = _
  unfold Go.Lib.countByte numA bytesOf
  rw [count_bytes]
  rfl
theorem counts_is (s : ByteArray) : impl_counts.f s = some ((numA (bytesOf s) : Int), (numB (bytesOf s) : Int)) := by
  unfold impl_counts.f
  rw [count_a, count_b]
  rfl
theorem isLet_iff {s : ByteArray} : isLet s = true ↔ 1 ≤ s.size ∧ s.size ≤ 40 ∧ (bytesOf s).all (oneOf 97 98) = true := by simp [isLet]
theorem lets_num {s : ByteArray} (h : (bytesOf s).all (oneOf 97 98) = true) : (s.size : Int) - (numB (bytesOf s) : Int) = (numA (bytesOf s) : Int) := by
  have h2 := num_both h
  rw [bytesOf_length] at h2
  omega
/-- A text cut. -/
theorem bytesOf_extract (s : ByteArray) (i j : Nat) : bytesOf (s.extract i j) = ((bytesOf s).take j).drop i := by
  unfold bytesOf
  rw [ByteArray.data_extract, Array.toList_extract, List.extract_eq_drop_take', List.map_drop, List.map_take]
theorem bytesOf_inj {s t : ByteArray} (h : bytesOf s = bytesOf t) : s = t := by
  unfold bytesOf at h
  apply ByteArray.ext
  apply Array.ext'
  exact (List.map_inj_right (fun a b h => by apply UInt8.toNat_inj.1; omega)).1 h
theorem bytesOf_append (s t : ByteArray) : bytesOf (s ++ t) = bytesOf s ++ bytesOf t := by
  unfold bytesOf
  rw [ByteArray.data_append, Array.toList_append, List.map_append]
theorem toList_is (s : ByteArray) : s.toList = s.data.toList := ByteArray.toList_eq s
theorem toList_beq (s t : ByteArray) : (s.toList == t.toList) = decide (bytesOf s = bytesOf t) := by
  rw [toList_is, toList_is]
  by_cases h : s.data.toList = t.data.toList
  · have h2 : bytesOf s = bytesOf t := by unfold bytesOf; rw [h]
    rw [decide_eq_true h2, h, beq_self_eq_true]
  · have h2 : ¬ bytesOf s = bytesOf t := fun h3 => h (by rw [bytesOf_inj h3])
    rw [decide_eq_false h2, beq_eq_false_iff_ne.2 h]
end Go.Proofs.Ytkphmbcoefkilaa.P
