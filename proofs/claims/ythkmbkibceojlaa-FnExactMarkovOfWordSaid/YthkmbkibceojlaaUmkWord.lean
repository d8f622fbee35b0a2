/- MarkovOfWord: both texts. -/
import Derived.Test.YthkmbkibceojlaaUmkMove
import Derived.Test.YthkmbkibceojlaaUbase
import Derived.Test.YthkmbkibceojlaaGisWord
import Derived.Test.YthkmbkibceojlaaPFspecMarkovOfWord
import Derived.Test.YthkmbkibceojlaaPFimplMarkovOfWord
namespace Go.Proofs.Ythkmbkibceojlaa.P
set_option linter.unusedVariables false
set_option linter.unusedSimpArgs false
open Go.RowKit Go.Proofs.YthkmbkibceojlaaW.PrintWords Go.Proofs.YthkmbkibceojlaaW.PrintLast Go.Proofs.YthkmbkibceojlaaW.PrintMore
theorem byte_drop (s : ByteArray) (i : Nat) (h : i < s.size) : (bytesOf s).drop i = bt s (i : Int) :: (bytesOf s).drop (i + 1) := by
  rw [rd_drop _ i (by rw [bytesOf_length]; exact h), rd_bytesOf]
theorem mkLetters_from (s : ByteArray) (hn : s.size ≤ 4611686018427387904) (d : Nat) : ∀ i : Nat, i + d = s.size → Ev (fun k => spec_mkLetters.l0 k s (i : Int)) (((bytesOf s).drop i).all (oneOf 108 114)) := by
  induction d with
  | zero =>
    intro i hi
    refine Ev.step (f := fun _ => some true) (fun k => by simp only [spec_mkLetters.l0]; rw [if_neg (by omega)]) ?_
    rw [List.drop_eq_nil_of_le (by rw [bytesOf_length]; omega)]
    exact Ev.is rfl
  | succ d ih =>
    intro i hi
    refine Ev.step (f := fun k => if bt s (i : Int) = 108 then spec_mkLetters.l0 k s ((i + 1 : Nat) : Int) else if bt s (i : Int) = 114 then spec_mkLetters.l0 k s ((i + 1 : Nat) : Int) else some false) (fun k => by simp only [spec_mkLetters.l0]; rw [if_pos (by omega), if_pos (by omega), w64_succ (n := s.size) (by omega) hn]) ?_
    rw [byte_drop s i (by omega), List.all_cons]
    by_cases h1 : bt s (i : Int) = 108
    · have e : oneOf 108 114 (bt s (i : Int)) = true := by simp [oneOf, h1]
      rw [e, Bool.true_and]
      simp only [h1, if_true]
      exact ih (i + 1) (by omega)
    · by_cases h2 : bt s (i : Int) = 114
      · have e : oneOf 108 114 (bt s (i : Int)) = true := by simp [oneOf, h2]
        rw [e, Bool.true_and]
        simp only [h1, if_false, h2, if_true]
        exact ih (i + 1) (by omega)
      · have e : oneOf 108 114 (bt s (i : Int)) = false := by simp [oneOf, h1, h2]
        rw [e, Bool.false_and]
        simp only [h1, h2, if_false]
        exact Ev.is rfl
def isLR (s : ByteArray) : Bool := decide ((s.size : Int) ≤ 40) && (bytesOf s).all (oneOf 108 114)
theorem mkLetters_ev (s : ByteArray) : Ev (fun k => spec_mkLetters.f k s) (isLR s) := by
  unfold spec_mkLetters.f isLR
  by_cases h : (s.size : Int) > 40
  · simp only [h, if_true]
    rw [decide_eq_false (by omega), Bool.false_and]
    exact Ev.is rfl
  · simp only [h, if_false]
    rw [decide_eq_true (by omega), Bool.true_and]
    exact mkLetters_from s (by omega) s.size 0 (by omega)
theorem word_step {x y z : Int} (h : isMk [x, y, z] = true) (n : Nat) (hn : n ≤ 2) (g1 g2 : Nat → List Int → Option (List Int × Bool))
    (ih : mvN x y z n ≤ 1000000000 → ∃ r : List Int × Bool, r.1.length ≤ 3 ∧ Ev (fun k => g1 k (mv x y z n)) r ∧ Ev (fun k => g2 k (mv x y z n)) r) :
    ∃ r : List Int × Bool, r.1.length ≤ 3 ∧ Ev (fun k => (impl_moved.f [x, y, z] (n : Int)).bind fun t => if 2 < (t.length : Int) then (if rd t 2 > 1000000000 then some ([], false) else g1 k t) else none) r ∧ Ev (fun k => (spec_mkMove.f [x, y, z] (n : Int)).bind fun bt => if bt.2 = true then g2 k bt.1 else some ([], false)) r := by
  have hv := moved_is h n hn
  have hm := mkMove_is h n hn
  have h2 := mv_two h n hn
  obtain ⟨a, b, c, e⟩ := mv_three x y z n
  have hlen : (2 : Int) < ((mv x y z n).length : Int) := by rw [e]; exact (show (2 : Int) < 3 by decide)
  rw [hv, hm]
  unfold mvOf
  by_cases h3 : mvN x y z n > 1000000000
  · have h4 := h2.2 h3
    refine ⟨([], false), by simp, ?_, ?_⟩
    · simp only [Option.bind_some, hlen, if_true, h4]
      exact Ev.is rfl
    · simp only [Option.bind_some, h3, if_true, Bool.false_eq_true, if_false]
      exact Ev.is rfl
  · have h4 : ¬ rd (mv x y z n) 2 > 1000000000 := fun h5 => h3 (h2.1 h5)
    obtain ⟨r, h5, e1, e2⟩ := ih (by omega)
    refine ⟨r, h5, ?_, ?_⟩
    · simp only [Option.bind_some, hlen, if_true, h4, if_false]
      exact e1
    · simp only [Option.bind_some, h3, if_true, if_false]
      exact e2
theorem word_from (s : ByteArray) (hn : s.size ≤ 40) (d : Nat) : ∀ (i : Nat) (x y z : Int), i + d = s.size → isMk [x, y, z] = true → ∃ r : List Int × Bool, r.1.length ≤ 3 ∧ Ev (fun k => impl_MarkovOfWord.l0 k s [x, y, z] (s.size : Int) (i : Int)) r ∧ Ev (fun k => spec_MarkovOfWord.l0 k s [x, y, z] (i : Int)) r := by
  induction d with
  | zero =>
    intro i x y z hi h
    exact ⟨([x, y, z], true), Nat.le_refl _, Ev.step (f := fun _ => some ([x, y, z], true)) (fun k => by simp only [impl_MarkovOfWord.l0]; rw [if_neg (by omega)]) (Ev.is rfl), Ev.step (f := fun _ => some ([x, y, z], true)) (fun k => by simp only [spec_MarkovOfWord.l0]; rw [if_neg (by omega)]) (Ev.is rfl)⟩
  | succ d ih =>
    intro i x y z hi h
    have e1 : wrap64 ((i : Int) + 1) = ((i + 1 : Nat) : Int) := w64_succ (n := s.size) (by omega) (by omega)
    have key : ∀ n : Nat, n ≤ 2 → ∃ r : List Int × Bool, r.1.length ≤ 3 ∧ Ev (fun k => (impl_moved.f [x, y, z] (n : Int)).bind fun t => if 2 < (t.length : Int) then (if rd t 2 > 1000000000 then some ([], false) else impl_MarkovOfWord.l0 k s t (s.size : Int) ((i + 1 : Nat) : Int)) else none) r ∧ Ev (fun k => (spec_mkMove.f [x, y, z] (n : Int)).bind fun bt => if bt.2 = true then spec_MarkovOfWord.l0 k s bt.1 ((i + 1 : Nat) : Int) else some ([], false)) r := by
      intro n hn2
      refine word_step h n hn2 (fun k t => impl_MarkovOfWord.l0 k s t (s.size : Int) ((i + 1 : Nat) : Int)) (fun k t => spec_MarkovOfWord.l0 k s t ((i + 1 : Nat) : Int)) (fun hle => ?_)
      have hm := mv_is h n hn2 hle
      obtain ⟨a, b, c, e⟩ := mv_three x y z n
      rw [e] at hm ⊢
      exact ih (i + 1) a b c (by omega) hm
    have hc1 : (i : Int) < (s.size : Int) := by omega
    have hc2 : (0 : Int) ≤ (i : Int) := by omega
    by_cases hb : bt s (i : Int) = 108
    · obtain ⟨r, hr, a1, a2⟩ := key 1 (by omega)
      refine ⟨r, hr, Ev.step (fun k => ?_) a1, Ev.step (fun k => ?_) a2⟩
      · simp only [impl_MarkovOfWord.l0]
        rw [if_pos hc1, if_pos hc2, if_pos hc1, if_pos hb, e1]
        rfl
      · simp only [spec_MarkovOfWord.l0]
        rw [if_pos hc1, if_pos hc2, if_pos hb, e1]
        rfl
    · obtain ⟨r, hr, a1, a2⟩ := key 0 (by omega)
      refine ⟨r, hr, Ev.step (fun k => ?_) a1, Ev.step (fun k => ?_) a2⟩
      · simp only [impl_MarkovOfWord.l0]
        rw [if_pos hc1, if_pos hc2, if_pos hc1, if_neg hb, e1]
        rfl
      · simp only [spec_MarkovOfWord.l0]
        rw [if_pos hc1, if_pos hc2, if_neg hb, e1]
        rfl
theorem first_is : isMk [1, 2, 5] = true := by decide +kernel
theorem Word_both (s : ByteArray) : ∃ r : List Int × Bool, r.1.length ≤ 3 ∧ Ev (fun k => spec_MarkovOfWord.f k s) r ∧ Ev (fun k => impl_MarkovOfWord.f k s) r := by
  unfold spec_MarkovOfWord.f impl_MarkovOfWord.f
  have e1 := mkLetters_ev s
  have e2 : impl_isWord.f s 108 114 = some (isLR s) := rfl
  rw [e2]
  cases h : isLR s with
  | false =>
    rw [h] at e1
    refine ⟨([], false), by simp, Ev.bind e1 ?_, ?_⟩
    · simp only [Bool.false_eq_true, if_false]
      exact Ev.is rfl
    · simp only [Option.bind_some, Bool.false_eq_true, if_false]
      exact Ev.is rfl
  | true =>
    rw [h] at e1
    unfold isLR at h
    rw [Bool.and_eq_true, decide_eq_true_eq] at h
    obtain ⟨r, hr, a1, a2⟩ := word_from s (by omega) s.size 0 1 2 5 (by omega) first_is
    refine ⟨r, hr, Ev.bind e1 ?_, ?_⟩
    · simp only [if_true]
      exact a2
    · simp only [Option.bind_some, if_true]
      exact a1
end Go.Proofs.Ythkmbkibceojlaa.P
