/- MirrorWord: the program and the reference. -/
import Derived.Test.YtbpdjlpfmhanlaaUletters
import Derived.Test.YtbpdjlpfmhanlaaPFspecMirrorWord
import Derived.Test.YtbpdjlpfmhanlaaGMirrorWord
namespace Go.Proofs.Ytbpdjlpfmhanlaa.P
set_option linter.unusedVariables false
set_option linter.unusedSimpArgs false
open Go.RowKit Go.Proofs.YtbpdjlpfmhanlaaW.PrintWords Go.Proofs.YtbpdjlpfmhanlaaW.PrintLast Go.Proofs.YtbpdjlpfmhanlaaW.PrintMore

theorem mirror_append (xs ys : List Int) : strOfNums xs ++ strOfNums ys = strOfNums (xs ++ ys) := by
  unfold strOfNums
  apply ByteArray.ext
  simp
theorem mirror_size (xs : List Int) : (strOfNums xs).size = xs.length := by
  unfold strOfNums
  simp [ByteArray.size]
theorem mirror_from (s : ByteArray) (hs : s.size ≤ 40) (hl : (bytesOf s).all (oneOf 97 98) = true) (i : Nat) : ∀ xs : List Int, i ≤ s.size → xs.length + i = s.size →
    Ev (fun k => spec_MirrorWord.l0 k s (strOfNums xs) ((i : Int) - 1)) (strOfNums (xs ++ ((bytesOf s).take i).reverse.map flip195), true) := by
  induction i with
  | zero =>
    intro xs hi hx
    refine Ev.step (f := fun _ => some (strOfNums xs, true)) (fun k => ?_) (Ev.is (by simp))
    simp only [spec_MirrorWord.l0]
    rw [if_neg (by omega)]
  | succ i ih =>
    intro xs hi hx
    have hb : i < (bytesOf s).length := by rw [bytesOf_length]; omega
    have hin : oneOf 97 98 (bt s (i : Int)) = true := by
      rw [← rd_bytesOf, rd_lt _ i hb]
      exact List.all_eq_true.1 hl _ (List.getElem_mem _)
    have e1 : ((i + 1 : Nat) : Int) - 1 = (i : Int) := by omega
    have w1 : wrap64 ((i : Int) - 1) = (i : Int) - 1 := w64 (by omega) (by omega)
    have hsz : (strOfNums xs).size + 1 ≤ 9223372036854775807 := by rw [mirror_size]; omega
    have a97 : strOfNums xs ++ (⟨#[97]⟩ : ByteArray) = strOfNums (xs ++ [97]) := mirror_append xs [97]
    have a98 : strOfNums xs ++ (⟨#[98]⟩ : ByteArray) = strOfNums (xs ++ [98]) := mirror_append xs [98]
    have ht : ((bytesOf s).take (i + 1)).reverse.map flip195 = flip195 (bt s (i : Int)) :: ((bytesOf s).take i).reverse.map flip195 := by
      rw [List.take_succ_eq_append_getElem hb, List.reverse_append, ← rd_lt _ i hb, rd_bytesOf]
      rfl
    rw [ht, e1]
    have hcs : bt s (i : Int) = 97 ∨ bt s (i : Int) = 98 := by
      simp [oneOf] at hin
      exact hin
    rcases hcs with h | h
    · have e : xs ++ flip195 (bt s (i : Int)) :: ((bytesOf s).take i).reverse.map flip195 = (xs ++ [98]) ++ ((bytesOf s).take i).reverse.map flip195 := by rw [h]; simp [flip195]
      rw [e]
      refine Ev.step (f := fun k => spec_MirrorWord.l0 k s (strOfNums (xs ++ [98])) ((i : Int) - 1)) (fun k => ?_) (ih _ (by omega) (by simp; omega))
      simp only [spec_MirrorWord.l0]
      simp only [h, w1, hsz, a97, a98]
      simp
      omega
    · have e : xs ++ flip195 (bt s (i : Int)) :: ((bytesOf s).take i).reverse.map flip195 = (xs ++ [97]) ++ ((bytesOf s).take i).reverse.map flip195 := by rw [h]; simp [flip195]
      rw [e]
      refine Ev.step (f := fun k => spec_MirrorWord.l0 k s (strOfNums (xs ++ [97])) ((i : Int) - 1)) (fun k => ?_) (ih _ (by omega) (by simp; omega))
      simp only [spec_MirrorWord.l0]
      simp only [h, w1, hsz, a97, a98]
      simp
      omega
def mirrorAns (s : ByteArray) : ByteArray × Bool := if isLet s = true then (mirrorOf s, true) else ((⟨#[]⟩ : ByteArray), false)
theorem MirrorWord_both (s : ByteArray) (hn : s.size ≤ 4611686018427387904) : Ev (fun k => spec_MirrorWord.f k s) (mirrorAns s) ∧ impl_MirrorWord.f s = some (mirrorAns s) := by
  unfold spec_MirrorWord.f impl_MirrorWord.f mirrorAns
  constructor
  · refine Ev.bind (chLetters_ev s) ?_
    cases h : isLet s with
    | false =>
      simp only [Bool.false_eq_true, if_false]
      exact Ev.is rfl
    | true =>
      simp only [if_true]
      have h2 := h
      unfold isLet at h2
      simp only [Bool.and_eq_true, decide_eq_true_eq] at h2
      have hw : wrap64 ((s.size : Int) - 1) = (s.size : Int) - 1 := w64 (by omega) (by omega)
      have := mirror_from s h2.2.1 h2.2.2 s.size [] (Nat.le_refl _) (by simp)
      rw [List.nil_append, List.take_of_length_le (by rw [bytesOf_length]; exact Nat.le_refl _)] at this
      rw [hw]
      exact this
  · rw [impl_IsLetters_is]
    cases h : isLet s <;> rfl
end Go.Proofs.Ytbpdjlpfmhanlaa.P
