/- The neighbours of a Christoffel word: both texts. -/
import Derived.Test.YtkphmbcoefkilaaUchFactors
import Derived.Test.YtkphmbcoefkilaaPFimplNeighbourWords
import Derived.Test.YtkphmbcoefkilaaPFspecNeighbourWords
namespace Go.Proofs.Ytkphmbcoefkilaa.P
set_option linter.unusedVariables false
set_option linter.unusedSimpArgs false
open Go.RowKit Go.Proofs.YtkphmbcoefkilaaW.PrintWords Go.Proofs.YtkphmbcoefkilaaW.PrintLast Go.Proofs.YtkphmbcoefkilaaW.PrintMore
def neighboursOf (s : ByteArray) : ByteArray × ByteArray × Bool :=
  if (factorsOf s).2.2 = true then (if (s.size : Int) + mx ((factorsOf s).1.size : Int) ((factorsOf s).2.1.size : Int) > 40 then ((⟨#[]⟩ : ByteArray), (⟨#[]⟩ : ByteArray), false) else ((factorsOf s).1 ++ s, s ++ (factorsOf s).2.1, true)) else ((⟨#[]⟩ : ByteArray), (⟨#[]⟩ : ByteArray), false)
theorem most_mx (a b : Int) : spec_l1Most.f a b = some (mx a b) := by
  unfold spec_l1Most.f mx
  split <;> split <;> first | rfl | (congr 1; omega)
theorem factors_size (s : ByteArray) (h : (factorsOf s).2.2 = true) : s.size ≤ 40 ∧ (factorsOf s).1.size ≤ 40 ∧ (factorsOf s).2.1.size ≤ 40 := by
  unfold factorsOf at h ⊢
  cases ht : isTwo s with
  | false => rw [ht] at h; simp [cutAt] at h
  | true =>
    obtain ⟨h1, h2, h3⟩ := isTwo_iff.1 ht
    obtain ⟨_, h40, hl⟩ := isLet_iff.1 h1
    obtain ⟨k, hk, _, _⟩ := two_split ht
    simp only [if_true, hk, cutAt, ByteArray.size_extract]
    omega
theorem neighbours_both (s : ByteArray) : Ev (fun k => spec_NeighbourWords.f k s) (neighboursOf s) ∧ Ev (fun k => impl_NeighbourWords.f k s) (neighboursOf s) := by
  have e1 := spec_FactorsOf_ev s
  have e2 := impl_FactorsOf_ev s
  have hs := factors_size s
  unfold spec_NeighbourWords.f impl_NeighbourWords.f neighboursOf
  generalize factorsOf s = r at e1 e2 hs
  obtain ⟨u, v, ok⟩ := r
  cases ok with
  | false =>
    refine ⟨Ev.bind e1 ?_, Ev.bind e2 ?_⟩
    · simp only [Bool.false_eq_true, if_false]
      exact Ev.is rfl
    · simp only [Bool.false_eq_true, if_false]
      exact Ev.is rfl
  | true =>
    have hb := hs rfl
    simp only at hb
    have hm : 0 ≤ mx (u.size : Int) (v.size : Int) ∧ mx (u.size : Int) (v.size : Int) ≤ 40 := by unfold mx; split <;> omega
    have w1 : wrap64 ((s.size : Int) + mx (u.size : Int) (v.size : Int)) = (s.size : Int) + mx (u.size : Int) (v.size : Int) := w64 (by omega) (by omega)
    have c1 : u.size + s.size ≤ 9223372036854775807 := by omega
    have c2 : s.size + v.size ≤ 9223372036854775807 := by omega
    refine ⟨Ev.bind e1 ?_, Ev.bind e2 ?_⟩
    · simp only [if_true, most_mx, Option.bind_some, w1, c1, c2]
      by_cases h : (s.size : Int) + mx (u.size : Int) (v.size : Int) > 40
      · simp only [h, if_true]
        exact Ev.is rfl
      · simp only [h, if_false]
        exact Ev.is rfl
    · simp only [if_true, w1, c1, c2]
      by_cases h : (s.size : Int) + mx (u.size : Int) (v.size : Int) > 40
      · simp only [h, if_true]
        exact Ev.is rfl
      · simp only [h, if_false]
        exact Ev.is rfl
end Go.Proofs.Ytkphmbcoefkilaa.P
