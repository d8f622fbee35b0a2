/- Turns are told in order, mirrored twice letters are the same, and neighbours of a word have its factors. No condition. -/
import Derived.Test.YtkphmbcoefkilaaPackFnLettersTurned6
import Derived.Laws.Cover1
import Derived.Sort.Walk0
-- UstrLeq
namespace Go.Proofs.Ytkphmbcoefkilaa.P
theorem leq_true {x y : List UInt8} (h : (Op.bytesLess y x) = true) : (Op.bytesLess x y || x == y) = false := by
  rw [Go.Proofs.bytesLess_eq] at h ⊢
  have h1 := of_decide_eq_true h
  rw [Bool.or_eq_false_iff]
  exact ⟨decide_eq_false (fun h2 => List.lt_irrefl _ (List.lt_trans h1 h2)), beq_eq_false_iff_ne.2 (fun e => by subst e; exact List.lt_irrefl _ h1)⟩
theorem leq2_true {x y : List UInt8} (h : (Op.bytesLess y x) = true) : Op.bytesLess x y = false := (Bool.or_eq_false_iff.1 (leq_true h)).1
theorem leq3_true {x y : List UInt8} (h : (Op.bytesLess y x) = true) : (x == y) = false := (Bool.or_eq_false_iff.1 (leq_true h)).2
theorem leq_false {x y : List UInt8} (h : (Op.bytesLess y x) = false) : (Op.bytesLess x y || x == y) = true := by
  rw [Go.Proofs.bytesLess_eq] at h ⊢
  have h1 := of_decide_eq_false h
  rw [Bool.or_eq_true]
  rcases List.le_iff_lt_or_eq.1 (List.not_lt.1 h1) with h2 | h2
  · exact .inl (decide_eq_true h2)
  · exact .inr (beq_iff_eq.2 h2)
end Go.Proofs.Ytkphmbcoefkilaa.P
