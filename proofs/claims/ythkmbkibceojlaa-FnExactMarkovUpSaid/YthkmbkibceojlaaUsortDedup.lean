/- Lists in order, each once. -/
import Derived.Test.YthkmbkibceojlaaUcmp
namespace Go.Proofs.Ythkmbkibceojlaa.P
set_option linter.unusedVariables false
set_option linter.unusedSimpArgs false

def insS (x : List Int) : List (List Int) → List (List Int)
  | [] => [x]
  | y :: t => if cmpL x y < 0 then x :: y :: t else if cmpL x y = 0 then y :: t else y :: insS x t
def sortDedup : List (List Int) → List (List Int)
  | [] => []
  | x :: t => insS x (sortDedup t)
theorem insS_mem (x z : List Int) : ∀ l, z ∈ insS x l ↔ z = x ∨ z ∈ l
  | [] => by simp [insS]
  | y :: t => by
    unfold insS
    split
    · simp
    · split
      · rename_i h
        have := cmpL_eq x y h
        subst this
        simp
      · simp only [List.mem_cons, insS_mem x z t]
        constructor
        · rintro (h | h | h) <;> simp [h]
        · rintro (h | h | h) <;> simp [h]
theorem insS_sorted (x : List Int) : ∀ l, (l.Pairwise fun a b => cmpL a b < 0) → (insS x l).Pairwise fun a b => cmpL a b < 0
  | [], _ => by simp [insS]
  | y :: t, h => by
    unfold insS
    rw [List.pairwise_cons] at h
    split
    · rename_i h1
      rw [List.pairwise_cons, List.pairwise_cons]
      refine ⟨fun z hz => ?_, h.1, h.2⟩
      rcases List.mem_cons.1 hz with e | hz
      · subst e; exact h1
      · exact cmpL_trans _ _ _ h1 (h.1 z hz)
    · split
      · rw [List.pairwise_cons]; exact h
      · rename_i h1 h2
        rw [List.pairwise_cons]
        refine ⟨fun z hz => ?_, insS_sorted x t h.2⟩
        rcases (insS_mem x z t).1 hz with e | hz
        · subst e
          rw [cmpL_anti]
          omega
        · exact h.1 z hz
theorem sortDedup_mem (z : List Int) : ∀ l, z ∈ sortDedup l ↔ z ∈ l
  | [] => by simp [sortDedup]
  | x :: t => by simp [sortDedup, insS_mem, sortDedup_mem z t]
theorem sortDedup_sorted : ∀ l, (sortDedup l).Pairwise fun a b => cmpL a b < 0
  | [] => by simp [sortDedup]
  | x :: t => insS_sorted x _ (sortDedup_sorted t)
theorem sortDedup_is {l m : List (List Int)} (h1 : m.Pairwise fun a b => cmpL a b < 0) (h2 : ∀ z, z ∈ m ↔ z ∈ l) : m = sortDedup l :=
  cmpL_total.uniqueS h1 (sortDedup_sorted l) (fun z => (h2 z).trans (sortDedup_mem z l).symm)
end Go.Proofs.Ythkmbkibceojlaa.P
