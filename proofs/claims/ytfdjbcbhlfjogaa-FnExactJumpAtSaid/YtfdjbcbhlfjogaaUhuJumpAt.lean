/- JumpAt: both texts. -/
import Derived.Test.YtfdjbcbhlfjogaaUhuJump
import Derived.Test.YtfdjbcbhlfjogaaPFimplJumpAt
import Derived.Test.YtfdjbcbhlfjogaaPFspecJumpAt
namespace Go.Proofs.Ytfdjbcbhlfjogaa.P
set_option linter.unusedVariables false
set_option linter.unusedSimpArgs false
open Go.RowKit Go.Proofs.YtfdjbcbhlfjogaaW.PrintWords Go.Proofs.YtfdjbcbhlfjogaaW.PrintLast Go.Proofs.YtfdjbcbhlfjogaaW.PrintMore
def jumpAt (l : List Int) (a b i : Int) : List Int × Bool := if huSol l a b && decide (0 ≤ i ∧ i < l.length) then jumpOf l a i.toNat else ([], false)
theorem spec_JumpAt_ev (l : List Int) (a b i : Int) (hn : l.length ≤ 4611686018427387904) : Ev (fun k => spec_JumpAt.f k l a b i) (jumpAt l a b i) := by
  unfold spec_JumpAt.f jumpAt
  refine spec_tests l a b i hn ([], false) _ _ (fun hs h0 h1 => ?_) (fun h => by rw [h]; rfl)
  rw [hs, decide_eq_true ⟨h0, h1⟩]
  have hE := (jump_both (huSol_iff.1 hs).1 (huSol_iff.1 hs).2 i.toNat (by omega)).2
  rw [Int.toNat_of_nonneg h0] at hE
  exact Ev.bind hE (Ev.is rfl)
theorem impl_JumpAt_ev (l : List Int) (a b i : Int) : Ev (fun k => impl_JumpAt.f k l a b i) (jumpAt l a b i) := by
  unfold impl_JumpAt.f jumpAt
  refine impl_tests l a b i ([], false) _ _ (fun hs h0 h1 => ?_) (fun h => by rw [h]; rfl)
  rw [hs, decide_eq_true ⟨h0, h1⟩]
  have hE := (jump_both (huSol_iff.1 hs).1 (huSol_iff.1 hs).2 i.toNat (by omega)).1
  rw [Int.toNat_of_nonneg h0] at hE
  exact Ev.bind hE (Ev.is rfl)
theorem jumpAt_length (l : List Int) (a b i : Int) : (jumpAt l a b i).1.length ≤ 4 := by
  unfold jumpAt
  cases h : huSol l a b && decide (0 ≤ i ∧ i < l.length) with
  | false => simp
  | true =>
    have h1 := (huIs_iff.1 (huSol_iff.1 (Bool.and_eq_true _ _ ▸ h).1).2).1
    simp only [if_true]
    unfold jumpOf
    split
    · rw [jmp_length]; omega
    · simp
end Go.Proofs.Ytfdjbcbhlfjogaa.P
