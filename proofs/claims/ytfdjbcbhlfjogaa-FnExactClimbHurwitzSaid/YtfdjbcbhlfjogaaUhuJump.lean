/- The jump: both texts; it leads to a solution. -/
import Derived.Test.YtfdjbcbhlfjogaaUhuAt
import Derived.Test.YtfdjbcbhlfjogaaUhuSort
import Derived.Test.YtfdjbcbhlfjogaaGcloneInts
import Derived.Test.YtfdjbcbhlfjogaaPFspechuJump
import Derived.Test.YtfdjbcbhlfjogaaPFimpljump
namespace Go.Proofs.Ytfdjbcbhlfjogaa.P
set_option linter.unusedVariables false
set_option linter.unusedSimpArgs false
open Go.RowKit Go.Proofs.YtfdjbcbhlfjogaaW.PrintWords Go.Proofs.YtfdjbcbhlfjogaaW.PrintLast Go.Proofs.YtfdjbcbhlfjogaaW.PrintMore

theorem clone_is (l : List Int) (h : l.length < 17592186044416) : slices_Clone_int_int.f l = some l := by
  unfold slices_Clone_int_int.f
  rw [if_pos h]
theorem sqs_perm {l m : List Int} (h : l.Perm m) : sqs l = sqs m := by
  induction h with
  | nil => rfl
  | cons x _ ih => simp only [sqs, ih]
  | swap x y l => simp only [sqs]; omega
  | trans _ _ h1 h2 => exact h1.trans h2
theorem prd_perm {l m : List Int} (h : l.Perm m) : prd l = prd m := by
  induction h with
  | nil => rfl
  | cons x _ ih => simp only [prd, ih]
  | swap x y l => simp only [prd]; grind
  | trans _ _ h1 h2 => exact h1.trans h2
theorem fallsFrom_iff (p : Int) (l : List Int) : fallsFrom p l = true ↔ (p :: l).Pairwise (· ≥ ·) := by
  induction l generalizing p with
  | nil => simp [fallsFrom]
  | cons x l ih =>
    rw [fallsFrom, Bool.and_eq_true, ih, List.pairwise_cons (a := p) (l := x :: l), decide_eq_true_eq]
    constructor
    · rintro ⟨h1, h2⟩
      refine ⟨fun y hy => ?_, h2⟩
      rcases List.mem_cons.1 hy with rfl | hy
      · exact h1
      · have := (List.pairwise_cons.1 h2).1 y hy
        omega
    · rintro ⟨h1, h2⟩
      exact ⟨h1 x List.mem_cons_self, h2⟩
theorem falls_iff (l : List Int) : falls l = true ↔ l.Pairwise (· ≥ ·) := by
  cases l with
  | nil => simp [falls]
  | cons x l => exact fallsFrom_iff x l
theorem rd_set (l : List Int) (i : Nat) (y : Int) (hi : i < l.length) : rd (l.set i y) (i : Int) = y := by rw [rd_lt _ _ (by rw [List.length_set]; exact hi), List.getElem_set_self]
theorem erase_set (l : List Int) (i : Nat) (y : Int) : (l.set i y).eraseIdx i = l.eraseIdx i := by
  induction l generalizing i with
  | nil => rfl
  | cons x l ih =>
    cases i with
    | zero => rfl
    | succ i => rw [List.set_cons_succ, List.eraseIdx_cons_succ, List.eraseIdx_cons_succ, ih]

/-- Behind the jump at i. -/
def jmp (l : List Int) (a : Int) (i : Nat) : List Int := down (l.set i (oth l a i))
def jumpOf (l : List Int) (a : Int) (i : Nat) : List Int × Bool := if inB 1 100000 (oth l a i) then (jmp l a i, true) else ([], false)
theorem jmp_length (l : List Int) (a : Int) (i : Nat) : (jmp l a i).length = l.length := by rw [jmp, down_length, List.length_set]
/-- The sum of squares and the product behind a jump: Vieta. -/
theorem vieta {l : List Int} {a b : Int} {i : Nat} (hi : i < l.length) (h : sqs l = a * prd l + b) : sqs (jmp l a i) = a * prd (jmp l a i) + b := by
  rw [jmp, sqs_perm (down_perm _), prd_perm (down_perm _)]
  have hi2 : i < (l.set i (oth l a i)).length := by rw [List.length_set]; exact hi
  rw [sqs_mem _ i hi2, prd_erase _ i hi2, rd_set l i _ hi, erase_set]
  rw [sqs_mem l i hi, prd_erase l i hi] at h
  unfold oth
  grind
theorem jmp_is {l : List Int} {a b : Int} {i : Nat} (hi : i < l.length) (h : huIs l a b = true) (ho : inB 1 100000 (oth l a i) = true) : huIs (jmp l a i) a b = true := by
  obtain ⟨h1, h2, h3, h4⟩ := huIs_iff.1 h
  refine huIs_iff.2 ⟨by rw [jmp_length]; exact h1, fun x hx => ?_, (falls_iff _).2 (down_pairwise _), vieta hi h4⟩
  have hx2 := (down_perm _).mem_iff.1 hx
  rcases List.mem_or_eq_of_mem_set hx2 with hm | rfl
  · exact h2 x hm
  · exact inB_iff.1 ho
theorem jump_both {l : List Int} {a b : Int} (hg : huGv a b = true) (h : huIs l a b = true) (i : Nat) (hi : i < l.length) : Ev (fun k => impl_jump.f k l a (i : Int)) (jumpOf l a i) ∧ Ev (fun k => spec_huJump.f k l a (i : Int)) (jumpOf l a i) := by
  obtain ⟨e1, e2⟩ := other_both hg h i hi
  obtain ⟨h1, h2, h3, h4⟩ := huIs_iff.1 h
  have c1 : (0 : Int) ≤ (i : Int) := by omega
  have c2 : (i : Int) < (l.length : Int) := by omega
  unfold impl_jump.f spec_huJump.f jumpOf
  constructor
  · refine Ev.bind e1 ?_
    rw [within_inB]
    refine Ev.bind0 rfl ?_
    cases ho : inB 1 100000 (oth l a i) with
    | false =>
      simp only [Bool.false_eq_true, if_false]
      exact Ev.is rfl
    | true =>
      simp only [if_true]
      refine Ev.bind0 (clone_is l (by omega)) ?_
      simp only [c1, c2, if_true, Int.toNat_natCast]
      refine Ev.bind0 (sort_is _ (by rw [List.length_set]; omega)) ?_
      refine Ev.bind (reverse_ev _ (by rw [up_length, List.length_set]; omega)) (Ev.is rfl)
  · refine Ev.bind e2 ?_
    rw [l1In_inB]
    refine Ev.bind0 rfl ?_
    cases ho : inB 1 100000 (oth l a i) with
    | false =>
      simp only [Bool.false_eq_true, if_false]
      exact Ev.is rfl
    | true =>
      simp only [if_true]
      refine Ev.bind0 (own_is l (by omega)) ?_
      simp only [c1, c2, if_true, Int.toNat_natCast]
      exact Ev.bind (huSort_ev _ (by rw [List.length_set]; omega)) (Ev.is rfl)
end Go.Proofs.Ytfdjbcbhlfjogaa.P
