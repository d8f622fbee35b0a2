/- spec.huSort puts numbers into falling order. -/
import Derived.Test.YtfdjbcbhlfjogaaUdown
import Derived.Test.YtfdjbcbhlfjogaaPFspechuSort
namespace Go.Proofs.Ytfdjbcbhlfjogaa.P
set_option linter.unusedVariables false
set_option linter.unusedSimpArgs false
open Go.RowKit Go.Proofs.YtfdjbcbhlfjogaaW.PrintWords Go.Proofs.YtfdjbcbhlfjogaaW.PrintLast

def ins (x : Int) : List Int → List Int
  | [] => [x]
  | y :: l => if y ≥ x then y :: ins x l else x :: y :: l
theorem ins_length (x : Int) (l : List Int) : (ins x l).length = l.length + 1 := by
  induction l with
  | nil => rfl
  | cons y l ih =>
    rw [ins]
    split
    · simp [ih]
    · simp
theorem ins_perm (x : Int) (l : List Int) : (ins x l).Perm (x :: l) := by
  induction l with
  | nil => exact List.Perm.refl _
  | cons y l ih =>
    rw [ins]
    split
    · exact (List.Perm.cons y ih).trans (List.Perm.swap x y l)
    · exact List.Perm.refl _
theorem ins_pairwise (x : Int) (l : List Int) (h : l.Pairwise (· ≥ ·)) : (ins x l).Pairwise (· ≥ ·) := by
  induction l with
  | nil => simp [ins]
  | cons y l ih =>
    rw [List.pairwise_cons] at h
    rw [ins]
    split
    · rename_i hxy
      rw [List.pairwise_cons]
      refine ⟨fun z hz => ?_, ih h.2⟩
      rcases List.mem_cons.1 ((ins_perm x l).mem_iff.1 hz) with rfl | hz
      · exact hxy
      · exact h.1 z hz
    · rename_i hxy
      rw [List.pairwise_cons]
      refine ⟨fun z hz => ?_, List.pairwise_cons.2 h⟩
      rcases List.mem_cons.1 hz with rfl | hz
      · omega
      · have := h.1 z hz
        omega
theorem l1Own_is (l : List Int) (h : l.length < 17592186044416) : spec_l1Own.f l = some l := by
  unfold spec_l1Own.f
  simp [h]
theorem huSort_in (o : List Int) (x : Int) (l : List Int) (i : Nat) (hn : o.length ≤ 1000000) (hi : i < l.length) (hl : l.length ≤ 1000000) (r : List Int) (d : Nat) : ∀ j : Nat, j + d = o.length → Ev (fun k => spec_huSort.l0 k (o.take j ++ ins x (o.drop j)) l (l.length : Int) ((i + 1 : Nat) : Int)) r → Ev (fun k => spec_huSort.l1 k o x (j : Int) l (l.length : Int) (i : Int)) r := by
  have hput : ∀ j : Nat, j ≤ o.length → ∀ k, (if (0 : Int) ≤ (j : Int) then (if (j : Int) ≤ (o.length : Int) then ((spec_l1Own.f (o.take ((j : Int)).toNat)).bind fun t301 => (if t301.length < 17592186044416 then ((some (t301 ++ [x] : List Int)).bind fun y304 => ((some (o.drop ((j : Int)).toNat : List Int)).bind fun y307 => (if y304.length + y307.length < 17592186044416 then (spec_huSort.l0 k (y304 ++ y307) l (l.length : Int) (wrap64 ((i : Int) + 1))) else (none)))) else (none))) else (none)) else (none)) = spec_huSort.l0 k (o.take j ++ x :: o.drop j) l (l.length : Int) ((i + 1 : Nat) : Int) := by
    intro j hj k
    rw [if_pos (by omega), if_pos (by omega), Int.toNat_natCast, l1Own_is _ (by rw [List.length_take]; omega), w64_succ (n := l.length) hi (by omega)]
    simp only [Option.bind_some]
    rw [if_pos (by rw [List.length_take]; omega), if_pos (by rw [List.length_append, List.length_take, List.length_drop]; simp; omega), List.append_assoc, List.singleton_append]
  induction d with
  | zero =>
    intro j hid hE
    rw [List.drop_eq_nil_of_le (by omega), ins] at hE
    refine Ev.step (f := fun k => spec_huSort.l0 k (o.take j ++ [x]) l (l.length : Int) ((i + 1 : Nat) : Int)) (fun k => ?_) hE
    simp only [spec_huSort.l1]
    rw [if_neg (by omega), hput j (by omega) k, List.drop_eq_nil_of_le (by omega)]
  | succ d ih =>
    intro j hid hE
    have hdrop := rd_drop o j (by omega)
    rw [hdrop, ins] at hE
    by_cases h : rd o (j : Int) ≥ x
    · rw [if_pos h] at hE
      refine Ev.step (f := fun k => spec_huSort.l1 k o x ((j + 1 : Nat) : Int) l (l.length : Int) (i : Int)) (fun k => ?_) (ih (j + 1) (by omega) ?_)
      · simp only [spec_huSort.l1]
        rw [if_pos (by omega), if_pos (by omega), if_pos h, w64_succ (n := o.length) (by omega) (by omega)]
      · rw [List.take_succ_eq_append_getElem (by omega), List.append_assoc, List.singleton_append, ← rd_lt o j (by omega)]
        exact hE
    · rw [if_neg h] at hE
      refine Ev.step (f := fun k => spec_huSort.l0 k (o.take j ++ x :: o.drop j) l (l.length : Int) ((i + 1 : Nat) : Int)) (fun k => ?_) (by rw [hdrop]; exact hE)
      have hp := hput j (by omega) k
      rw [if_pos (by omega)] at hp
      simp only [spec_huSort.l1]
      rw [if_pos (by omega), if_pos (by omega), if_neg h]
      exact hp
theorem huSort_upto (l : List Int) (hl : l.length ≤ 1000000) (d : Nat) : ∀ (i : Nat) (o : List Int), i + d = l.length → o.length = i → Ev (fun k => spec_huSort.l0 k o l (l.length : Int) (i : Int)) ((l.drop i).foldl (fun o x => ins x o) o) := by
  induction d with
  | zero =>
    intro i o hid ho
    refine Ev.step (f := fun _ => some o) (fun k => by simp only [spec_huSort.l0]; rw [if_neg (by omega)]) ?_
    rw [List.drop_eq_nil_of_le (by omega)]
    exact Ev.is rfl
  | succ d ih =>
    intro i o hid ho
    refine Ev.step (f := fun k => spec_huSort.l1 k o (rd l (i : Int)) ((0 : Nat) : Int) l (l.length : Int) (i : Int)) (fun k => ?_) ?_
    · simp only [spec_huSort.l0]
      rw [if_pos (by omega), if_pos (by omega), if_pos (by omega)]
      rfl
    · refine huSort_in o _ l i (by omega) (by omega) hl _ o.length 0 (by omega) ?_
      rw [List.take_zero, List.drop_zero, List.nil_append, rd_drop l i (by omega), List.foldl_cons]
      exact ih (i + 1) _ (by omega) (by rw [ins_length]; omega)
theorem foldl_ins (l : List Int) : ∀ o : List Int, o.Pairwise (· ≥ ·) → (l.foldl (fun o x => ins x o) o).Pairwise (· ≥ ·) ∧ (l.foldl (fun o x => ins x o) o).Perm (o ++ l) := by
  induction l with
  | nil => intro o ho; exact ⟨ho, by rw [List.append_nil]; exact List.Perm.refl _⟩
  | cons x l ih =>
    intro o ho
    have h := ih (ins x o) (ins_pairwise x o ho)
    refine ⟨h.1, h.2.trans ?_⟩
    exact ((ins_perm x o).append_right l).trans List.perm_middle.symm
theorem huSort_ev (l : List Int) (hl : l.length ≤ 1000000) : Ev (fun k => spec_huSort.f k l) (down l) := by
  unfold spec_huSort.f
  have h := huSort_upto l hl l.length 0 [] (by omega) rfl
  have h2 := foldl_ins l [] List.Pairwise.nil
  rw [List.drop_zero, down_unique h2.2 h2.1] at h
  exact h
end Go.Proofs.Ytfdjbcbhlfjogaa.P
