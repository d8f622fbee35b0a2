/- Each solution has a way down along which the sum falls, to a fundamental one, and is made again from it by the word up. No condition. -/
import Derived.Test.YtgpoljimomfbbaaPackFnWaysOfHurwitz5
-- Usorted
namespace Go.Proofs.Ytgpoljimomfbbaa.P
set_option linter.unusedVariables false
set_option linter.unusedSimpArgs false
open Go.RowKit Go.Proofs.YtgpoljimomfbbaaW.PrintWords Go.Proofs.YtgpoljimomfbbaaW.PrintLast

def up (l : List Int) : List Int := l.mergeSort fun x y => decide (x ≤ y)
theorem up_perm (l : List Int) : (up l).Perm l := List.mergeSort_perm _ _
theorem up_pairwise (l : List Int) : (up l).Pairwise (· ≤ ·) := by
  have h := List.pairwise_mergeSort (le := fun x y : Int => decide (x ≤ y)) (by intro a b c h1 h2; simp at *; omega) (by intro a b; simp; omega) l
  exact h.imp (by intro a b h; simpa using h)
theorem up_unique {l m : List Int} (hp : m.Perm l) (hs : m.Pairwise (· ≤ ·)) : m = up l :=
  List.Perm.eq_of_pairwise (le := (· ≤ ·)) (fun a b _ _ h1 h2 => by omega) hs (up_pairwise l) (hp.trans (up_perm l).symm)
theorem up_length (l : List Int) : (up l).length = l.length := (up_perm l).length_eq
theorem sort_is (l : List Int) (h : l.length < 4611686018427387904) : slices_Sort_int_int.f l = some (up l) := by
  unfold slices_Sort_int_int.f
  rw [if_pos h]
  rfl
end Go.Proofs.Ytgpoljimomfbbaa.P

-- Udown
namespace Go.Proofs.Ytgpoljimomfbbaa.P
set_option linter.unusedVariables false
set_option linter.unusedSimpArgs false
open Go.RowKit Go.Proofs.YtgpoljimomfbbaaW.PrintWords Go.Proofs.YtgpoljimomfbbaaW.PrintLast

def down (l : List Int) : List Int := (up l).reverse
theorem down_perm (l : List Int) : (down l).Perm l := (List.reverse_perm _).trans (up_perm l)
theorem down_pairwise (l : List Int) : (down l).Pairwise (· ≥ ·) := by
  unfold down
  rw [List.pairwise_reverse]
  exact up_pairwise l
theorem down_unique {l m : List Int} (hp : m.Perm l) (hs : m.Pairwise (· ≥ ·)) : m = down l :=
  List.Perm.eq_of_pairwise (le := (· ≥ ·)) (fun a b _ _ h1 h2 => by omega) hs (down_pairwise l) (hp.trans (down_perm l).symm)
theorem down_length (l : List Int) : (down l).length = l.length := (down_perm l).length_eq

/-- The first i and the last i have changed places. -/
def turned (xs : List Int) (i : Nat) : List Int := (List.range xs.length).map fun p => if p < i ∨ xs.length - i ≤ p then xs.getD (xs.length - 1 - p) 0 else xs.getD p 0
theorem turned_length (xs : List Int) (i : Nat) : (turned xs i).length = xs.length := by simp [turned]
theorem turned_zero (xs : List Int) : turned xs 0 = xs := by
  apply List.ext_getElem
  · simp [turned]
  · intro p h1 h2
    simp [turned, List.getD_eq_getElem?_getD, h2]
    omega
theorem turned_end (xs : List Int) (i : Nat) (h : xs.length ≤ 2 * i + 1) : turned xs i = xs.reverse := by
  apply List.ext_getElem
  · simp [turned]
  · intro p h1 h2
    have h3 : p < xs.length := by simpa using h2
    rw [List.getElem_reverse]
    simp only [turned, List.getElem_map, List.getElem_range]
    by_cases c : p < i ∨ xs.length - i ≤ p
    · rw [if_pos c]
      simp [List.getD_eq_getElem?_getD, show xs.length - 1 - p < xs.length by omega]
    · rw [if_neg c]
      have e : p = xs.length - 1 - p := by omega
      simp only [List.getD_eq_getElem?_getD]
      rw [List.getElem?_eq_getElem h3, Option.getD_some]
      congr 1
theorem turned_succ (xs : List Int) (i : Nat) (h : 2 * i + 1 < xs.length) : turned xs (i + 1) = ((turned xs i).set i ((turned xs i).getD (xs.length - 1 - i) 0)).set (xs.length - 1 - i) ((turned xs i).getD i 0) := by
  have g : ∀ p, p < xs.length → (turned xs i).getD p 0 = if p < i ∨ xs.length - i ≤ p then xs.getD (xs.length - 1 - p) 0 else xs.getD p 0 := by
    intro p hp
    simp [turned, List.getD_eq_getElem?_getD, hp]
  rw [g i (by omega), g (xs.length - 1 - i) (by omega), if_neg (by omega), if_neg (by omega)]
  apply List.ext_getElem
  · simp [turned]
  · intro p h1 h2
    have h3 : p < xs.length := by simpa [turned] using h1
    rw [List.getElem_set, List.getElem_set]
    simp only [turned, List.getElem_map, List.getElem_range]
    by_cases e1 : xs.length - 1 - i = p
    · rw [if_pos e1, if_pos (by omega)]
      congr 1
      omega
    · rw [if_neg e1]
      by_cases e2 : i = p
      · rw [if_pos e2, if_pos (by omega)]
        congr 1
        omega
      · rw [if_neg e2]
        by_cases c : p < i ∨ xs.length - i ≤ p
        · rw [if_pos (by omega), if_pos c]
        · rw [if_neg (by omega), if_neg c]
theorem reverse_upto (xs : List Int) (hn : xs.length ≤ 4611686018427387904) (d : Nat) : ∀ i : Nat, xs.length ≤ 2 * i + 2 * d → Ev (fun k => slices_Reverse_int_int.l0 k (turned xs i) (i : Int) ((xs.length : Int) - 1 - i)) xs.reverse := by
  induction d with
  | zero =>
    intro i hid
    refine Ev.step (f := fun _ => some (turned xs i)) (fun k => by simp only [slices_Reverse_int_int.l0]; rw [if_neg (by omega)]) ?_
    exact Ev.is (by rw [turned_end xs i (by omega)])
  | succ d ih =>
    intro i hid
    by_cases h : 2 * i + 1 < xs.length
    · have hl := turned_length xs i
      have e1 : wrap64 ((i : Int) + 1) = ((i + 1 : Nat) : Int) := w64_succ (n := xs.length) (by omega) hn
      have e2 : wrap64 ((xs.length : Int) - 1 - i - 1) = (xs.length : Int) - 1 - ((i + 1 : Nat) : Int) := by rw [w64 (by omega) (by omega)]; omega
      have e3 : ((xs.length : Int) - 1 - i).toNat = xs.length - 1 - i := by omega
      refine Ev.step (f := fun k => slices_Reverse_int_int.l0 k (turned xs (i + 1)) ((i + 1 : Nat) : Int) ((xs.length : Int) - 1 - ((i + 1 : Nat) : Int))) (fun k => ?_) (ih (i + 1) (by omega))
      simp only [slices_Reverse_int_int.l0]
      rw [if_pos (by omega), if_pos (by omega), if_pos (by omega), if_pos (by omega), if_pos (by omega), e1, e2, turned_succ xs i h]
      simp only [rd, e3, Int.toNat_natCast]
    · refine Ev.step (f := fun _ => some (turned xs i)) (fun k => by simp only [slices_Reverse_int_int.l0]; rw [if_neg (by omega)]) ?_
      exact Ev.is (by rw [turned_end xs i (by omega)])
theorem reverse_ev (xs : List Int) (hn : xs.length ≤ 4611686018427387904) : Ev (fun k => slices_Reverse_int_int.f k xs) xs.reverse := by
  unfold slices_Reverse_int_int.f
  rw [w64 (by omega) (by omega)]
  have h := reverse_upto xs hn xs.length 0 (by omega)
  rw [turned_zero] at h
  have e : (xs.length : Int) - 1 - ((0 : Nat) : Int) = (xs.length : Int) - 1 := by omega
  rw [e] at h
  exact h
end Go.Proofs.Ytgpoljimomfbbaa.P

-- UhuSort
namespace Go.Proofs.Ytgpoljimomfbbaa.P
set_option linter.unusedVariables false
set_option linter.unusedSimpArgs false
open Go.RowKit Go.Proofs.YtgpoljimomfbbaaW.PrintWords Go.Proofs.YtgpoljimomfbbaaW.PrintLast

def ins (x : Int) : List Int → List Int
  | [] => [x]
  | y :: l => if y ≥ x then y :: ins x l else x :: y :: l
theorem ins_length (x : Int) (l : List Int) : (ins x l).length = l.length + 1 := by
  induction l with
  | nil => rfl
  | cons y l ih =>
    rw [ins]
    split
    · simp [ih]
    · simp
theorem ins_perm (x : Int) (l : List Int) : (ins x l).Perm (x :: l) := by
  induction l with
  | nil => exact List.Perm.refl _
  | cons y l ih =>
    rw [ins]
    split
    · exact (List.Perm.cons y ih).trans (List.Perm.swap x y l)
    · exact List.Perm.refl _
theorem ins_pairwise (x : Int) (l : List Int) (h : l.Pairwise (· ≥ ·)) : (ins x l).Pairwise (· ≥ ·) := by
  induction l with
  | nil => simp [ins]
  | cons y l ih =>
    rw [List.pairwise_cons] at h
    rw [ins]
    split
    · rename_i hxy
      rw [List.pairwise_cons]
      refine ⟨fun z hz => ?_, ih h.2⟩
      rcases List.mem_cons.1 ((ins_perm x l).mem_iff.1 hz) with rfl | hz
      · exact hxy
      · exact h.1 z hz
    · rename_i hxy
      rw [List.pairwise_cons]
      refine ⟨fun z hz => ?_, List.pairwise_cons.2 h⟩
      rcases List.mem_cons.1 hz with rfl | hz
      · omega
      · have := h.1 z hz
        omega
theorem l1Own_is (l : List Int) (h : l.length < 17592186044416) : spec_l1Own.f l = some l := by
  unfold spec_l1Own.f
  simp [h]
theorem huSort_in (o : List Int) (x : Int) (l : List Int) (i : Nat) (hn : o.length ≤ 1000000) (hi : i < l.length) (hl : l.length ≤ 1000000) (r : List Int) (d : Nat) : ∀ j : Nat, j + d = o.length → Ev (fun k => spec_huSort.l0 k (o.take j ++ ins x (o.drop j)) l (l.length : Int) ((i + 1 : Nat) : Int)) r → Ev (fun k => spec_huSort.l1 k o x (j : Int) l (l.length : Int) (i : Int)) r := by
  have hput : ∀ j : Nat, j ≤ o.length → ∀ k, (if (0 : Int) ≤ (j : Int) then (if (j : Int) ≤ (o.length : Int) then ((spec_l1Own.f (o.take ((j : Int)).toNat)).bind fun t301 => (if t301.length < 17592186044416 then ((some (t301 ++ [x] : List Int)).bind fun y304 => ((some (o.drop ((j : Int)).toNat : List Int)).bind fun y307 => (if y304.length + y307.length < 17592186044416 then (spec_huSort.l0 k (y304 ++ y307) l (l.length : Int) (wrap64 ((i : Int) + 1))) else (none)))) else (none))) else (none)) else (none)) = spec_huSort.l0 k (o.take j ++ x :: o.drop j) l (l.length : Int) ((i + 1 : Nat) : Int) := by
    intro j hj k
    rw [if_pos (by omega), if_pos (by omega), Int.toNat_natCast, l1Own_is _ (by rw [List.length_take]; omega), w64_succ (n := l.length) hi (by omega)]
    simp only [Option.bind_some]
    rw [if_pos (by rw [List.length_take]; omega), if_pos (by rw [List.length_append, List.length_take, List.length_drop]; simp; omega), List.append_assoc, List.singleton_append]
  induction d with
  | zero =>
    intro j hid hE
    rw [List.drop_eq_nil_of_le (by omega), ins] at hE
    refine Ev.step (f := fun k => spec_huSort.l0 k (o.take j ++ [x]) l (l.length : Int) ((i + 1 : Nat) : Int)) (fun k => ?_) hE
    simp only [spec_huSort.l1]
    rw [if_neg (by omega), hput j (by omega) k, List.drop_eq_nil_of_le (by omega)]
  | succ d ih =>
    intro j hid hE
    have hdrop := rd_drop o j (by omega)
    rw [hdrop, ins] at hE
    by_cases h : rd o (j : Int) ≥ x
    · rw [if_pos h] at hE
      refine Ev.step (f := fun k => spec_huSort.l1 k o x ((j + 1 : Nat) : Int) l (l.length : Int) (i : Int)) (fun k => ?_) (ih (j + 1) (by omega) ?_)
      · simp only [spec_huSort.l1]
        rw [if_pos (by omega), if_pos (by omega), if_pos h, w64_succ (n := o.length) (by omega) (by omega)]
      · rw [List.take_succ_eq_append_getElem (by omega), List.append_assoc, List.singleton_append, ← rd_lt o j (by omega)]
        exact hE
    · rw [if_neg h] at hE
      refine Ev.step (f := fun k => spec_huSort.l0 k (o.take j ++ x :: o.drop j) l (l.length : Int) ((i + 1 : Nat) : Int)) (fun k => ?_) (by rw [hdrop]; exact hE)
      have hp := hput j (by omega) k
      rw [if_pos (by omega)] at hp
      simp only [spec_huSort.l1]
      rw [if_pos (by omega), if_pos (by omega), if_neg h]
      exact hp
theorem huSort_upto (l : List Int) (hl : l.length ≤ 1000000) (d : Nat) : ∀ (i : Nat) (o : List Int), i + d = l.length → o.length = i → Ev (fun k => spec_huSort.l0 k o l (l.length : Int) (i : Int)) ((l.drop i).foldl (fun o x => ins x o) o) := by
  induction d with
  | zero =>
    intro i o hid ho
    refine Ev.step (f := fun _ => some o) (fun k => by simp only [spec_huSort.l0]; rw [if_neg (by omega)]) ?_
    rw [List.drop_eq_nil_of_le (by omega)]
    exact Ev.is rfl
  | succ d ih =>
    intro i o hid ho
    refine Ev.step (f := fun k => spec_huSort.l1 k o (rd l (i : Int)) ((0 : Nat) : Int) l (l.length : Int) (i : Int)) (fun k => ?_) ?_
    · simp only [spec_huSort.l0]
      rw [if_pos (by omega), if_pos (by omega), if_pos (by omega)]
      rfl
    · refine huSort_in o _ l i (by omega) (by omega) hl _ o.length 0 (by omega) ?_
      rw [List.take_zero, List.drop_zero, List.nil_append, rd_drop l i (by omega), List.foldl_cons]
      exact ih (i + 1) _ (by omega) (by rw [ins_length]; omega)
theorem foldl_ins (l : List Int) : ∀ o : List Int, o.Pairwise (· ≥ ·) → (l.foldl (fun o x => ins x o) o).Pairwise (· ≥ ·) ∧ (l.foldl (fun o x => ins x o) o).Perm (o ++ l) := by
  induction l with
  | nil => intro o ho; exact ⟨ho, by rw [List.append_nil]; exact List.Perm.refl _⟩
  | cons x l ih =>
    intro o ho
    have h := ih (ins x o) (ins_pairwise x o ho)
    refine ⟨h.1, h.2.trans ?_⟩
    exact ((ins_perm x o).append_right l).trans List.perm_middle.symm
theorem huSort_ev (l : List Int) (hl : l.length ≤ 1000000) : Ev (fun k => spec_huSort.f k l) (down l) := by
  unfold spec_huSort.f
  have h := huSort_upto l hl l.length 0 [] (by omega) rfl
  have h2 := foldl_ins l [] List.Pairwise.nil
  rw [List.drop_zero, down_unique h2.2 h2.1] at h
  exact h
end Go.Proofs.Ytgpoljimomfbbaa.P

-- UhuJump
namespace Go.Proofs.Ytgpoljimomfbbaa.P
set_option linter.unusedVariables false
set_option linter.unusedSimpArgs false
open Go.RowKit Go.Proofs.YtgpoljimomfbbaaW.PrintWords Go.Proofs.YtgpoljimomfbbaaW.PrintLast Go.Proofs.YtgpoljimomfbbaaW.PrintMore

theorem clone_is (l : List Int) (h : l.length < 17592186044416) : slices_Clone_int_int.f l = some l := by
  unfold slices_Clone_int_int.f
  rw [if_pos h]
theorem sqs_perm {l m : List Int} (h : l.Perm m) : sqs l = sqs m := by
  induction h with
  | nil => rfl
  | cons x _ ih => simp only [sqs, ih]
  | swap x y l => simp only [sqs]; omega
  | trans _ _ h1 h2 => exact h1.trans h2
theorem prd_perm {l m : List Int} (h : l.Perm m) : prd l = prd m := by
  induction h with
  | nil => rfl
  | cons x _ ih => simp only [prd, ih]
  | swap x y l => simp only [prd]; grind
  | trans _ _ h1 h2 => exact h1.trans h2
theorem fallsFrom_iff (p : Int) (l : List Int) : fallsFrom p l = true ↔ (p :: l).Pairwise (· ≥ ·) := by
  induction l generalizing p with
  | nil => simp [fallsFrom]
  | cons x l ih =>
    rw [fallsFrom, Bool.and_eq_true, ih, List.pairwise_cons (a := p) (l := x :: l), decide_eq_true_eq]
    constructor
    · rintro ⟨h1, h2⟩
      refine ⟨fun y hy => ?_, h2⟩
      rcases List.mem_cons.1 hy with rfl | hy
      · exact h1
      · have := (List.pairwise_cons.1 h2).1 y hy
        omega
    · rintro ⟨h1, h2⟩
      exact ⟨h1 x List.mem_cons_self, h2⟩
theorem falls_iff (l : List Int) : falls l = true ↔ l.Pairwise (· ≥ ·) := by
  cases l with
  | nil => simp [falls]
  | cons x l => exact fallsFrom_iff x l
theorem rd_set (l : List Int) (i : Nat) (y : Int) (hi : i < l.length) : rd (l.set i y) (i : Int) = y := by rw [rd_lt _ _ (by rw [List.length_set]; exact hi), List.getElem_set_self]
theorem erase_set (l : List Int) (i : Nat) (y : Int) : (l.set i y).eraseIdx i = l.eraseIdx i := by
  induction l generalizing i with
  | nil => rfl
  | cons x l ih =>
    cases i with
    | zero => rfl
    | succ i => rw [List.set_cons_succ, List.eraseIdx_cons_succ, List.eraseIdx_cons_succ, ih]

/-- Behind the jump at i. -/
def jmp (l : List Int) (a : Int) (i : Nat) : List Int := down (l.set i (oth l a i))
def jumpOf (l : List Int) (a : Int) (i : Nat) : List Int × Bool := if inB 1 100000 (oth l a i) then (jmp l a i, true) else ([], false)
theorem jmp_length (l : List Int) (a : Int) (i : Nat) : (jmp l a i).length = l.length := by rw [jmp, down_length, List.length_set]
/-- The sum of squares and the product behind a jump: Vieta. -/
theorem vieta {l : List Int} {a b : Int} {i : Nat} (hi : i < l.length) (h : sqs l = a * prd l + b) : sqs (jmp l a i) = a * prd (jmp l a i) + b := by
  rw [jmp, sqs_perm (down_perm _), prd_perm (down_perm _)]
  have hi2 : i < (l.set i (oth l a i)).length := by rw [List.length_set]; exact hi
  rw [sqs_mem _ i hi2, prd_erase _ i hi2, rd_set l i _ hi, erase_set]
  rw [sqs_mem l i hi, prd_erase l i hi] at h
  unfold oth
  grind
theorem jmp_is {l : List Int} {a b : Int} {i : Nat} (hi : i < l.length) (h : huIs l a b = true) (ho : inB 1 100000 (oth l a i) = true) : huIs (jmp l a i) a b = true := by
  obtain ⟨h1, h2, h3, h4⟩ := huIs_iff.1 h
  refine huIs_iff.2 ⟨by rw [jmp_length]; exact h1, fun x hx => ?_, (falls_iff _).2 (down_pairwise _), vieta hi h4⟩
  have hx2 := (down_perm _).mem_iff.1 hx
  rcases List.mem_or_eq_of_mem_set hx2 with hm | rfl
  · exact h2 x hm
  · exact inB_iff.1 ho
theorem jump_both {l : List Int} {a b : Int} (hg : huGv a b = true) (h : huIs l a b = true) (i : Nat) (hi : i < l.length) : Ev (fun k => impl_jump.f k l a (i : Int)) (jumpOf l a i) ∧ Ev (fun k => spec_huJump.f k l a (i : Int)) (jumpOf l a i) := by
  obtain ⟨e1, e2⟩ := other_both hg h i hi
  obtain ⟨h1, h2, h3, h4⟩ := huIs_iff.1 h
  have c1 : (0 : Int) ≤ (i : Int) := by omega
  have c2 : (i : Int) < (l.length : Int) := by omega
  unfold impl_jump.f spec_huJump.f jumpOf
  constructor
  · refine Ev.bind e1 ?_
    rw [within_inB]
    refine Ev.bind0 rfl ?_
    cases ho : inB 1 100000 (oth l a i) with
    | false =>
      simp only [Bool.false_eq_true, if_false]
      exact Ev.is rfl
    | true =>
      simp only [if_true]
      refine Ev.bind0 (clone_is l (by omega)) ?_
      simp only [c1, c2, if_true, Int.toNat_natCast]
      refine Ev.bind0 (sort_is _ (by rw [List.length_set]; omega)) ?_
      refine Ev.bind (reverse_ev _ (by rw [up_length, List.length_set]; omega)) (Ev.is rfl)
  · refine Ev.bind e2 ?_
    rw [l1In_inB]
    refine Ev.bind0 rfl ?_
    cases ho : inB 1 100000 (oth l a i) with
    | false =>
      simp only [Bool.false_eq_true, if_false]
      exact Ev.is rfl
    | true =>
      simp only [if_true]
      refine Ev.bind0 (own_is l (by omega)) ?_
      simp only [c1, c2, if_true, Int.toNat_natCast]
      exact Ev.bind (huSort_ev _ (by rw [List.length_set]; omega)) (Ev.is rfl)
end Go.Proofs.Ytgpoljimomfbbaa.P

-- UdrawHu
namespace Go.Proofs.Ytgpoljimomfbbaa.P
set_option linter.unusedVariables false
set_option linter.unusedSimpArgs false
open Go.RowKit Go.Proofs.YtgpoljimomfbbaaW.PrintWords Go.Proofs.YtgpoljimomfbbaaW.PrintLast Go.Proofs.YtgpoljimomfbbaaW.PrintMore

theorem huSquares_any (l : List Int) (hn : l.length ≤ 1000000) (d : Nat) : ∀ (i : Nat) (s : Int), i + d = l.length → ∃ v, Ev (fun k => spec_huSquares.l0 k s l (l.length : Int) (i : Int)) v := by
  induction d with
  | zero =>
    intro i s hid
    exact ⟨s, Ev.step (f := fun _ => some s) (fun k => by simp only [spec_huSquares.l0]; rw [if_neg (by omega)]) (Ev.is rfl)⟩
  | succ d ih =>
    intro i s hid
    obtain ⟨v, hv⟩ := ih (i + 1) (wrap64 (s + wrap64 (rd l (i : Int) * rd l (i : Int)))) (by omega)
    refine ⟨v, Ev.step (fun k => ?_) hv⟩
    simp only [spec_huSquares.l0]
    rw [if_pos (by omega), if_pos (by omega), if_pos (by omega), w64_succ (n := l.length) (by omega) (by omega)]
theorem huProduct_any (l : List Int) (hn : l.length ≤ 1000000) (d : Nat) : ∀ (i : Nat) (s : Int), i + d = l.length → ∃ v, Ev (fun k => spec_huProduct.l0 k s l (l.length : Int) (i : Int)) v := by
  induction d with
  | zero =>
    intro i s hid
    exact ⟨s, Ev.step (f := fun _ => some s) (fun k => by simp only [spec_huProduct.l0]; rw [if_neg (by omega)]) (Ev.is rfl)⟩
  | succ d ih =>
    intro i s hid
    obtain ⟨v, hv⟩ := ih (i + 1) (min (wrap64 (s * rd l (i : Int))) 1000000000000) (by omega)
    refine ⟨v, Ev.step (fun k => ?_) hv⟩
    simp only [spec_huProduct.l0]
    rw [if_pos (by omega), if_pos (by omega), if_pos (by omega), least_is, w64_succ (n := l.length) (by omega) (by omega)]
    rfl
theorem huOther_any (l : List Int) (a i : Int) (h0 : 0 ≤ i) (h1 : i < l.length) (hn : l.length ≤ 1000) : ∃ v, Ev (fun k => spec_huOther.f k l a i) v := by
  unfold spec_huOther.f
  have w1 : wrap64 (i + 1) = i + 1 := w64 (by omega) (by omega)
  have c2 : i ≤ (l.length : Int) := by omega
  have c3 : (0 : Int) ≤ i + 1 := by omega
  have c4 : i + 1 ≤ (l.length : Int) := by omega
  have hlen : (l.take i.toNat).length + (l.drop (i + 1).toNat).length < 17592186044416 := by rw [List.length_take, List.length_drop]; omega
  have hl2 : (l.take i.toNat ++ l.drop (i + 1).toNat).length ≤ 1000000 := by rw [List.length_append, List.length_take, List.length_drop]; omega
  obtain ⟨v, hv⟩ := huProduct_any (l.take i.toNat ++ l.drop (i + 1).toNat) hl2 (l.take i.toNat ++ l.drop (i + 1).toNat).length 0 a (by omega)
  simp only [w1, h0, c2, c3, c4, h1, if_true]
  refine ⟨wrap64 (v - rd l i), Ev.bind0 (own_is _ (by rw [List.length_take]; omega)) ?_⟩
  simp only [hlen, if_true]
  exact Ev.bind (show Ev (fun k => spec_huProduct.f k _ a) v from hv) (Ev.is rfl)
theorem huJump_any (l : List Int) (a i : Int) (h0 : 0 ≤ i) (h1 : i < l.length) (hn : l.length ≤ 1000) : ∃ r : List Int × Bool, Ev (fun k => spec_huJump.f k l a i) r ∧ (r.2 = true → r.1.length = l.length) := by
  obtain ⟨v, hv⟩ := huOther_any l a i h0 h1 hn
  unfold spec_huJump.f
  simp only [l1In_inB]
  cases ho : inB 1 100000 v with
  | false =>
    refine ⟨([], false), Ev.bind hv ?_, by simp⟩
    simp only [ho, Option.bind_some, Bool.false_eq_true, if_false]
    exact Ev.is rfl
  | true =>
    refine ⟨(down (l.set i.toNat v), true), Ev.bind hv ?_, fun _ => by rw [down_length, List.length_set]⟩
    simp only [ho, Option.bind_some, if_true]
    refine Ev.bind0 (own_is l (by omega)) ?_
    simp only [h0, h1, if_true]
    exact Ev.bind (huSort_ev _ (by rw [List.length_set]; omega)) (Ev.is rfl)
theorem given_ok (code : List Int) (hc : Bytes code) (at_ seed : Int) (h0 : 0 ≤ at_) (h1 : at_ ≤ 900000000) : ∃ a b at' seed', spec_l1Cur_given.f code at_ seed = some (a, b, at', seed') ∧ at_ ≤ at' ∧ at' ≤ at_ + 8 := by
  unfold spec_l1Cur_given.f
  obtain ⟨v1, a1, s1, e1, _, _, _, _⟩ := pick_ok code hc at_ seed 4 h0 (by omega) (by decide)
  rw [e1]
  simp only [Option.bind_some]
  obtain ⟨v2, a2, s2, e2, _, _, _⟩ := among_ok code hc a1 s1 [0, 0, 0, 1, 2, (-1), 5, (-3)] (by omega) (by omega) (by decide) (by decide)
  rw [e2]
  simp only [Option.bind_some]
  obtain ⟨v3, a3, s3, e3, _, _, _, _⟩ := pick_ok code hc a2 s2 14 (by omega) (by omega) (by decide)
  rw [e3]
  simp only [Option.bind_some]
  by_cases c1 : v3 = 0
  · obtain ⟨v4, a4, s4, e4, _, _, _⟩ := among_ok code hc a3 s3 [(-1), 0, 20, 21] (by omega) (by omega) (by decide) (by decide)
    rw [if_pos c1, e4]
    exact ⟨_, _, a4, _, rfl, by omega, by omega⟩
  · by_cases c2 : v3 = 1
    · obtain ⟨v4, a4, s4, e4, _, _, _⟩ := among_ok code hc a3 s3 [(-51), (-50), 50, 51] (by omega) (by omega) (by decide) (by decide)
      rw [if_neg c1, if_pos c2, e4]
      exact ⟨_, _, a4, _, rfl, by omega, by omega⟩
    · rw [if_neg c1, if_neg c2]
      exact ⟨_, _, a3, _, rfl, by omega, by omega⟩
def Four (l : List Int) : Prop := 3 ≤ l.length ∧ l.length ≤ 4
theorem hurwitz_loop (code : List Int) (hc : Bytes code) (a b : Int) (d : Nat) : ∀ (l : List Int) (at_ seed : Int), Four l → d ≤ 100 → 0 ≤ at_ → at_ ≤ 1000 - 2 * (d : Int) →
    ∃ l' a' b' at' seed', Ev (fun k => spec_l1Cur_hurwitz.l0 k l a b (d : Int) code at_ seed) (l', a', b', at', seed') ∧ Four l' ∧ 0 ≤ at' ∧ at' ≤ 2000 := by
  induction d with
  | zero =>
    intro l at_ seed hl hd h0 h1
    obtain ⟨v1, a1, s1, e1, _, _, _, _⟩ := pick_ok code hc at_ seed 16 h0 (by omega) (by decide)
    by_cases c1 : v1 = 0
    · obtain ⟨v2, a2, s2, e2, p2, q2, _, _⟩ := pick_ok code hc a1 s1 (l.length : Int) (by omega) (by omega) (by have := hl.2; omega)
      have q3 := q2 (by have := hl.1; omega)
      obtain ⟨v3, a3, s3, e3, _, _, _⟩ := among_ok code hc a2 s2 [(-1), 0, 1, 100000, 100001] (by omega) (by omega) (by decide) (by decide)
      refine ⟨l.set v2.toNat v3, a, b, a3, s3, Ev.step (f := fun _ => some (l.set v2.toNat v3, a, b, a3, s3)) (fun k => ?_) (Ev.is rfl), by unfold Four; rw [List.length_set]; exact hl, by omega, by omega⟩
      simp only [spec_l1Cur_hurwitz.l0]
      rw [if_neg (by omega), e1]
      simp only [Option.bind_some]
      rw [if_pos c1, e2]
      simp only [Option.bind_some]
      rw [e3]
      simp only [Option.bind_some]
      rw [if_pos p2, if_pos q3]
    · by_cases c2 : v1 = 1
      · obtain ⟨a2, b2, a3, s3, e3, _, _⟩ := given_ok code hc a1 s1 (by omega) (by omega)
        refine ⟨l, a2, b2, a3, s3, Ev.step (f := fun _ => some (l, a2, b2, a3, s3)) (fun k => ?_) (Ev.is rfl), hl, by omega, by omega⟩
        simp only [spec_l1Cur_hurwitz.l0]
        rw [if_neg (by omega), e1]
        simp only [Option.bind_some]
        rw [if_neg c1, if_pos c2, e3]
        rfl
      · refine ⟨l, a, b, a1, s1, Ev.step (f := fun _ => some (l, a, b, a1, s1)) (fun k => ?_) (Ev.is rfl), hl, by omega, by omega⟩
        simp only [spec_l1Cur_hurwitz.l0]
        rw [if_neg (by omega), e1]
        simp only [Option.bind_some]
        rw [if_neg c1, if_neg c2]
  | succ d ih =>
    intro l at_ seed hl hd h0 h1
    obtain ⟨v1, a1, s1, e1, p1, q1, _, _⟩ := pick_ok code hc at_ seed (l.length : Int) h0 (by omega) (by have := hl.2; omega)
    obtain ⟨r, er, hr⟩ := huJump_any l a v1 p1 (q1 (by have := hl.1; omega)) (by have := hl.2; omega)
    have w1 : wrap64 (((d + 1 : Nat) : Int) - 1) = (d : Int) := by rw [w64 (by omega) (by omega)]; omega
    have hstay := ih l a1 s1 hl (by omega) (by omega) (by omega)
    have hstep : ∀ (l2 : List Int), (∀ k, (if r.2 = true then (if 0 < (r.1.length : Int) then (if (rd r.1 0) < 20000 then spec_l1Cur_hurwitz.l0 k r.1 a b (d : Int) code a1 s1 else spec_l1Cur_hurwitz.l0 k l a b (d : Int) code a1 s1) else none) else spec_l1Cur_hurwitz.l0 k l a b (d : Int) code a1 s1) = spec_l1Cur_hurwitz.l0 k l2 a b (d : Int) code a1 s1) → Four l2 →
        ∃ l' a' b' at' seed', Ev (fun k => spec_l1Cur_hurwitz.l0 k l a b ((d + 1 : Nat) : Int) code at_ seed) (l', a', b', at', seed') ∧ Four l' ∧ 0 ≤ at' ∧ at' ≤ 2000 := by
      intro l2 hk h2
      obtain ⟨l', a', b', at', seed', e, h3⟩ := ih l2 a1 s1 h2 (by omega) (by omega) (by omega)
      refine ⟨l', a', b', at', seed', Ev.step (f := fun k => (spec_huJump.f k l a v1).bind fun bt => (if bt.2 = true then (if 0 < (bt.1.length : Int) then (if (rd bt.1 0) < 20000 then spec_l1Cur_hurwitz.l0 k bt.1 a b (d : Int) code a1 s1 else spec_l1Cur_hurwitz.l0 k l a b (d : Int) code a1 s1) else none) else spec_l1Cur_hurwitz.l0 k l a b (d : Int) code a1 s1)) (fun k => ?_) (Ev.bind er (Ev.congr hk e)), h3⟩
      simp only [spec_l1Cur_hurwitz.l0]
      rw [if_pos (by omega), e1]
      simp only [Option.bind_some]
      rw [w1]
    cases h2 : r.2 with
    | false => exact hstep l (fun k => by rw [h2, if_neg (by simp)]) hl
    | true =>
      have hlen := hr h2
      have hpos : (0 : Int) < (r.1.length : Int) := by have := hl.1; omega
      by_cases h3 : rd r.1 0 < 20000
      · exact hstep r.1 (fun k => by rw [h2, if_pos rfl, if_pos hpos, if_pos h3]) (by unfold Four; rw [hlen]; exact hl)
      · exact hstep l (fun k => by rw [h2, if_pos rfl, if_pos hpos, if_neg h3]) hl
theorem hurwitz_j1 (code : List Int) (hc : Bytes code) (a b : Int) (l : List Int) (at_ seed : Int) (hl : Four l) (h0 : 0 ≤ at_) (h1 : at_ ≤ 500) : ∃ l' a' b' at' seed', Ev (fun k => spec_l1Cur_hurwitz.j1 k l a b code at_ seed) (l', a', b', at', seed') ∧ Four l' ∧ 0 ≤ at' ∧ at' ≤ 2000 := by
  obtain ⟨v1, a1, s1, e1, p1, q1, _, _⟩ := pick_ok code hc at_ seed 7 h0 (by omega) (by decide)
  have q2 := q1 (by decide)
  obtain ⟨n, rfl⟩ := Int.eq_ofNat_of_zero_le p1
  obtain ⟨l', a', b', at', seed', e, h3⟩ := hurwitz_loop code hc a b n l a1 s1 hl (by omega) (by omega) (by omega)
  refine ⟨l', a', b', at', seed', Ev.step (f := fun k => spec_l1Cur_hurwitz.l0 k l a b (n : Int) code a1 s1) (fun k => ?_) e, h3⟩
  simp only [spec_l1Cur_hurwitz.j1]
  rw [e1]
  rfl
theorem hurwitz_j0 (code : List Int) (hc : Bytes code) (l : List Int) (at_ seed : Int) (hl : Four l) (h0 : 0 ≤ at_) (h1 : at_ ≤ 400) : ∃ l' a' b' at' seed', Ev (fun k => spec_l1Cur_hurwitz.j0 k l code at_ seed) (l', a', b', at', seed') ∧ Four l' ∧ 0 ≤ at' ∧ at' ≤ 2000 := by
  have hl2 := hl.2
  have hd : Four (down l) := by unfold Four; rw [down_length]; exact hl
  obtain ⟨v1, a1, s1, e1, p1, q1, _, _⟩ := pick_ok code hc at_ seed 3 h0 (by omega) (by decide)
  obtain ⟨v2, h2⟩ := huSquares_any (down l) (by have := hd.2; omega) (down l).length 0 0 (by omega)
  obtain ⟨v3, h3⟩ := huProduct_any (down l) (by have := hd.2; omega) (down l).length 0 (wrap64 (1 + v1)) (by omega)
  obtain ⟨l', a', b', at', seed', e, h4⟩ := hurwitz_j1 code hc (wrap64 (1 + v1)) (wrap64 (v2 - v3)) (down l) a1 s1 hd (by omega) (by omega)
  refine ⟨l', a', b', at', seed', Ev.step (fun k => by simp only [spec_l1Cur_hurwitz.j0]; rfl) (Ev.bind (huSort_ev l (by omega)) (Ev.bind0 e1 (Ev.bind (show Ev (fun k => spec_huSquares.f k (down l)) v2 from h2) (Ev.bind (show Ev (fun k => spec_huProduct.f k (down l) (wrap64 (1 + v1))) v3 from h3) e)))), h4⟩
theorem hurwitz_ok (code : List Int) (hc : Bytes code) (at_ seed : Int) (h0 : 0 ≤ at_) (h1 : at_ ≤ 100) : ∃ l' a' b' at' seed', Ev (fun k => spec_l1Cur_hurwitz.f k code at_ seed) (l', a', b', at', seed') ∧ Four l' ∧ 0 ≤ at' ∧ at' ≤ 2000 := by
  unfold spec_l1Cur_hurwitz.f
  obtain ⟨v1, a1, s1, e1, _, _, _, _⟩ := pick_ok code hc at_ seed 4 h0 (by omega) (by decide)
  obtain ⟨v2, a2, s2, e2, _, _, _, _⟩ := pick_ok code hc a1 s1 3 (by omega) (by omega) (by decide)
  obtain ⟨v3, a3, s3, e3, _, _, _, _⟩ := pick_ok code hc a2 s2 2 (by omega) (by omega) (by decide)
  obtain ⟨v4, a4, s4, e4, _, _, _, _⟩ := pick_ok code hc a3 s3 6 (by omega) (by omega) (by decide)
  simp only [e1, e2, e3, e4, Option.bind_some]
  have f3 : ∀ x y z : Int, Four [x, y, z] := fun x y z => ⟨by simp, by simp⟩
  have f4 : ∀ x y z u : Int, Four [x, y, z, u] := fun x y z u => ⟨by simp, by simp⟩
  by_cases c0 : v4 = 0
  · simp only [c0, if_true]
    exact hurwitz_j1 code hc 3 0 [1, 1, 1] a4 s4 (f3 _ _ _) (by omega) (by omega)
  · by_cases c1 : v4 = 1
    · have c0' : ¬ (1 : Int) = 0 := by decide
      simp only [c1, c0', if_true, if_false]
      exact hurwitz_j1 code hc 4 0 [1, 1, 1, 1] a4 s4 (f4 _ _ _ _) (by omega) (by omega)
    · by_cases c2 : v4 = 2
      · have c0' : ¬ (2 : Int) = 0 := by decide
        have c1' : ¬ (2 : Int) = 1 := by decide
        simp only [c2, c0', c1', if_true, if_false]
        exact hurwitz_j1 code hc 1 0 [3, 3, 3] a4 s4 (f3 _ _ _) (by omega) (by omega)
      · by_cases c3 : v4 = 3
        · have c0' : ¬ (3 : Int) = 0 := by decide
          have c1' : ¬ (3 : Int) = 1 := by decide
          have c2' : ¬ (3 : Int) = 2 := by decide
          simp only [c3, c0', c1', c2', if_true, if_false]
          exact hurwitz_j1 code hc 1 0 [2, 2, 2, 2] a4 s4 (f4 _ _ _ _) (by omega) (by omega)
        · obtain ⟨v5, a5, s5, e5, _, _⟩ := one_ok code hc a4 s4 2 (by omega) (by omega) (by decide)
          simp only [c0, c1, c2, c3, if_false, e5, Option.bind_some]
          cases v5 with
          | false =>
            simp only [Bool.false_eq_true, if_false]
            exact hurwitz_j0 code hc _ a5 s5 (f3 _ _ _) (by omega) (by omega)
          | true =>
            have hlen : ([wrap64 (1 + v1), wrap64 (1 + v2), wrap64 (1 + v3)] : List Int).length < 17592186044416 := show 3 < 17592186044416 by decide
            simp only [if_true, hlen]
            exact hurwitz_j0 code hc _ a5 s5 (f4 _ _ _ _) (by omega) (by omega)
end Go.Proofs.Ytgpoljimomfbbaa.P

-- PFimplJumpAt
namespace Go.Proofs.Ytgpoljimomfbbaa.P
open Go.RowKit Go.Proofs.YtgpoljimomfbbaaW.PrintWords Go.Proofs.YtgpoljimomfbbaaW.PrintLast
set_option linter.unusedVariables false
set_option linter.unusedSimpArgs false

/-! ### impl_JumpAt: function 45 -/
def impl_JumpAt.f (k : Nat) (l0 : List Int) (a1 : Int) (a2 : Int) (a3 : Int) : Option (List Int × Bool) := (impl_isSolution.f k l0 a1 a2).bind fun t762 => (if t762 = true then ((impl_within.f a3 0 (wrap64 ((l0.length : Int) - 1))).bind fun t763 => (if t763 = true then ((impl_jump.f k l0 a1 a3).bind fun bt764 => (some (bt764.1, bt764.2))) else (some (([] : List Int), false)))) else (some (([] : List Int), false)))
theorem impl_JumpAt.mono : ∀ a0 a1 a2 a3 k, LeO (impl_JumpAt.f k a0 a1 a2 a3) (impl_JumpAt.f (k + 1) a0 a1 a2 a3) := by
 intro a0 a1 a2 a3 k
 unfold impl_JumpAt.f
 repeat' first
   | (with_reducible exact impl_isSolution.mono _ _ _ _)
   | (with_reducible exact impl_jump.mono _ _ _ _)
   | (with_reducible exact LeO.refl _)
   | (with_reducible exact LeO.none _)
   | (with_reducible refine LeO.ite ?_ ?_)
   | (with_reducible refine LeO.bind ?_ (fun _ => ?_))
   | exact impl_isSolution.mono _ _ _ _
   | exact impl_jump.mono _ _ _ _
   | exact LeO.none _
   | refine LeO.ite ?_ ?_
   | refine LeO.bind ?_ (fun _ => ?_)
set_option maxHeartbeats 8000000 in
set_option maxRecDepth 100000 in
theorem impl_JumpAt.calls (k : Nat) (A0 : Option Addr) (c0 : Nat) (l0 : List Int) (a1 : Int) (a2 : Int) (a3 : Int) (r1 : List Int) (r2 : Bool) (w : World) (hr0 : Kd.C (Kd.int .i64) w A0 l0.length l0) (hc0 : l0.length ≤ c0) (h : impl_JumpAt.f k l0 a1 a2 a3 = some (r1, r2)) :
  Calls Try.prog 45 #[.slice A0 l0.length c0, .int .i64 a1, .int .i64 a2, .int .i64 a3] w fun e w' => ∃ v0_ : Value, e = .returned (.tuple #[v0_, .bool r2]) ∧ Kd.R (Kd.int .i64) 3 w' w.heap.size (fun _ => True) v0_ r1 ∧ Below w.heap.size w w' := by
 have HR0 := Aside0.mk hr0
 have HC0 := Aside0.mk hc0
 clear hr0 hc0
 have HB := Aside0.mk (Below.refl w.heap.size w)
 have H : ((impl_isSolution.f k l0 a1 a2).bind fun t762 => (if t762 = true then ((impl_within.f a3 0 (wrap64 ((l0.length : Int) - 1))).bind fun t763 => (if t763 = true then ((impl_jump.f k l0 a1 a3).bind fun bt764 => (some (bt764.1, bt764.2))) else (some (([] : List Int), false)))) else (some (([] : List Int), false)))) = some (r1, r2) := h
 clear h
 replace H := Option.bind_eq_some_iff.mp H
 obtain ⟨t762, A50, H⟩ := H
 replace H : (if t762 = true then ((impl_within.f a3 0 (wrap64 ((l0.length : Int) - 1))).bind fun t763 => (if t763 = true then ((impl_jump.f k l0 a1 a3).bind fun bt764 => (some (bt764.1, bt764.2))) else (some (([] : List Int), false)))) else (some (([] : List Int), false))) = some (r1, r2) := H
 have A5 := Aside0.mk A50
 clear A50
 by_cases c6 : t762 = true
 ·subst c6
  have H1 : ((impl_within.f a3 0 (wrap64 ((l0.length : Int) - 1))).bind fun t763 => (if t763 = true then ((impl_jump.f k l0 a1 a3).bind fun bt764 => (some (bt764.1, bt764.2))) else (some (([] : List Int), false)))) = some (r1, r2) := by rw [if_pos rfl] at H; exact H
  clear H
  have H := H1
  clear H1
  replace H := Option.bind_eq_some_iff.mp H
  obtain ⟨t763, A70, H⟩ := H
  replace H : (if t763 = true then ((impl_jump.f k l0 a1 a3).bind fun bt764 => (some (bt764.1, bt764.2))) else (some (([] : List Int), false))) = some (r1, r2) := H
  have A7 := Aside0.mk A70
  clear A70
  by_cases c8 : t763 = true
  ·subst c8
   have H1 : ((impl_jump.f k l0 a1 a3).bind fun bt764 => (some (bt764.1, bt764.2))) = some (r1, r2) := by rw [if_pos rfl] at H; exact H
   clear H
   have H := H1
   clear H1
   replace H := Option.bind_eq_some_iff.mp H
   obtain ⟨⟨t764, t765⟩, A90, H⟩ := H
   replace H : (some (t764, t765)) = some (r1, r2) := H
   have A9 := Aside0.mk A90
   clear A90
   simp only [Option.some.injEq, Prod.mk.injEq] at H
   obtain ⟨rfl, rfl⟩ := H
   go_enter Try.func45, Try.ntmps45
   go_wp2_with (first | ((with_reducible refine gate_callee (f := 50) rfl ?_); refine goesL_ (some 13) rfl rfl Try.func50 (by kernel_rfl) rfl #[.slice A0 l0.length c0, .int .i64 a1, .int .i64 a2] rfl (by (try simp only [List.map_toArray, List.map_cons, List.map_nil]); first | done | rfl | (simp only [List.length_drop, List.length_take]; rfl)) ?_; (with_reducible refine (impl_isSolution.calls k _ _ l0 a1 a2 true _ ?side1 ?side2 A5.out).mono ?_); (case side1 => repeat (first | exact HR0.out | (with_reducible refine Kd.C_alloc ?_ _) | (with_reducible refine Kd.C_drewN ?_ _) | (with_reducible refine Kd.C_drew ?_))); (case side2 => exact HC0.out); rintro e w10 ⟨rfl, hb⟩; refine ⟨_, rfl, ?_⟩; have n0_ := Aside0.mk (below_step (by repeat (first | (with_reducible first | exact HB.out | apply below_alloc | apply pw_below_drewN | apply below_drew1) | exact HB.out)) hb); clear HB; have HB := n0_; clear n0_; (try clear hb); (try clear hb2); (try clear hk); (try clear hi)) | (go_at_call 57; (with_reducible refine (impl_within.calls a3 0 (wrap64 ((l0.length : Int) - 1)) true _ A7.out).mono ?_); rintro e w' ⟨rfl, ⟨nd, rfl⟩⟩) | ((with_reducible refine gate_callee (f := 76) rfl ?_); refine goesL_ (some 26) rfl rfl Try.func76 (by kernel_rfl) rfl #[.slice A0 l0.length c0, .int .i64 a1, .int .i64 a3] rfl (by (try simp only [List.map_toArray, List.map_cons, List.map_nil]); first | done | rfl | (simp only [List.length_drop, List.length_take]; rfl)) ?_; (with_reducible refine (impl_jump.calls k _ _ l0 a1 a3 t764 t765 _ ?side1 ?side2 A9.out).mono ?_); (case side1 => repeat (first | exact (Kd.C_below HR0.out (by repeat (first | (with_reducible first | exact HB.out | apply below_alloc | apply pw_below_drewN | apply below_drew1) | exact HB.out))) | (with_reducible refine Kd.C_alloc ?_ _) | (with_reducible refine Kd.C_drewN ?_ _) | (with_reducible refine Kd.C_drew ?_))); (case side2 => exact HC0.out); rintro e w11 ⟨v766, rfl, ho0, hb⟩; refine ⟨_, rfl, ?_⟩; have n0_ := Aside0.mk (Kd.R_lower ho0 (below_size (by repeat (first | (with_reducible first | exact HB.out | apply below_alloc | apply pw_below_drewN | apply below_drew1) | exact HB.out)))); have n1_ := Aside0.mk (below_step (by repeat (first | (with_reducible first | exact HB.out | apply below_alloc | apply pw_below_drewN | apply below_drew1) | exact HB.out)) hb); clear HB; have HO767 := n0_; have HB := n1_; clear n0_ n1_; (try clear hb); (try clear hb2); (try clear hk); (try clear hi); (try clear ho0)))
   go_ret2
   exact ⟨_, by first | rfl | (simp [errW_none, errW_some] <;> rfl) | (simp [*, errW_none, errW_some] <;> rfl), by (with_reducible repeat (first | apply Kd.R_alloc | apply Kd.R_drewN | apply Kd.R_drew)); exact HO767.out, by repeat (first | (with_reducible first | exact HB.out | apply below_alloc | apply pw_below_drewN | apply below_drew1) | exact HB.out)⟩
  ·replace c8 := Bool.eq_false_iff.mpr c8
   subst c8
   have H1 : (some (([] : List Int), false)) = some (r1, r2) := by rw [if_neg (show ¬ (false = true) by decide)] at H; exact H
   clear H
   have H := H1
   clear H1
   simp only [Option.some.injEq, Prod.mk.injEq] at H
   obtain ⟨rfl, rfl⟩ := H
   go_enter Try.func45, Try.ntmps45
   go_wp2_with (first | ((with_reducible refine gate_callee (f := 50) rfl ?_); refine goesL_ (some 13) rfl rfl Try.func50 (by kernel_rfl) rfl #[.slice A0 l0.length c0, .int .i64 a1, .int .i64 a2] rfl (by (try simp only [List.map_toArray, List.map_cons, List.map_nil]); first | done | rfl | (simp only [List.length_drop, List.length_take]; rfl)) ?_; (with_reducible refine (impl_isSolution.calls k _ _ l0 a1 a2 true _ ?side1 ?side2 A5.out).mono ?_); (case side1 => repeat (first | exact HR0.out | (with_reducible refine Kd.C_alloc ?_ _) | (with_reducible refine Kd.C_drewN ?_ _) | (with_reducible refine Kd.C_drew ?_))); (case side2 => exact HC0.out); rintro e w12 ⟨rfl, hb⟩; refine ⟨_, rfl, ?_⟩; have n0_ := Aside0.mk (below_step (by repeat (first | (with_reducible first | exact HB.out | apply below_alloc | apply pw_below_drewN | apply below_drew1) | exact HB.out)) hb); clear HB; have HB := n0_; clear n0_; (try clear hb); (try clear hb2); (try clear hk); (try clear hi)) | (go_at_call 57; (with_reducible refine (impl_within.calls a3 0 (wrap64 ((l0.length : Int) - 1)) false _ A7.out).mono ?_); rintro e w' ⟨rfl, ⟨nd, rfl⟩⟩))
   go_ret2
   exact ⟨_, by first | rfl | (simp [errW_none, errW_some] <;> rfl) | (simp [*, errW_none, errW_some] <;> rfl), by first | exact Kd.R_nil _ _ _ _ _ | exact Kd.N_nil _ _ _ _ _ | exact Kd.V_nil _ _ _ _ _ | exact Kd.Q_nil _ _ _ _ _ | exact Kd.S_nil _ _ _ _ _, by repeat (first | (with_reducible first | exact HB.out | apply below_alloc | apply pw_below_drewN | apply below_drew1) | exact HB.out)⟩
 ·replace c6 := Bool.eq_false_iff.mpr c6
  subst c6
  have H1 : (some (([] : List Int), false)) = some (r1, r2) := by rw [if_neg (show ¬ (false = true) by decide)] at H; exact H
  clear H
  have H := H1
  clear H1
  simp only [Option.some.injEq, Prod.mk.injEq] at H
  obtain ⟨rfl, rfl⟩ := H
  go_enter Try.func45, Try.ntmps45
  go_wp2_with (first | ((with_reducible refine gate_callee (f := 50) rfl ?_); refine goesL_ (some 13) rfl rfl Try.func50 (by kernel_rfl) rfl #[.slice A0 l0.length c0, .int .i64 a1, .int .i64 a2] rfl (by (try simp only [List.map_toArray, List.map_cons, List.map_nil]); first | done | rfl | (simp only [List.length_drop, List.length_take]; rfl)) ?_; (with_reducible refine (impl_isSolution.calls k _ _ l0 a1 a2 false _ ?side1 ?side2 A5.out).mono ?_); (case side1 => repeat (first | exact HR0.out | (with_reducible refine Kd.C_alloc ?_ _) | (with_reducible refine Kd.C_drewN ?_ _) | (with_reducible refine Kd.C_drew ?_))); (case side2 => exact HC0.out); rintro e w13 ⟨rfl, hb⟩; refine ⟨_, rfl, ?_⟩; have n0_ := Aside0.mk (below_step (by repeat (first | (with_reducible first | exact HB.out | apply below_alloc | apply pw_below_drewN | apply below_drew1) | exact HB.out)) hb); clear HB; have HB := n0_; clear n0_; (try clear hb); (try clear hb2); (try clear hk); (try clear hi)))
  go_ret2
  exact ⟨_, by first | rfl | (simp [errW_none, errW_some] <;> rfl) | (simp [*, errW_none, errW_some] <;> rfl), by first | exact Kd.R_nil _ _ _ _ _ | exact Kd.N_nil _ _ _ _ _ | exact Kd.V_nil _ _ _ _ _ | exact Kd.Q_nil _ _ _ _ _ | exact Kd.S_nil _ _ _ _ _, by repeat (first | (with_reducible first | exact HB.out | apply below_alloc | apply pw_below_drewN | apply below_drew1) | exact HB.out)⟩

end Go.Proofs.Ytgpoljimomfbbaa.P

-- UhuJumpAt
namespace Go.Proofs.Ytgpoljimomfbbaa.P
set_option linter.unusedVariables false
set_option linter.unusedSimpArgs false
open Go.RowKit Go.Proofs.YtgpoljimomfbbaaW.PrintWords Go.Proofs.YtgpoljimomfbbaaW.PrintLast Go.Proofs.YtgpoljimomfbbaaW.PrintMore
def jumpAt (l : List Int) (a b i : Int) : List Int × Bool := if huSol l a b && decide (0 ≤ i ∧ i < l.length) then jumpOf l a i.toNat else ([], false)
theorem impl_JumpAt_ev (l : List Int) (a b i : Int) : Ev (fun k => impl_JumpAt.f k l a b i) (jumpAt l a b i) := by
  unfold impl_JumpAt.f jumpAt
  refine impl_tests l a b i ([], false) _ _ (fun hs h0 h1 => ?_) (fun h => by rw [h]; rfl)
  rw [hs, decide_eq_true ⟨h0, h1⟩]
  have hE := (jump_both (huSol_iff.1 hs).1 (huSol_iff.1 hs).2 i.toNat (by omega)).1
  rw [Int.toNat_of_nonneg h0] at hE
  exact Ev.bind hE (Ev.is rfl)
theorem jumpAt_length (l : List Int) (a b i : Int) : (jumpAt l a b i).1.length ≤ 4 := by
  unfold jumpAt
  cases h : huSol l a b && decide (0 ≤ i ∧ i < l.length) with
  | false => simp
  | true =>
    have h1 := (huIs_iff.1 (huSol_iff.1 (Bool.and_eq_true _ _ ▸ h).1).2).1
    simp only [if_true]
    unfold jumpOf
    split
    · rw [jmp_length]; omega
    · simp
end Go.Proofs.Ytgpoljimomfbbaa.P

-- UhuBack
namespace Go.Proofs.Ytgpoljimomfbbaa.P
set_option linter.unusedVariables false
set_option linter.unusedSimpArgs false
open Go.RowKit Go.Proofs.YtgpoljimomfbbaaW.PrintWords Go.Proofs.YtgpoljimomfbbaaW.PrintLast Go.Proofs.YtgpoljimomfbbaaW.PrintMore

def sm : List Int → Int
  | [] => 0
  | x :: l => x + sm l
theorem sm_perm {l m : List Int} (h : l.Perm m) : sm l = sm m := by
  induction h with
  | nil => rfl
  | cons x _ ih => simp only [sm, ih]
  | swap x y l => simp only [sm]; omega
  | trans _ _ h1 h2 => exact h1.trans h2
theorem sm_bd {l : List Int} (h : ∀ x ∈ l, 1 ≤ x ∧ x ≤ 100000) : 0 ≤ sm l ∧ sm l ≤ 100000 * (l.length : Int) := by
  induction l with
  | nil => simp [sm]
  | cons x l ih =>
    have h1 := h x (List.mem_cons_self)
    have h2 := ih (fun y hy => h y (List.mem_cons_of_mem _ hy))
    simp only [sm, List.length_cons]
    omega
theorem perm_erase (l : List Int) (i : Nat) (hi : i < l.length) : l.Perm (rd l (i : Int) :: l.eraseIdx i) := by
  induction l generalizing i with
  | nil => simp at hi
  | cons x l ih =>
    cases i with
    | zero => simp [rd]
    | succ i =>
      have h1 : i < l.length := by simpa using hi
      have h2 : rd (x :: l) ((i + 1 : Nat) : Int) = rd l (i : Int) := by rw [rd_lt _ _ hi, rd_lt _ _ h1, List.getElem_cons_succ]
      rw [h2, List.eraseIdx_cons_succ]
      exact (List.Perm.cons x (ih i h1)).trans (List.Perm.swap _ _ _)
theorem sm_erase (l : List Int) (i : Nat) (hi : i < l.length) : sm l = rd l (i : Int) + sm (l.eraseIdx i) := by
  rw [sm_perm (perm_erase l i hi)]
  rfl
theorem vSum_upto (l : List Int) (hl : ∀ x ∈ l, 1 ≤ x ∧ x ≤ 100000) (hn : l.length ≤ 1000000) (d : Nat) : ∀ (i : Nat) (s : Int), i + d = l.length → 0 ≤ s → s + 100000 * (d : Int) ≤ 9000000000000000000 → Ev (fun k => laws_vSum.l0 k s l (l.length : Int) (i : Int)) (s + sm (l.drop i)) := by
  induction d with
  | zero =>
    intro i s hid h0 h1
    refine Ev.step (f := fun _ => some s) (fun k => by simp only [laws_vSum.l0]; rw [if_neg (by omega)]) ?_
    rw [List.drop_eq_nil_of_le (by omega), sm, Int.add_zero]
    exact Ev.is rfl
  | succ d ih =>
    intro i s hid h0 h1
    have hx := hl _ (rd_mem (l := l) (i := i) (by omega))
    have w2 : wrap64 (s + rd l (i : Int)) = s + rd l (i : Int) := w64 (by omega) (by omega)
    refine Ev.step (f := fun k => laws_vSum.l0 k (s + rd l (i : Int)) l (l.length : Int) ((i + 1 : Nat) : Int)) (fun k => ?_) ?_
    · simp only [laws_vSum.l0]
      rw [if_pos (by omega), if_pos (by omega), if_pos (by omega), w2, w64_succ (n := l.length) (by omega) (by omega)]
    · rw [rd_drop l i (by omega), sm, ← Int.add_assoc]
      exact ih (i + 1) _ (by omega) (by omega) (by omega)
theorem vSum_ev (l : List Int) (hl : ∀ x ∈ l, 1 ≤ x ∧ x ≤ 100000) (hn : l.length ≤ 1000000) : Ev (fun k => laws_vSum.f k l) (sm l) := by
  unfold laws_vSum.f
  have h := vSum_upto l hl hn l.length 0 0 (by omega) (by omega) (by omega)
  rw [List.drop_zero, Int.zero_add] at h
  exact h
theorem vSame_upto (l : List Int) (hn : l.length ≤ 1000000) (d : Nat) : ∀ (i : Nat), i + d = l.length → Ev (fun k => laws_vSame.l0 k l l (l.length : Int) (i : Int)) true := by
  induction d with
  | zero =>
    intro i hid
    exact Ev.step (f := fun _ => some true) (fun k => by simp only [laws_vSame.l0]; rw [if_neg (by omega)]) (Ev.is rfl)
  | succ d ih =>
    intro i hid
    refine Ev.step (f := fun k => laws_vSame.l0 k l l (l.length : Int) ((i + 1 : Nat) : Int)) (fun k => ?_) (ih (i + 1) (by omega))
    simp only [laws_vSame.l0]
    rw [if_pos (by omega), if_pos (by omega), if_pos (by omega), if_pos (by omega), if_pos trivial, w64_succ (n := l.length) (by omega) (by omega)]
theorem vSame_ev (l : List Int) (hn : l.length ≤ 1000000) : Ev (fun k => laws_vSame.f k l l) true := by
  unfold laws_vSame.f
  simp only [if_true]
  exact vSame_upto l hn l.length 0 (by omega)

/-- Behind a jump the number that came in stands somewhere, and the jump at it leads back. -/
theorem jump_back {l : List Int} {a b : Int} {i : Nat} (hg : huGv a b = true) (hi : i < l.length) (h : huIs l a b = true) (ho : inB 1 100000 (oth l a i) = true) (k : Nat) (hk : k < (jmp l a i).length) (hv : rd (jmp l a i) (k : Int) = oth l a i) : jumpAt (jmp l a i) a b (k : Int) = (l, true) := by
  obtain ⟨h1, h2, h3, h4⟩ := huIs_iff.1 h
  have hi2 : i < (l.set i (oth l a i)).length := by rw [List.length_set]; exact hi
  have p1 : (jmp l a i).Perm (oth l a i :: l.eraseIdx i) := by
    have := (down_perm (l.set i (oth l a i))).trans (perm_erase _ i hi2)
    rw [rd_set l i _ hi, erase_set] at this
    exact this
  have p2 := perm_erase (jmp l a i) k hk
  rw [hv] at p2
  have p3 : ((jmp l a i).eraseIdx k).Perm (l.eraseIdx i) := (List.perm_cons _).1 (p2.symm.trans p1)
  have o1 : oth (jmp l a i) a k = rd l (i : Int) := by
    unfold oth at hv ⊢
    rw [prd_perm p3, hv]
    omega
  have hr := h2 _ (rd_mem hi)
  have hb : inB 1 100000 (oth (jmp l a i) a k) = true := by rw [o1]; exact inB_iff.2 hr
  have hj : jmp (jmp l a i) a k = l := by
    have hk2 : k < ((jmp l a i).set k (oth (jmp l a i) a k)).length := by rw [List.length_set]; exact hk
    have p4 := perm_erase _ k hk2
    rw [rd_set _ k _ hk, erase_set, o1] at p4
    have p5 : ((jmp l a i).set k (rd l (i : Int))).Perm l := p4.trans ((List.Perm.cons _ p3).trans (perm_erase l i hi).symm)
    have hd : l = down ((jmp l a i).set k (oth (jmp l a i) a k)) := by
      rw [o1]
      exact down_unique p5.symm ((falls_iff l).1 h3)
    exact hd.symm
  have hs : huSol (jmp l a i) a b = true := huSol_iff.2 ⟨hg, jmp_is hi h ho⟩
  unfold jumpAt jumpOf
  rw [hs, decide_eq_true (show (0 : Int) ≤ (k : Int) ∧ (k : Int) < ((jmp l a i).length : Int) from ⟨by omega, by omega⟩)]
  simp only [Bool.and_self, if_true, Int.toNat_natCast, hb, hj]
end Go.Proofs.Ytgpoljimomfbbaa.P

-- UhuLaw
namespace Go.Proofs.Ytgpoljimomfbbaa.P
set_option linter.unusedVariables false
set_option linter.unusedSimpArgs false
open Go.RowKit Go.Proofs.YtgpoljimomfbbaaW.PrintWords Go.Proofs.YtgpoljimomfbbaaW.PrintLast Go.Proofs.YtgpoljimomfbbaaW.PrintMore
theorem vSolves_ev (l : List Int) (a b : Int) : Ev (fun k => laws_vSolves.f k l a b) (huSol l a b) := by
  unfold laws_vSolves.f impl_IsHurwitz.f huSol
  cases hg : huGv a b with
  | false =>
    refine Ev.bind (a := (false, false)) (Ev.bind0 (areGiven_is a b) ?_) (Ev.is rfl)
    rw [hg]
    simp only [Bool.false_eq_true, if_false]
    exact Ev.is rfl
  | true =>
    refine Ev.bind (a := (huIs l a b, true)) (Ev.bind0 (areGiven_is a b) ?_) (Ev.is ?_)
    · rw [hg]
      simp only [if_true]
      exact Ev.bind (isHurwitz_ev l a b hg) (Ev.is rfl)
    · simp
theorem vSameLists_from (W : List (List Int)) (hn : W.length ≤ 1000000000) (hs : ∀ x ∈ W, x.length ≤ 1000000) (d : Nat) : ∀ i : Nat, i + d = W.length → Ev (fun k => laws_vSameLists.l0 k W W (W.length : Int) (i : Int)) true := by
  induction d with
  | zero =>
    intro i hi
    exact Ev.step (f := fun _ => some true) (fun k => by simp only [laws_vSameLists.l0]; rw [if_neg (by omega)]) (Ev.is rfl)
  | succ d ih =>
    intro i hi
    have hil : i < W.length := by omega
    have hr : rd_L1 W (i : Int) = W[i] := by
      unfold rd_L1
      rw [Int.toNat_natCast, List.getD_eq_getElem?_getD, List.getElem?_eq_getElem hil]
      rfl
    have hv := vSame_ev W[i] (hs _ (List.getElem_mem hil))
    refine Ev.step (f := fun k => (laws_vSame.f k W[i] W[i]).bind fun t => if t = true then laws_vSameLists.l0 k W W (W.length : Int) ((i + 1 : Nat) : Int) else some false) (fun k => ?_) (Ev.bind hv ?_)
    · simp only [laws_vSameLists.l0]
      rw [if_pos (by omega), if_pos (by omega), if_pos (by omega), if_pos (by omega), hr, w64_succ (n := W.length) (by omega) (by omega)]
    · simp only [if_true]
      exact ih (i + 1) (by omega)
theorem vSameLists_ev (W : List (List Int)) (hn : W.length ≤ 1000000000) (hs : ∀ x ∈ W, x.length ≤ 1000000) : Ev (fun k => laws_vSameLists.f k W W) true := by
  unfold laws_vSameLists.f
  simp only [if_true]
  exact vSameLists_from W hn hs W.length 0 (by omega)
end Go.Proofs.Ytgpoljimomfbbaa.P

-- UhuWay
namespace Go.Proofs.Ytgpoljimomfbbaa.P
set_option linter.unusedVariables false
set_option linter.unusedSimpArgs false
open Go.RowKit Go.Proofs.YtgpoljimomfbbaaW.PrintWords Go.Proofs.YtgpoljimomfbbaaW.PrintLast Go.Proofs.YtgpoljimomfbbaaW.PrintMore

/-- The sum. -/
def smm : List Int → Int
  | [] => 0
  | x :: l => x + smm l
theorem smm_perm {l m : List Int} (h : l.Perm m) : smm l = smm m := by
  induction h with
  | nil => rfl
  | cons x _ ih => simp only [smm, ih]
  | swap x y l => simp only [smm]; omega
  | trans _ _ h1 h2 => exact h1.trans h2
theorem smm_set (l : List Int) (y : Int) (h : 0 < l.length) : smm (l.set 0 y) = smm l - rd l 0 + y := by
  cases l with
  | nil => simp at h
  | cons x l => simp only [List.set_cons_zero, smm, rd]; simp; omega
theorem smm_bd {l : List Int} (h : ∀ x ∈ l, 1 ≤ x ∧ x ≤ 100000) : (l.length : Int) ≤ smm l ∧ smm l ≤ 100000 * (l.length : Int) := by
  induction l with
  | nil => simp [smm]
  | cons x l ih =>
    have h1 := h x (List.mem_cons_self)
    have h2 := ih (fun y hy => h y (List.mem_cons_of_mem _ hy))
    simp only [smm, List.length_cons]
    omega
def way (a : Int) : Nat → List Int → List (List Int)
  | 0, l => [l]
  | d + 1, l => if lastOf l a = true then [l] else l :: way a d (jmp l a 0)
/-- A step down. -/
theorem step_down {l : List Int} {a b : Int} (hg : huGv a b = true) (h : huIs l a b = true) (hl : lastOf l a = false) : inB 1 100000 (oth l a 0) = true ∧ smm (jmp l a 0) < smm l ∧ huIs (jmp l a 0) a b = true := by
  obtain ⟨h1, h2, h3, h4⟩ := huIs_iff.1 h
  have hr := h2 _ (rd_mem (l := l) (i := 0) (by omega))
  have hr0 : rd l ((0 : Nat) : Int) = rd l 0 := rfl
  unfold lastOf at hl
  have ho : inB 1 (rd l 0 - 1) (oth l a 0) = true := by simpa using hl
  have ho2 := inB_iff.1 ho
  have ho3 : inB 1 100000 (oth l a 0) = true := inB_iff.2 (by omega)
  refine ⟨ho3, ?_, jmp_is (by omega) h ho3⟩
  rw [jmp, smm_perm (down_perm _), smm_set l _ (by omega)]
  omega
theorem jumpOf_zero {l : List Int} {a : Int} (h : inB 1 100000 (oth l a 0) = true) : jumpOf l a 0 = (jmp l a 0, true) := by
  unfold jumpOf
  rw [if_pos h]
theorem way_both {a b : Int} (hg : huGv a b = true) (d : Nat) : ∀ (l : List Int) (o : List (List Int)), huIs l a b = true → smm l ≤ d → o.length + d ≤ 900000000 →
    Ev (fun k => spec_huDown.l0 k l a (o ++ [l])) (o ++ way a d l) ∧ Ev (fun k => impl_WayDown.l0 k l a (o ++ [l])) (o ++ way a d l, true) := by
  induction d with
  | zero =>
    intro l o h hs ho
    obtain ⟨h1, h2, h3, h4⟩ := huIs_iff.1 h
    have := smm_bd h2
    omega
  | succ d ih =>
    intro l o h hs ho
    obtain ⟨e1, e2⟩ := last_both hg h
    rw [way]
    cases hl : lastOf l a with
    | true =>
      rw [hl] at e1 e2
      simp only [if_true]
      constructor
      · refine Ev.step (fun k => by simp only [spec_huDown.l0]; rfl) (Ev.bind e2 ?_)
        simp only [if_true]
        exact Ev.is rfl
      · refine Ev.step (fun k => by simp only [impl_WayDown.l0]; rfl) (Ev.bind e1 ?_)
        simp only [if_true]
        exact Ev.is rfl
    | false =>
      rw [hl] at e1 e2
      obtain ⟨s1, s2, s3⟩ := step_down hg h hl
      have hn := (huIs_iff.1 h).1
      obtain ⟨j1, j2⟩ := jump_both hg h 0 (by omega)
      rw [jumpOf_zero s1] at j1 j2
      obtain ⟨r1, r2⟩ := ih (jmp l a 0) (o ++ [l]) s3 (by omega) (by rw [List.length_append, List.length_singleton]; omega)
      have hlen : (o ++ [l]).length < 1000000000 := by rw [List.length_append, List.length_singleton]; omega
      have happ : o ++ l :: way a d (jmp l a 0) = (o ++ [l]) ++ way a d (jmp l a 0) := by simp
      simp only [Bool.false_eq_true, if_false, happ]
      constructor
      · refine Ev.step (fun k => by simp only [spec_huDown.l0]; rfl) (Ev.bind e2 ?_)
        simp only [Bool.false_eq_true, if_false]
        refine Ev.bind j2 ?_
        simp only [hlen, if_true]
        exact r1
      · refine Ev.step (fun k => by simp only [impl_WayDown.l0]; rfl) (Ev.bind e1 ?_)
        simp only [Bool.false_eq_true, if_false]
        refine Ev.bind j1 (Ev.bind0 (clone_is _ ?_) ?_)
        · have := (huIs_iff.1 s3).1
          show (jmp l a 0).length < _
          omega
        · simp only [hlen, if_true]
          exact r2
/-- The whole way. -/
def wayOf (l : List Int) (a : Int) : List (List Int) := way a 400000 l
theorem huDown_ev {l : List Int} {a b : Int} (hg : huGv a b = true) (h : huIs l a b = true) : Ev (fun k => spec_huDown.f k l a) (wayOf l a) := by
  obtain ⟨h1, h2, h3, h4⟩ := huIs_iff.1 h
  have hs := smm_bd h2
  unfold spec_huDown.f
  refine Ev.bind0 (own_is l (by omega)) ?_
  exact (way_both hg 400000 l [] h (by omega) (by simp)).1
def wayAll (l : List Int) (a b : Int) : List (List Int) × Bool := if huSol l a b then (wayOf l a, true) else ([], false)
theorem WayDown_ev (l : List Int) (a b : Int) : Ev (fun k => impl_WayDown.f k l a b) (wayAll l a b) := by
  unfold impl_WayDown.f wayAll
  refine Ev.bind (isSolution_ev l a b) ?_
  cases hs : huSol l a b with
  | false =>
    simp only [Bool.false_eq_true, if_false]
    exact Ev.is rfl
  | true =>
    obtain ⟨hg, h⟩ := huSol_iff.1 hs
    obtain ⟨h1, h2, h3, h4⟩ := huIs_iff.1 h
    have hs := smm_bd h2
    simp only [if_true]
    refine Ev.bind0 (clone_is l (by omega)) ?_
    exact (way_both hg 400000 l [] h (by omega) (by simp)).2
theorem way_length (a : Int) (d : Nat) : ∀ l, 1 ≤ (way a d l).length ∧ (way a d l).length ≤ d + 1 := by
  induction d with
  | zero => intro l; simp [way]
  | succ d ih =>
    intro l
    rw [way]
    have := ih (jmp l a 0)
    split
    · simp
    · simp only [List.length_cons]; omega
theorem way_head (a : Int) (d : Nat) (l : List Int) : (way a d l)[0]? = some l := by
  cases d with
  | zero => rfl
  | succ d => rw [way]; split <;> rfl
/-- Each but the first is behind a jump at 0 from the one before. -/
theorem way_steps {a b : Int} (hg : huGv a b = true) (d : Nat) : ∀ l, huIs l a b = true → ∀ i x, (way a d l)[i]? = some x → huIs x a b = true ∧ ∀ y, (way a d l)[i + 1]? = some y → inB 1 100000 (oth x a 0) = true ∧ y = jmp x a 0 := by
  induction d with
  | zero =>
    intro l h i x hx
    rw [way] at hx ⊢
    cases i with
    | zero =>
      obtain rfl : l = x := by simpa using hx
      exact ⟨h, fun y hy => by simp at hy⟩
    | succ i => simp at hx
  | succ d ih =>
    intro l h i x hx
    rw [way] at hx ⊢
    cases hl : lastOf l a with
    | true =>
      rw [hl] at hx
      simp only [if_true] at hx ⊢
      cases i with
      | zero =>
        obtain rfl : l = x := by simpa using hx
        exact ⟨h, fun y hy => by simp at hy⟩
      | succ i => simp at hx
    | false =>
      rw [hl] at hx
      simp only [Bool.false_eq_true, if_false] at hx ⊢
      obtain ⟨s1, s2, s3⟩ := step_down hg h hl
      cases i with
      | zero =>
        obtain rfl : l = x := by simpa using hx
        refine ⟨h, fun y hy => ?_⟩
        rw [List.getElem?_cons_succ, way_head] at hy
        exact ⟨s1, by simpa using hy.symm⟩
      | succ i =>
        rw [List.getElem?_cons_succ] at hx
        obtain ⟨q1, q2⟩ := ih (jmp l a 0) s3 i x hx
        exact ⟨q1, fun y hy => q2 y (by rw [List.getElem?_cons_succ] at hy; exact hy)⟩
end Go.Proofs.Ytgpoljimomfbbaa.P

-- UhuClimb
namespace Go.Proofs.Ytgpoljimomfbbaa.P
set_option linter.unusedVariables false
set_option linter.unusedSimpArgs false
open Go.RowKit Go.Proofs.YtgpoljimomfbbaaW.PrintWords Go.Proofs.YtgpoljimomfbbaaW.PrintLast Go.Proofs.YtgpoljimomfbbaaW.PrintMore
def climb (a : Int) : List Int → List Int → List Int × Bool
  | l, [] => (l, true)
  | l, i :: word => if (jumpOf l a i.toNat).2 then climb a (jumpOf l a i.toNat).1 word else ([], false)
def climbOf (l : List Int) (a b : Int) (word : List Int) : List Int × Bool :=
  if huSol l a b && (decide (word.length ≤ 40) && word.all (inB 0 ((l.length : Int) - 1))) then climb a l word else ([], false)
theorem jumpOf_is {l : List Int} {a b : Int} {i : Nat} (hi : i < l.length) (h : huIs l a b = true) (hj : (jumpOf l a i).2 = true) : huIs (jumpOf l a i).1 a b = true ∧ (jumpOf l a i).1.length = l.length := by
  unfold jumpOf at hj ⊢
  cases ho : inB 1 100000 (oth l a i) with
  | false => rw [ho] at hj; simp at hj
  | true =>
    simp only [if_true]
    exact ⟨jmp_is hi h ho, jmp_length l a i⟩
theorem climb_length {a b : Int} (word : List Int) : ∀ l : List Int, huIs l a b = true → (∀ i ∈ word, 0 ≤ i ∧ i ≤ (l.length : Int) - 1) → (climb a l word).1.length ≤ 4 := by
  induction word with
  | nil =>
    intro l h hw
    have := (huIs_iff.1 h).1
    simp only [climb]
    omega
  | cons i word ih =>
    intro l h hw
    have hi := hw i List.mem_cons_self
    rw [climb]
    cases hj : (jumpOf l a i.toNat).2 with
    | false => simp
    | true =>
      simp only [if_true]
      have hh := jumpOf_is (i := i.toNat) (by omega) h hj
      exact ih _ hh.1 (fun x hx => by rw [hh.2]; exact hw x (List.mem_cons_of_mem _ hx))
theorem climb_upto {a b : Int} (hg : huGv a b = true) (word : List Int) (hn : word.length ≤ 1000000) (d : Nat) : ∀ (i : Nat) (l : List Int), i + d = word.length → huIs l a b = true → (∀ x ∈ word, 0 ≤ x ∧ x ≤ (l.length : Int) - 1) →
    Ev (fun k => impl_ClimbHurwitz.l0 k a l word (word.length : Int) (i : Int)) (climb a l (word.drop i)) ∧ Ev (fun k => spec_ClimbHurwitz.l0 k a l word (word.length : Int) (i : Int)) (climb a l (word.drop i)) := by
  induction d with
  | zero =>
    intro i l hid h hw
    rw [List.drop_eq_nil_of_le (by omega), climb]
    exact ⟨Ev.step (f := fun _ => some (l, true)) (fun k => by simp only [impl_ClimbHurwitz.l0]; rw [if_neg (by omega)]) (Ev.is rfl),
      Ev.step (f := fun _ => some (l, true)) (fun k => by simp only [spec_ClimbHurwitz.l0]; rw [if_neg (by omega)]) (Ev.is rfl)⟩
  | succ d ih =>
    intro i l hid h hw
    have hx := hw _ (rd_mem (l := word) (i := i) (by omega))
    have hlt : (rd word (i : Int)).toNat < l.length := by omega
    obtain ⟨e1, e2⟩ := jump_both hg h (rd word (i : Int)).toNat hlt
    rw [Int.toNat_of_nonneg hx.1] at e1 e2
    rw [rd_drop word i (by omega), climb]
    have key : ∀ (g : Nat → Option (List Int × Bool)), ((jumpOf l a (rd word (i : Int)).toNat).2 = true → Ev g (climb a (jumpOf l a (rd word (i : Int)).toNat).1 (word.drop (i + 1)))) →
        Ev (fun k => if (jumpOf l a (rd word (i : Int)).toNat).2 = true then g k else some ([], false)) (if (jumpOf l a (rd word (i : Int)).toNat).2 then climb a (jumpOf l a (rd word (i : Int)).toNat).1 (word.drop (i + 1)) else ([], false)) := by
      intro g hgood
      cases hj : (jumpOf l a (rd word (i : Int)).toNat).2 with
      | false =>
        simp only [Bool.false_eq_true, if_false]
        exact Ev.is rfl
      | true =>
        simp only [if_true]
        exact hgood hj
    constructor
    · refine Ev.step (f := fun k => (impl_jump.f k l a (rd word (i : Int))).bind fun bt => if bt.2 = true then impl_ClimbHurwitz.l0 k a bt.1 word (word.length : Int) ((i + 1 : Nat) : Int) else some ([], false)) (fun k => ?_) (Ev.bind e1 (key _ (fun hj => ?_)))
      · simp only [impl_ClimbHurwitz.l0]
        rw [if_pos (by omega), if_pos (by omega), if_pos (by omega), w64_succ (n := word.length) (by omega) (by omega)]
      · have hh := jumpOf_is hlt h hj
        exact (ih (i + 1) _ (by omega) hh.1 (fun x hx => by rw [hh.2]; exact hw x hx)).1
    · refine Ev.step (f := fun k => (spec_huJump.f k l a (rd word (i : Int))).bind fun bt => if bt.2 = true then spec_ClimbHurwitz.l0 k a bt.1 word (word.length : Int) ((i + 1 : Nat) : Int) else some ([], false)) (fun k => ?_) (Ev.bind e2 (key _ (fun hj => ?_)))
      · simp only [spec_ClimbHurwitz.l0]
        rw [if_pos (by omega), if_pos (by omega), if_pos (by omega), w64_succ (n := word.length) (by omega) (by omega)]
      · have hh := jumpOf_is hlt h hj
        exact (ih (i + 1) _ (by omega) hh.1 (fun x hx => by rw [hh.2]; exact hw x hx)).2
theorem climb_both (l : List Int) (a b : Int) (word : List Int) (hl : l.length ≤ 4611686018427387904) (hn : word.length ≤ 4611686018427387904) :
    Ev (fun k => impl_ClimbHurwitz.f k l a b word) (climbOf l a b word) ∧ Ev (fun k => spec_ClimbHurwitz.f k l a b word) (climbOf l a b word) := by
  unfold impl_ClimbHurwitz.f spec_ClimbHurwitz.f climbOf
  have ni : Ev (fun k => impl_ClimbHurwitz.j0 k l a word true) ([], false) := Ev.step (f := fun _ => some ([], false)) (fun k => by simp only [impl_ClimbHurwitz.j0, if_true]) (Ev.is rfl)
  have ns : Ev (fun k => spec_ClimbHurwitz.j0 k l a word true) ([], false) := Ev.step (f := fun _ => some ([], false)) (fun k => by simp only [spec_ClimbHurwitz.j0, if_true]) (Ev.is rfl)
  have hboth : ∀ hs : huSol l a b = true, (Ev (fun k => if (word.length : Int) > 40 then impl_ClimbHurwitz.j0 k l a word true else (impl_allWithin.f word 0 (wrap64 ((l.length : Int) - 1))).bind fun t394 => impl_ClimbHurwitz.j0 k l a word (!t394)) (if decide (word.length ≤ 40) && word.all (inB 0 ((l.length : Int) - 1)) then climb a l word else ([], false))) ∧
      (Ev (fun k => if (word.length : Int) > 40 then spec_ClimbHurwitz.j0 k l a word true else (spec_l1All.f k word 0 (wrap64 ((l.length : Int) - 1))).bind fun t394 => spec_ClimbHurwitz.j0 k l a word (!t394)) (if decide (word.length ≤ 40) && word.all (inB 0 ((l.length : Int) - 1)) then climb a l word else ([], false))) := by
    intro hs
    have h1 := (huIs_iff.1 (huSol_iff.1 hs).2).1
    rw [w64 (x := (l.length : Int) - 1) (by omega) (by omega)]
    by_cases h40 : (word.length : Int) > 40
    · have h5 : decide (word.length ≤ 40) = false := decide_eq_false (by omega)
      simp only [h40, h5, if_true, Bool.false_and, Bool.false_eq_true, if_false]
      exact ⟨ni, ns⟩
    · have h5 : decide (word.length ≤ 40) = true := decide_eq_true (by omega)
      simp only [h40, h5, if_false, Bool.true_and]
      have hA : impl_allWithin.f word 0 ((l.length : Int) - 1) = some (word.all (inB 0 ((l.length : Int) - 1))) := rfl
      have hS := l1All_ev word 0 ((l.length : Int) - 1) hn
      cases hw : word.all (inB 0 ((l.length : Int) - 1)) with
      | false =>
        rw [hw] at hA hS
        simp only [Bool.false_eq_true, if_false]
        exact ⟨Ev.bind0 hA ni, Ev.bind hS ns⟩
      | true =>
        rw [hw] at hA hS
        simp only [if_true]
        have hc := climb_upto (huSol_iff.1 hs).1 word (by omega) word.length 0 l (by omega) (huSol_iff.1 hs).2 (all_iff.1 hw)
        rw [List.drop_zero] at hc
        refine ⟨Ev.bind0 hA (Ev.step (f := fun k => (slices_Clone_int_int.f l).bind fun t395 => impl_ClimbHurwitz.l0 k a t395 word (word.length : Int) 0) (fun k => by simp only [impl_ClimbHurwitz.j0, Bool.not_true, Bool.false_eq_true, if_false]) (Ev.bind0 (clone_is l (by omega)) hc.1)),
          Ev.bind hS (Ev.step (f := fun k => (spec_l1Own.f l).bind fun t395 => spec_ClimbHurwitz.l0 k a t395 word (word.length : Int) 0) (fun k => by simp only [spec_ClimbHurwitz.j0, Bool.not_true, Bool.false_eq_true, if_false]) (Ev.bind0 (own_is l (by omega)) hc.2))⟩
  constructor
  · refine Ev.bind (isSolution_ev l a b) ?_
    cases hs : huSol l a b with
    | false =>
      simp only [Bool.false_eq_true, if_false, Bool.false_and]
      exact ni
    | true =>
      simp only [if_true, Bool.true_and]
      exact (hboth hs).1
  · refine Ev.bind0 (huGiven_is a b) ?_
    unfold huSol
    cases hg : huGv a b with
    | false =>
      simp only [Bool.false_eq_true, if_false, Bool.false_and]
      exact ns
    | true =>
      simp only [if_true, Bool.true_and]
      refine Ev.bind (huGood_ev l a b hg hl) ?_
      cases hs : huIs l a b with
      | false =>
        simp only [Bool.false_eq_true, if_false, Bool.false_and]
        exact ns
      | true =>
        simp only [if_true, Bool.true_and]
        exact (hboth (by simp [huSol, hg, hs])).2
theorem climbOf_length (l : List Int) (a b : Int) (word : List Int) : (climbOf l a b word).1.length ≤ 4 := by
  unfold climbOf
  cases h : huSol l a b && (decide (word.length ≤ 40) && word.all (inB 0 ((l.length : Int) - 1))) with
  | false => simp
  | true =>
    simp only [Bool.and_eq_true] at h
    simp only [if_true]
    exact climb_length word l (huSol_iff.1 h.1).2 (all_iff.1 h.2.2)
end Go.Proofs.Ytgpoljimomfbbaa.P

-- UhuWord
namespace Go.Proofs.Ytgpoljimomfbbaa.P
set_option linter.unusedVariables false
set_option linter.unusedSimpArgs false
open Go.RowKit Go.Proofs.YtgpoljimomfbbaaW.PrintWords Go.Proofs.YtgpoljimomfbbaaW.PrintLast Go.Proofs.YtgpoljimomfbbaaW.PrintMore
theorem same_from (a b : List Int) (hl : a.length = b.length) (hn : a.length ≤ 4611686018427387904) (d : Nat) : ∀ i : Nat, i + d = a.length → a.take i = b.take i → Ev (fun k => spec_l1Same.l0 k a b (a.length : Int) (i : Int)) (decide (a = b)) ∧ Ev (fun k => slices_Equal_int_int.l0 k a b (a.length : Int) (i : Int)) (decide (a = b)) := by
  induction d with
  | zero =>
    intro i hi ht
    rw [List.take_of_length_le (by omega), List.take_of_length_le (by omega)] at ht
    constructor
    · refine Ev.step (fun k => by simp only [spec_l1Same.l0]; rw [if_neg (by omega)]) ?_
      exact Ev.is (by rw [decide_eq_true ht])
    · refine Ev.step (fun k => by simp only [slices_Equal_int_int.l0]; rw [if_neg (by omega)]) ?_
      exact Ev.is (by rw [decide_eq_true ht])
  | succ d ih =>
    intro i hi ht
    by_cases h : rd a (i : Int) = rd b (i : Int)
    · have hr := ih (i + 1) (by omega) (by rw [List.take_succ_eq_append_getElem (by omega), List.take_succ_eq_append_getElem (by omega), ht, ← rd_lt a i (by omega), ← rd_lt b i (by omega), h])
      constructor
      · refine Ev.step (fun k => by simp only [spec_l1Same.l0]; rw [if_pos (by omega), if_pos (by omega), if_pos (by omega), if_pos (by omega), if_pos h, w64_succ (n := a.length) (by omega) hn]) hr.1
      · refine Ev.step (fun k => by simp only [slices_Equal_int_int.l0]; rw [if_pos (by omega), if_pos (by omega), if_pos (by omega), if_pos (by omega), if_pos h, w64_succ (n := a.length) (by omega) hn]) hr.2
    · have hd : decide (a = b) = false := decide_eq_false (fun e => h (by rw [e]))
      constructor
      · refine Ev.step (f := fun _ => some false) (fun k => by simp only [spec_l1Same.l0]; rw [if_pos (by omega), if_pos (by omega), if_pos (by omega), if_pos (by omega), if_neg h]) (Ev.is (by rw [hd]))
      · refine Ev.step (f := fun _ => some false) (fun k => by simp only [slices_Equal_int_int.l0]; rw [if_pos (by omega), if_pos (by omega), if_pos (by omega), if_pos (by omega), if_neg h]) (Ev.is (by rw [hd]))
theorem same_both (a b : List Int) (hn : a.length ≤ 4611686018427387904) : Ev (fun k => spec_l1Same.f k a b) (decide (a = b)) ∧ Ev (fun k => slices_Equal_int_int.f k a b) (decide (a = b)) := by
  unfold spec_l1Same.f slices_Equal_int_int.f
  by_cases hl : a.length = b.length
  · simp only [hl, if_true]
    have := same_from a b hl hn a.length 0 (by omega) rfl
    rw [hl] at this
    exact this
  · have h : ¬ (a.length : Int) = (b.length : Int) := by omega
    simp only [h, if_false]
    have hd : decide (a = b) = false := decide_eq_false (fun e => hl (by rw [e]))
    exact ⟨Ev.is (by rw [hd]), Ev.is (by rw [hd])⟩
/-- The search for the index that leads back. -/
theorem search {a b : Int} (hg : huGv a b = true) (W : List (List Int)) (hW : W.length ≤ 1000000) (o : List Int) (ho : o.length ≤ 1000000) (n : Nat) (hn : n + 1 < W.length) (hu : huIs (rd_L1 W ((n + 1 : Nat) : Int)) a b = true) (hv : (rd_L1 W (n : Int)).length ≤ 4) (p : Nat) (hp : p < (rd_L1 W ((n + 1 : Nat) : Int)).length) (hj : jumpOf (rd_L1 W ((n + 1 : Nat) : Int)) a p = (rd_L1 W (n : Int), true)) (d : Nat) :
    ∀ i : Nat, i + d = p → ∃ q : Nat, q ≤ p ∧ jumpOf (rd_L1 W ((n + 1 : Nat) : Int)) a q = (rd_L1 W (n : Int), true) ∧ ∀ r, (Ev (fun k => spec_WordUp.l0 k a W (o ++ [(q : Int)]) (n : Int)) r → Ev (fun k => spec_WordUp.l1 k a W o ((n + 1 : Nat) : Int) (i : Int) (jumpOf (rd_L1 W ((n + 1 : Nat) : Int)) a i).1 (jumpOf (rd_L1 W ((n + 1 : Nat) : Int)) a i).2) r) ∧ (Ev (fun k => impl_WordUp.l0 k a W (o ++ [(q : Int)]) (n : Int)) r → Ev (fun k => impl_WordUp.l1 k a W o ((n + 1 : Nat) : Int) (i : Int)) r) := by
  have hw : wrap64 (((n + 1 : Nat) : Int) - 1) = (n : Int) := by rw [w64 (by omega) (by omega)]; omega
  have hul := (huIs_iff.1 hu).1
  have c0 : (0 : Int) ≤ (n : Int) := by omega
  have c1 : (n : Int) < (W.length : Int) := by omega
  have c2 : (0 : Int) ≤ ((n + 1 : Nat) : Int) := by omega
  have c3 : ((n + 1 : Nat) : Int) < (W.length : Int) := by omega
  have c4 : o.length < 17592186044416 := by omega
  -- found
  have hit : ∀ i : Nat, i < (rd_L1 W ((n + 1 : Nat) : Int)).length → jumpOf (rd_L1 W ((n + 1 : Nat) : Int)) a i = (rd_L1 W (n : Int), true) → ∀ r, (Ev (fun k => spec_WordUp.l0 k a W (o ++ [(i : Int)]) (n : Int)) r → Ev (fun k => spec_WordUp.l1 k a W o ((n + 1 : Nat) : Int) (i : Int) (jumpOf (rd_L1 W ((n + 1 : Nat) : Int)) a i).1 (jumpOf (rd_L1 W ((n + 1 : Nat) : Int)) a i).2) r) ∧ (Ev (fun k => impl_WordUp.l0 k a W (o ++ [(i : Int)]) (n : Int)) r → Ev (fun k => impl_WordUp.l1 k a W o ((n + 1 : Nat) : Int) (i : Int)) r) := by
    intro i hi he r
    have hs := same_both (rd_L1 W (n : Int)) (rd_L1 W (n : Int)) (by omega)
    rw [decide_eq_true rfl] at hs
    constructor
    · intro hr
      rw [he]
      refine Ev.step (fun k => by simp only [spec_WordUp.l1, hw, c0, c1, if_true]; rfl) (Ev.bind hs.1 ?_)
      simp only [c4, if_true]
      exact hr
    · intro hr
      have hjb := (jump_both hg hu i hi).1
      rw [he] at hjb
      refine Ev.step (fun k => by simp only [impl_WordUp.l1, hw, c0, c1, c2, c3, if_true]; rfl) (Ev.bind hjb ?_)
      simp only [if_true]
      refine Ev.bind hs.2 ?_
      simp only [c4, if_true]
      exact hr
  induction d with
  | zero =>
    intro i hi
    obtain rfl : i = p := by omega
    exact ⟨i, Nat.le_refl _, hj, hit i hp hj⟩
  | succ d ih =>
    intro i hi
    by_cases he : jumpOf (rd_L1 W ((n + 1 : Nat) : Int)) a i = (rd_L1 W (n : Int), true)
    · exact ⟨i, by omega, he, hit i (by omega) he⟩
    · obtain ⟨q, hqp, hqj, hq⟩ := ih (i + 1) (by omega)
      refine ⟨q, hqp, hqj, fun r => ⟨fun hr => ?_, fun hr => ?_⟩⟩
      · have hnext := (hq r).1 hr
        have hjn := (jump_both hg hu (i + 1) (by omega)).2
        have hw2 : wrap64 ((i : Int) + 1) = ((i + 1 : Nat) : Int) := by rw [w64 (by omega) (by omega)]; omega
        cases hb : (jumpOf (rd_L1 W ((n + 1 : Nat) : Int)) a i).2 with
        | false =>
          refine Ev.step (fun k => by simp only [spec_WordUp.l1, hw2, c2, c3, Bool.false_eq_true, if_true, if_false]; rfl) (Ev.bind hjn ?_)
          exact hnext
        | true =>
          have hne : decide ((jumpOf (rd_L1 W ((n + 1 : Nat) : Int)) a i).1 = rd_L1 W (n : Int)) = false := decide_eq_false (fun e => he (Prod.ext e hb))
          have hjl : (jumpOf (rd_L1 W ((n + 1 : Nat) : Int)) a i).1.length ≤ 4611686018427387904 := by
            unfold jumpOf
            split
            · rw [jmp_length]; omega
            · simp
          have hs := (same_both (jumpOf (rd_L1 W ((n + 1 : Nat) : Int)) a i).1 (rd_L1 W (n : Int)) hjl).1
          rw [hne] at hs
          refine Ev.step (fun k => by simp only [spec_WordUp.l1, hw, hw2, c0, c1, c2, c3, if_true]; rfl) (Ev.bind hs ?_)
          simp only [Bool.false_eq_true, if_false]
          exact Ev.bind hjn hnext
      · have hnext := (hq r).2 hr
        have hjb := (jump_both hg hu i (by omega)).1
        have hw2 : wrap64 ((i : Int) + 1) = ((i + 1 : Nat) : Int) := by rw [w64 (by omega) (by omega)]; omega
        refine Ev.step (fun k => by simp only [impl_WordUp.l1, hw, hw2, c0, c1, c2, c3, if_true]; rfl) (Ev.bind hjb ?_)
        cases hb : (jumpOf (rd_L1 W ((n + 1 : Nat) : Int)) a i).2 with
        | false =>
          simp only [Bool.false_eq_true, if_false]
          exact hnext
        | true =>
          have hne : decide ((jumpOf (rd_L1 W ((n + 1 : Nat) : Int)) a i).1 = rd_L1 W (n : Int)) = false := decide_eq_false (fun e => he (Prod.ext e hb))
          have hjl : (jumpOf (rd_L1 W ((n + 1 : Nat) : Int)) a i).1.length ≤ 4611686018427387904 := by
            unfold jumpOf
            split
            · rw [jmp_length]; omega
            · simp
          have hs := (same_both (jumpOf (rd_L1 W ((n + 1 : Nat) : Int)) a i).1 (rd_L1 W (n : Int)) hjl).2
          rw [hne] at hs
          simp only [if_true]
          refine Ev.bind hs ?_
          simp only [Bool.false_eq_true, if_false]
          exact hnext
/-- A solution that jumps at 0 to another one is got back from it. -/
theorem back_at {v : List Int} {a b : Int} (hg : huGv a b = true) (h : huIs v a b = true) (ho : inB 1 100000 (oth v a 0) = true) : ∃ p, p < (jmp v a 0).length ∧ jumpOf (jmp v a 0) a p = (v, true) := by
  have hl := (huIs_iff.1 h).1
  have hm : oth v a 0 ∈ jmp v a 0 := by
    rw [jmp, (down_perm _).mem_iff]
    exact List.mem_set (by omega) _
  obtain ⟨p, hp, he⟩ := List.getElem_of_mem hm
  refine ⟨p, hp, ?_⟩
  have hb := jump_back (i := 0) hg (by omega) h ho p hp (by rw [rd_lt _ _ hp, he])
  unfold jumpAt at hb
  have hs : huSol (jmp v a 0) a b = true := huSol_iff.2 ⟨hg, jmp_is (by omega) h ho⟩
  rw [hs, decide_eq_true (show (0 : Int) ≤ (p : Int) ∧ (p : Int) < ((jmp v a 0).length : Int) from ⟨by omega, by omega⟩)] at hb
  simpa using hb
theorem way_len {l : List Int} {a b : Int} (hg : huGv a b = true) (h : huIs l a b = true) : ∀ (i : Nat) x, (wayOf l a)[i]? = some x → x.length = l.length := by
  intro i
  induction i with
  | zero =>
    intro x hx
    have := way_head a 400000 l
    rw [show (wayOf l a)[0]? = some l from this] at hx
    rw [Option.some.inj hx]
  | succ i ih =>
    intro x hx
    have hi : i < (wayOf l a).length := by have := (List.getElem?_eq_some_iff.1 hx).1; omega
    obtain ⟨h1, h2⟩ := way_steps hg 400000 l h i _ (List.getElem?_eq_getElem hi)
    obtain ⟨_, h3⟩ := h2 x hx
    rw [h3, jmp_length]
    exact ih _ (List.getElem?_eq_getElem hi)
theorem words {l : List Int} {a b : Int} (hg : huGv a b = true) (h : huIs l a b = true) (n : Nat) : ∀ (o : List Int), n < (wayOf l a).length → o.length + n ≤ 500000 → ∃ w : List Int, w.length = n ∧ (∀ x ∈ w, 0 ≤ x ∧ x ≤ (l.length : Int) - 1) ∧ climb a (rd_L1 (wayOf l a) (n : Int)) w = (l, true) ∧ Ev (fun k => spec_WordUp.l0 k a (wayOf l a) o (n : Int)) (o ++ w, true) ∧ Ev (fun k => impl_WordUp.l0 k a (wayOf l a) o (n : Int)) (o ++ w, true) := by
  have hl := way_length a 400000 l
  have hl2 : (wayOf l a).length = (way a 400000 l).length := rfl
  induction n with
  | zero =>
    intro o hn ho
    refine ⟨[], rfl, by simp, ?_, ?_, ?_⟩
    · have h0 : rd_L1 (wayOf l a) ((0 : Nat) : Int) = l := by
        have := way_head a 400000 l
        unfold rd_L1
        rw [Int.toNat_natCast, List.getD_eq_getElem?_getD, show (wayOf l a)[0]? = some l from this]
        rfl
      rw [h0]
      rfl
    · rw [List.append_nil]
      exact Ev.step (f := fun _ => some (o, true)) (fun k => by simp only [spec_WordUp.l0]; rw [if_neg (by omega)]) (Ev.is rfl)
    · rw [List.append_nil]
      exact Ev.step (f := fun _ => some (o, true)) (fun k => by simp only [impl_WordUp.l0]; rw [if_neg (by omega)]) (Ev.is rfl)
  | succ n ih =>
    intro o hn ho
    have g1 : (wayOf l a)[n]? = some (rd_L1 (wayOf l a) (n : Int)) := by
      unfold rd_L1
      rw [Int.toNat_natCast, List.getD_eq_getElem?_getD, List.getElem?_eq_getElem (by omega)]
      rfl
    have g2 : (wayOf l a)[n + 1]? = some (rd_L1 (wayOf l a) ((n + 1 : Nat) : Int)) := by
      unfold rd_L1
      rw [Int.toNat_natCast, List.getD_eq_getElem?_getD, List.getElem?_eq_getElem (by omega)]
      rfl
    obtain ⟨q1, q2⟩ := way_steps hg 400000 l h n _ g1
    obtain ⟨q3, q4⟩ := q2 _ g2
    have q5 := (way_steps hg 400000 l h (n + 1) _ g2).1
    have q6 := way_len hg h (n + 1) _ g2
    obtain ⟨p, hp, hj⟩ := back_at hg q1 q3
    rw [← q4] at hp hj
    obtain ⟨q, hqp, hqj, hq⟩ := search hg (wayOf l a) (by omega) o (by omega) n (by omega) q5 ((huIs_iff.1 q1).1.2) p hp hj p 0 (by omega)
    obtain ⟨w, hw1, hw2, hw3, hr1, hr2⟩ := ih (o ++ [(q : Int)]) (by omega) (by rw [List.length_append, List.length_singleton]; omega)
    have happ : o ++ (q : Int) :: w = (o ++ [(q : Int)]) ++ w := by simp
    refine ⟨(q : Int) :: w, by rw [List.length_cons, hw1], ?_, ?_, ?_, ?_⟩
    · intro x hx
      rcases List.mem_cons.1 hx with e | hx
      · omega
      · exact hw2 x hx
    · rw [climb, Int.toNat_natCast, hqj]
      exact hw3
    · rw [happ]
      have h0 := (hq _).1 hr1
      have hj0 := (jump_both hg q5 0 (by have := (huIs_iff.1 q5).1; omega)).2
      refine Ev.step (f := fun k => (spec_huJump.f k (rd_L1 (wayOf l a) ((n + 1 : Nat) : Int)) a 0).bind fun bt => spec_WordUp.l1 k a (wayOf l a) o ((n + 1 : Nat) : Int) 0 bt.1 bt.2) (fun k => ?_) (Ev.bind hj0 h0)
      simp only [spec_WordUp.l0]
      rw [if_pos (by omega), if_pos (by omega), if_pos (by omega)]
    · rw [happ]
      have h0 := (hq _).2 hr2
      refine Ev.step (f := fun k => impl_WordUp.l1 k a (wayOf l a) o ((n + 1 : Nat) : Int) 0) (fun k => ?_) h0
      simp only [impl_WordUp.l0]
      rw [if_pos (by omega)]
/-- WordUp: both texts; the word leads from the way's end back. -/
theorem word_both (l : List Int) (a b : Int) (hn : l.length ≤ 4611686018427387904) : ∃ r : List Int × Bool, r.2 = huSol l a b ∧ r.1.length ≤ 500000 ∧ (huSol l a b = true → r.1.length + 1 = (wayOf l a).length ∧ (∀ x ∈ r.1, 0 ≤ x ∧ x ≤ (l.length : Int) - 1) ∧ climb a (rd_L1 (wayOf l a) (((wayOf l a).length : Int) - 1)) r.1 = (l, true)) ∧ Ev (fun k => spec_WordUp.f k l a b) r ∧ Ev (fun k => impl_WordUp.f k l a b) r := by
  have hl := way_length a 400000 l
  have hl2 : (wayOf l a).length = (way a 400000 l).length := rfl
  unfold spec_WordUp.f impl_WordUp.f
  have ns : Ev (fun k => spec_WordUp.j0 k l a true) ([], false) := Ev.step (f := fun _ => some ([], false)) (fun k => by simp only [spec_WordUp.j0, if_true]) (Ev.is rfl)
  have hw : wrap64 (((wayOf l a).length : Int) - 1) = (((wayOf l a).length - 1 : Nat) : Int) := by rw [w64 (by omega) (by omega)]; omega
  have hwn : ((wayOf l a).length : Int) - 1 = (((wayOf l a).length - 1 : Nat) : Int) := by omega
  cases hs : huSol l a b with
  | false =>
    refine ⟨([], false), rfl, by simp, by simp, ?_, ?_⟩
    · refine Ev.bind0 (huGiven_is a b) ?_
      cases hg : huGv a b with
      | false =>
        simp only [Bool.false_eq_true, if_false]
        exact ns
      | true =>
        have hi : huIs l a b = false := by simpa [huSol, hg] using hs
        simp only [if_true]
        refine Ev.bind (huGood_ev l a b hg hn) ?_
        rw [hi]
        exact ns
    · refine Ev.bind (WayDown_ev l a b) ?_
      unfold wayAll
      rw [hs]
      simp only [Bool.false_eq_true, if_false]
      exact Ev.is rfl
  | true =>
    obtain ⟨hg, h⟩ := huSol_iff.1 hs
    obtain ⟨w, hw1, hw2, hw3, hr1, hr2⟩ := words hg h ((wayOf l a).length - 1) [] (by omega) (by simp; omega)
    rw [List.nil_append] at hr1 hr2
    refine ⟨(w, true), rfl, by show w.length ≤ _; omega, fun _ => ⟨by show w.length + 1 = _; omega, hw2, by rw [hwn]; exact hw3⟩, ?_, ?_⟩
    · refine Ev.bind0 (huGiven_is a b) ?_
      rw [hg]
      simp only [if_true]
      refine Ev.bind (huGood_ev l a b hg hn) ?_
      rw [h]
      refine Ev.step (f := fun k => (spec_huDown.f k l a).bind fun t => spec_WordUp.l0 k a t [] (wrap64 ((t.length : Int) - 1))) (fun k => by simp only [spec_WordUp.j0, Bool.not_true, Bool.false_eq_true, if_false]) (Ev.bind (huDown_ev hg h) ?_)
      rw [hw]
      exact hr1
    · refine Ev.bind (WayDown_ev l a b) ?_
      unfold wayAll
      rw [hs]
      simp only [if_true, hw]
      exact hr2
end Go.Proofs.Ytgpoljimomfbbaa.P

-- UhuFund
namespace Go.Proofs.Ytgpoljimomfbbaa.P
set_option linter.unusedVariables false
set_option linter.unusedSimpArgs false
open Go.RowKit Go.Proofs.YtgpoljimomfbbaaW.PrintWords Go.Proofs.YtgpoljimomfbbaaW.PrintLast Go.Proofs.YtgpoljimomfbbaaW.PrintMore
theorem spec_WayDown_ev (l : List Int) (a b : Int) (hn : l.length ≤ 4611686018427387904) : Ev (fun k => spec_WayDown.f k l a b) (wayAll l a b) := by
  unfold spec_WayDown.f wayAll huSol
  refine Ev.bind0 (huGiven_is a b) ?_
  cases hg : huGv a b with
  | false =>
    simp only [Bool.false_eq_true, if_false, Bool.false_and]
    exact Ev.is rfl
  | true =>
    simp only [if_true, Bool.true_and]
    refine Ev.bind (huGood_ev l a b hg hn) ?_
    cases hs : huIs l a b with
    | false =>
      simp only [Bool.false_eq_true, if_false]
      exact Ev.is rfl
    | true =>
      simp only [if_true]
      exact Ev.bind (huDown_ev hg hs) (Ev.is rfl)
def fundOf (l : List Int) (a b : Int) : List Int × Bool := if huSol l a b then (rd_L1 (wayOf l a) (((wayOf l a).length : Int) - 1), true) else ([], false)
theorem FundamentalOf_ev (l : List Int) (a b : Int) : Ev (fun k => impl_FundamentalOf.f k l a b) (fundOf l a b) := by
  have hl := way_length a 400000 l
  have hl2 : (wayOf l a).length = (way a 400000 l).length := rfl
  have hw : wrap64 (((wayOf l a).length : Int) - 1) = ((wayOf l a).length : Int) - 1 := w64 (by omega) (by omega)
  have c1 : 0 ≤ ((wayOf l a).length : Int) - 1 := by omega
  have c2 : ((wayOf l a).length : Int) - 1 < ((wayOf l a).length : Int) := by omega
  unfold impl_FundamentalOf.f fundOf
  refine Ev.bind (WayDown_ev l a b) ?_
  unfold wayAll
  cases hs : huSol l a b with
  | false =>
    simp only [Bool.false_eq_true, if_false]
    exact Ev.is rfl
  | true =>
    simp only [if_true, hw, c1, c2]
    exact Ev.is rfl
theorem fund_length (l : List Int) (a b : Int) : (fundOf l a b).1.length ≤ 4 := by
  unfold fundOf
  cases hs : huSol l a b with
  | false => simp
  | true =>
    obtain ⟨hg, h⟩ := huSol_iff.1 hs
    have hl := way_length a 400000 l
    have hl2 : (wayOf l a).length = (way a 400000 l).length := rfl
    simp only [if_true]
    unfold rd_L1
    have hi : (((wayOf l a).length : Int) - 1).toNat < (wayOf l a).length := by omega
    rw [List.getD_eq_getElem?_getD, List.getElem?_eq_getElem hi]
    have := (way_steps hg 400000 l h _ _ (List.getElem?_eq_getElem hi)).1
    exact (huIs_iff.1 this).1.2
end Go.Proofs.Ytgpoljimomfbbaa.P

-- PureFnWaysOfHurwitz
namespace Go.Proofs.Ytgpoljimomfbbaa.Pure
set_option linter.unusedVariables false
set_option linter.unusedSimpArgs false
open Go.RowKit Go.Proofs.Ytgpoljimomfbbaa.P Go.Proofs.YtgpoljimomfbbaaW.PrintWords Go.Proofs.YtgpoljimomfbbaaW.PrintLast Go.Proofs.YtgpoljimomfbbaaW.PrintMore
theorem smm_sm (l : List Int) : smm l = sm l := by
  induction l with
  | nil => rfl
  | cons x l ih => simp only [smm, sm, ih]
/-- Only the last of the way is fundamental. -/
theorem way_last {a b : Int} (hg : huGv a b = true) (d : Nat) : ∀ l, huIs l a b = true → smm l ≤ d → ∀ i x, (way a d l)[i]? = some x → lastOf x a = decide (i + 1 = (way a d l).length) := by
  induction d with
  | zero =>
    intro l h hs
    obtain ⟨h1, h2, h3, h4⟩ := huIs_iff.1 h
    have := smm_bd h2
    omega
  | succ d ih =>
    intro l h hs i x hx
    rw [way] at hx ⊢
    cases hl : lastOf l a with
    | true =>
      rw [hl] at hx
      simp only [if_true] at hx ⊢
      cases i with
      | zero =>
        obtain rfl : l = x := by simpa using hx
        rw [hl]
        rfl
      | succ i => simp at hx
    | false =>
      rw [hl] at hx
      simp only [Bool.false_eq_true, if_false] at hx ⊢
      obtain ⟨s1, s2, s3⟩ := step_down hg h hl
      have hwl := way_length a d (jmp l a 0)
      cases i with
      | zero =>
        obtain rfl : l = x := by simpa using hx
        rw [hl, decide_eq_false (by rw [List.length_cons]; omega)]
      | succ i =>
        rw [List.getElem?_cons_succ] at hx
        rw [ih (jmp l a 0) s3 (by omega) i x hx, List.length_cons]
        exact decide_eq_decide.2 (by omega)
theorem rdL1_of {W : List (List Int)} {i : Nat} (hi : i < W.length) : W[i]? = some (rd_L1 W (i : Int)) := by
  unfold rd_L1
  rw [Int.toNat_natCast, List.getD_eq_getElem?_getD, List.getElem?_eq_getElem hi]
  rfl
theorem ways_loop {l : List Int} {a b : Int} (hg : huGv a b = true) (h : huIs l a b = true) (root word : List Int) (hend : Ev (fun k => if (word.length : Int) > 40 then some true else ((impl_ClimbHurwitz.f k root a b word).bind fun bt683 => (if bt683.2 = true then ((laws_vSame.f k bt683.1 l).bind fun t687 => (some t687)) else (some false)))) true) (d : Nat) :
    ∀ i : Nat, i + d = (wayOf l a).length → Ev (fun k => laws_FnWaysOfHurwitz.l0 k l a b (wayOf l a) root word (wayOf l a) ((wayOf l a).length : Int) (i : Int)) true := by
  have hwl := way_length a 400000 l
  have hwl2 : (wayOf l a).length = (way a 400000 l).length := rfl
  have hsb := smm_bd (huIs_iff.1 h).2.1
  have hlen4 := (huIs_iff.1 h).1
  have hwr : wrap64 (((wayOf l a).length : Int) - 1) = ((wayOf l a).length : Int) - 1 := w64 (by omega) (by omega)
  induction d with
  | zero =>
    intro i hi
    refine Ev.step (fun k => ?_) hend
    simp only [laws_FnWaysOfHurwitz.l0]
    rw [if_neg (by omega)]
  | succ d ih =>
    intro i hi
    have hil : i < (wayOf l a).length := by omega
    have hat := rdL1_of hil
    obtain ⟨hx, hnext⟩ := way_steps hg 400000 l h i _ hat
    have hlast := way_last hg 400000 l h (by omega) i _ hat
    have hF := impl_IsFundamental_ev (rd_L1 (wayOf l a) (i : Int)) a b
    have hV := vSolves_ev (rd_L1 (wayOf l a) (i : Int)) a b
    have hsol : huSol (rd_L1 (wayOf l a) (i : Int)) a b = true := huSol_iff.2 ⟨hg, hx⟩
    have hfd : isFund (rd_L1 (wayOf l a) (i : Int)) a b = (decide (i + 1 = (wayOf l a).length), true) := by
      unfold isFund
      rw [hsol, hlast]
      rfl
    rw [hfd] at hF
    rw [hsol] at hV
    have heq : (decide (i + 1 = (wayOf l a).length) != ((i : Int) == ((wayOf l a).length : Int) - 1)) = false := by
      rw [bne_eq_false_iff_eq, beq_dec]
      exact decide_eq_decide.2 (by omega)
    have hr := ih (i + 1) (by omega)
    refine Ev.step (f := fun k => (impl_IsFundamental.f k (rd_L1 (wayOf l a) (i : Int)) a b).bind fun bt677 => (if bt677.2 = true then (if (bt677.1 != ((i : Int) == ((wayOf l a).length : Int) - 1)) = true then (some false) else ((laws_vSolves.f k (rd_L1 (wayOf l a) (i : Int)) a b).bind fun t679 => (if t679 = true then (if (i : Int) > 0 then ((laws_vSum.f k (rd_L1 (wayOf l a) (i : Int))).bind fun t680 => (if 0 ≤ (wrap64 ((i : Int) - 1)) then (if (wrap64 ((i : Int) - 1)) < ((wayOf l a).length : Int) then ((laws_vSum.f k (rd_L1 (wayOf l a) (wrap64 ((i : Int) - 1)))).bind fun t682 => (if t680 ≥ t682 then (some false) else (laws_FnWaysOfHurwitz.l0 k l a b (wayOf l a) root word (wayOf l a) ((wayOf l a).length : Int) ((i + 1 : Nat) : Int)))) else (none)) else (none))) else (laws_FnWaysOfHurwitz.l0 k l a b (wayOf l a) root word (wayOf l a) ((wayOf l a).length : Int) ((i + 1 : Nat) : Int))) else (some false)))) else (some false))) (fun k => ?_) (Ev.bind hF ?_)
    · simp only [laws_FnWaysOfHurwitz.l0, hwr]
      rw [if_pos (by omega), if_pos (by omega), if_pos (by omega), w64_succ hil (by omega)]
    · simp only [if_true, heq, Bool.false_eq_true, if_false]
      refine Ev.bind hV ?_
      simp only [if_true]
      have hbd := (huIs_iff.1 hx).2.1
      have hn4 := (huIs_iff.1 hx).1
      cases i with
      | zero =>
        have hc : ¬ (((0 : Nat) : Int) > 0) := by omega
        simp only [hc, if_false]
        exact hr
      | succ i =>
        have hc : (((i + 1 : Nat) : Int) > 0) := by omega
        have hw1 : wrap64 (((i + 1 : Nat) : Int) - 1) = (i : Int) := by rw [w64 (by omega) (by omega)]; omega
        have hi2 : i < (wayOf l a).length := by omega
        have hat2 := rdL1_of hi2
        obtain ⟨hy, hyn⟩ := way_steps hg 400000 l h i _ hat2
        have hlast2 := way_last hg 400000 l h (by omega) i _ hat2
        rw [decide_eq_false (show ¬ i + 1 = (way a 400000 l).length by omega)] at hlast2
        have hsd := step_down hg hy hlast2
        have hxe := (hyn _ hat).2
        have hbd2 := (huIs_iff.1 hy).2.1
        have hn42 := (huIs_iff.1 hy).1
        have hc1 : (0 : Int) ≤ (i : Int) := by omega
        have hc2 : (i : Int) < ((wayOf l a).length : Int) := by omega
        simp only [hc, if_true]
        refine Ev.bind (vSum_ev _ hbd (by omega)) ?_
        simp only [hw1, hc1, hc2, if_true]
        refine Ev.bind (vSum_ev _ hbd2 (by omega)) ?_
        have hlt : ¬ (sm (rd_L1 (wayOf l a) ((i + 1 : Nat) : Int)) ≥ sm (rd_L1 (wayOf l a) (i : Int))) := by
          rw [← smm_sm, ← smm_sm, hxe]
          have := hsd.2.1
          omega
        simp only [hlt, if_false]
        exact hr
theorem wayAll_small (l : List Int) (a b : Int) : (wayAll l a b).1.length ≤ 1000000000 ∧ ∀ x ∈ (wayAll l a b).1, x.length ≤ 1000000 := by
  unfold wayAll
  cases hs : huSol l a b with
  | false => simp
  | true =>
    obtain ⟨hg, h⟩ := huSol_iff.1 hs
    have hl := way_length a 400000 l
    have hl2 : (wayOf l a).length = (way a 400000 l).length := rfl
    simp only [if_true]
    refine ⟨by omega, fun x hx => ?_⟩
    obtain ⟨i, hi, rfl⟩ := List.getElem_of_mem hx
    have := (huIs_iff.1 (way_steps hg 400000 l h i _ (List.getElem?_eq_getElem hi)).1).1.2
    omega
theorem FnWaysOfHurwitz : laws_FnWaysOfHurwitz.Pure := by
  intro l0 l1 _ _ hb _ _ _
  refine Ev.rounds ?_
  unfold laws_FnWaysOfHurwitz.f
  cases hbig : laws_big.f l0 l1 with
  | none => exact absurd hbig (by unfold laws_big.f; split <;> simp)
  | some t =>
    cases t with
    | true =>
      simp only [Option.bind_some, if_true]
      exact Ev.is rfl
    | false =>
      simp only [Option.bind_some, Bool.false_eq_true, if_false]
      have hc := bytes_of_u8 hb
      obtain ⟨l, a, b, at1, s1, e1, hl, ha1, ha2⟩ := hurwitz_ok l0 hc 0 0 (by decide) (by decide)
      have hl2 := hl.2
      have hD : Ev (fun k => spec_DrawWayDown.f k l0) (l, a, b) := by
        unfold spec_DrawWayDown.f spec_DrawIsHurwitz.f
        exact Ev.bind (a := (l, a, b)) (Ev.bind e1 (Ev.is rfl)) (Ev.is rfl)
      clear e1
      obtain ⟨r, hr2, hr1, hrs, hr3, hr4⟩ := word_both l a b (by omega)
      have hws := wayAll_small l a b
      have hfl := fund_length l a b
      refine Ev.bind hD (Ev.bind (WayDown_ev l a b) (Ev.bind (spec_WayDown_ev l a b (by omega)) (Ev.bind (FundamentalOf_ev l a b) (Ev.bind hr4 (Ev.bind hr3 (Ev.bind (impl_IsFundamental_ev l a b) ?_))))))
      simp only [bne_self_eq_false, Bool.false_eq_true, if_false]
      refine Ev.bind (vSameLists_ev _ hws.1 hws.2) ?_
      have hf2 : (fundOf l a b).2 = (wayAll l a b).2 := by unfold fundOf wayAll; cases huSol l a b <;> rfl
      have hi2 : (isFund l a b).2 = (wayAll l a b).2 := by unfold isFund wayAll; cases huSol l a b <;> rfl
      have hw2 : (wayAll l a b).2 = huSol l a b := by unfold wayAll; cases huSol l a b <;> rfl
      simp only [hf2, hi2, bne_self_eq_false, Bool.false_eq_true, if_true, if_false]
      refine Ev.bind (vSame_ev r.1 (by omega)) ?_
      simp only [if_true]
      refine Ev.bind (vSolves_ev l a b) ?_
      rw [hw2, bne_self_eq_false]
      cases hs : huSol l a b with
      | false =>
        refine Ev.step (f := fun _ => some true) (fun k => ?_) (Ev.is rfl)
        simp only [laws_FnWaysOfHurwitz.j0, Bool.false_eq_true, if_false]
      | true =>
        obtain ⟨hg, h⟩ := huSol_iff.1 hs
        obtain ⟨hwl3, hwi, hwc⟩ := hrs hs
        have hwl := way_length a 400000 l
        have hwl2 : (wayOf l a).length = (way a 400000 l).length := rfl
        have hsb := smm_bd (huIs_iff.1 h).2.1
        have hlen4 := (huIs_iff.1 h).1
        have hway : (wayAll l a b).1 = wayOf l a := by unfold wayAll; rw [hs]; rfl
        have hfund : (fundOf l a b).1 = rd_L1 (wayOf l a) (((wayOf l a).length : Int) - 1) := by unfold fundOf; rw [hs]; rfl
        have hisf : (isFund l a b).1 = lastOf l a := by unfold isFund; rw [hs]; rfl
        rw [hway, hfund, hisf]
        have hwr : wrap64 (((wayOf l a).length : Int) - 1) = ((wayOf l a).length : Int) - 1 := w64 (by omega) (by omega)
        have h0 : rd_L1 (wayOf l a) 0 = l := by
          have := way_head a 400000 l
          unfold rd_L1
          rw [List.getD_eq_getElem?_getD, show (wayOf l a)[(0 : Int).toNat]? = some l from this]
          rfl
        obtain ⟨m, hm⟩ : ∃ m : Nat, (wayOf l a).length = m + 1 := ⟨(wayOf l a).length - 1, by omega⟩
        have hlm : ((wayOf l a).length : Int) - 1 = (m : Int) := by omega
        have hat := rdL1_of (W := wayOf l a) (i := m) (by omega)
        have hroot := (way_steps hg 400000 l h m _ hat).1
        have hrlen := way_len hg h m _ hat
        have hwr2 : wrap64 (((wayOf l a).length : Int) - 1) = (m : Int) := hwr.trans hlm
        rw [hlm] at hwc ⊢
        have hlast0 := way_last hg 400000 l h (by omega) 0 l (way_head a 400000 l)
        have c1 : (0 : Int) < ((wayOf l a).length : Int) := by omega
        have c2 : (0 : Int) ≤ (m : Int) := by omega
        have c3 : (m : Int) < ((wayOf l a).length : Int) := by omega
        have hq1 : (lastOf l a != (((wayOf l a).length : Int) == 1)) = false := by
          rw [bne_eq_false_iff_eq, hlast0, beq_dec]
          exact decide_eq_decide.2 (by omega)
        have hq2 : ((r.1.length : Int) != (m : Int)) = false := by rw [bne_eq_false_iff_eq]; omega
        refine Ev.step (f := fun k => (laws_vSame.f k l l).bind fun t673 => (if t673 = true then ((laws_vSame.f k (rd_L1 (wayOf l a) (m : Int)) (rd_L1 (wayOf l a) (m : Int))).bind fun t675 => (if t675 = true then (laws_FnWaysOfHurwitz.j1 k l a b (wayOf l a) (rd_L1 (wayOf l a) (m : Int)) r.1 false) else (laws_FnWaysOfHurwitz.j1 k l a b (wayOf l a) (rd_L1 (wayOf l a) (m : Int)) r.1 true))) else (laws_FnWaysOfHurwitz.j1 k l a b (wayOf l a) (rd_L1 (wayOf l a) (m : Int)) r.1 true))) (fun k => ?_) ?_
        · simp only [laws_FnWaysOfHurwitz.j0, Bool.false_eq_true, if_false, if_true, c1, c2, c3, hwr2, h0, hq1, hq2]
        · refine Ev.bind (vSame_ev l (by omega)) ?_
          simp only [if_true]
          refine Ev.bind (vSame_ev _ (by have := (huIs_iff.1 hroot).1; omega)) ?_
          simp only [if_true]
          refine Ev.step (f := fun k => laws_FnWaysOfHurwitz.l0 k l a b (wayOf l a) (rd_L1 (wayOf l a) (m : Int)) r.1 (wayOf l a) ((wayOf l a).length : Int) ((0 : Nat) : Int)) (fun k => by simp only [laws_FnWaysOfHurwitz.j1, Bool.false_eq_true, if_false]; rfl) ?_
          refine ways_loop hg h _ _ ?_ (wayOf l a).length 0 (by omega)
          by_cases h40 : (r.1.length : Int) > 40
          · simp only [h40, if_true]
            exact Ev.is rfl
          · simp only [h40, if_false]
            have hcl := (climb_both (rd_L1 (wayOf l a) (m : Int)) a b r.1 (by have := (huIs_iff.1 hroot).1; omega) (by omega)).1
            have hco : climbOf (rd_L1 (wayOf l a) (m : Int)) a b r.1 = (l, true) := by
              unfold climbOf
              rw [huSol_iff.2 ⟨hg, hroot⟩, decide_eq_true (show r.1.length ≤ 40 by omega), all_iff.2 (fun x hx => by rw [hrlen]; exact hwi x hx)]
              exact hwc
            rw [hco] at hcl
            refine Ev.bind hcl ?_
            simp only [if_true]
            exact Ev.bind (vSame_ev l (by omega)) (Ev.is rfl)
end Go.Proofs.Ytgpoljimomfbbaa.Pure
