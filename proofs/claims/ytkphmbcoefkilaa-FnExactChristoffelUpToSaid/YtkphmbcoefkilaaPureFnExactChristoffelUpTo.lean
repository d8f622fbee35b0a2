/- ChristoffelUpTo answers what the reference answers, for every number; what it hands back is its own. No condition. -/
import Derived.Test.YtkphmbcoefkilaaPFFnExactChristoffelUpTo
import Derived.Test.YtkphmbcoefkilaaUturns
import Derived.Test.YtkphmbcoefkilaaUChristoffelOf
import Derived.Test.YtkphmbcoefkilaaUmarkStringS
namespace Go.Proofs.Ytkphmbcoefkilaa.Pure
set_option linter.unusedVariables false
set_option linter.unusedSimpArgs false
open Go.RowKit Go.Proofs.Ytkphmbcoefkilaa.P Go.Proofs.YtkphmbcoefkilaaW.PrintWords Go.Proofs.YtkphmbcoefkilaaW.PrintLast
/-- The words with n letters that have b letters b, b from j on, so many. -/
def chRow (n : Nat) : Nat → Nat → List ByteArray
  | _, 0 => []
  | j, d + 1 => (if (Int.gcd ((n : Int) - (j : Int)) (j : Int) : Int) = 1 then [chText ((n : Int) - (j : Int)) (j : Int)] else []) ++ chRow n (j + 1) d
def chAll : Nat → Nat → List ByteArray
  | _, 0 => []
  | i, d + 1 => chRow i 0 (i + 1) ++ chAll (i + 1) d
theorem chRow_length (n d : Nat) : ∀ j, (chRow n j d).length ≤ d := by
  induction d with
  | zero => intro j; simp [chRow]
  | succ d ih =>
    intro j
    rw [chRow, List.length_append]
    have := ih (j + 1)
    split <;> simp <;> omega
theorem chAll_length (d : Nat) : ∀ i, i + d ≤ 13 → (chAll i d).length ≤ 13 * d := by
  induction d with
  | zero => intro i _; simp [chAll]
  | succ d ih =>
    intro i hi
    rw [chAll, List.length_append]
    have h1 := ih (i + 1) (by omega)
    have h2 := chRow_length i (i + 1) 0
    omega
theorem rows_sorted : ∀ n, n < 13 → ((chRow n 0 (n + 1)).map bytesList).Pairwise (· ≤ ·) := by decide +kernel
theorem row_sort (n : Nat) (h : n < 13) : slices_Sort_string_string.f (chRow n 0 (n + 1)) = some (chRow n 0 (n + 1)) := by
  have hl := chRow_length n (n + 1) 0
  unfold slices_Sort_string_string.f sortStrings
  rw [if_pos (by omega), List.mergeSort_of_pairwise ((rows_sorted n h).imp (by intro a b hab; simpa using hab)), List.map_map]
  have hid : ofBytes ∘ bytesList = id := by
    funext x
    exact of_bytes x
  rw [hid, List.map_id]
theorem spec_row (m n : Nat) (hn : 1 ≤ n ∧ n ≤ 12) (r : List ByteArray × Bool) (d : Nat) : ∀ (j : Nat) (o : List ByteArray), j + d = n + 1 → o.length + d ≤ 1000 → Ev (fun k => spec_ChristoffelUpTo.l0 k (m : Int) (o ++ chRow n j d) ((n + 1 : Nat) : Int)) r → Ev (fun k => spec_ChristoffelUpTo.l1 k (m : Int) o (n : Int) (j : Int)) r := by
  induction d with
  | zero =>
    intro j o hj ho hE
    rw [chRow, List.append_nil] at hE
    refine Ev.step (fun k => ?_) hE
    simp only [spec_ChristoffelUpTo.l1]
    rw [if_neg (by omega), w64 (x := (n : Int) + 1) (by omega) (by omega)]
    rfl
  | succ d ih =>
    intro j o hj ho hE
    have w1 : wrap64 ((n : Int) - (j : Int)) = (n : Int) - (j : Int) := w64 (by omega) (by omega)
    have w2 : wrap64 ((j : Int) + 1) = ((j + 1 : Nat) : Int) := by rw [w64 (by omega) (by omega)]; omega
    have hg := foGcd_ev ((n : Int) - (j : Int)) (j : Int) (by omega) (by omega) (by omega) (by omega)
    rw [chRow] at hE
    by_cases h1 : (Int.gcd ((n : Int) - (j : Int)) (j : Int) : Int) = 1
    · rw [if_pos h1, ← List.append_assoc] at hE
      have hc := (chText_both ((n : Int) - (j : Int)) (j : Int) (by omega) (by omega) (by omega)).1
      have hr := ih (j + 1) (o ++ [chText ((n : Int) - (j : Int)) (j : Int)]) (by omega) (by rw [List.length_append, List.length_singleton]; omega) hE
      refine Ev.step (f := fun k => (spec_foGcd.f k ((n : Int) - (j : Int)) (j : Int)).bind fun t => if t = 1 then ((spec_chWord.f k ((n : Int) - (j : Int)) (j : Int)).bind fun t2 => spec_ChristoffelUpTo.l1 k (m : Int) (o ++ [t2]) (n : Int) ((j + 1 : Nat) : Int)) else spec_ChristoffelUpTo.l1 k (m : Int) o (n : Int) ((j + 1 : Nat) : Int)) (fun k => ?_) (Ev.bind hg ?_)
      · simp only [spec_ChristoffelUpTo.l1]
        rw [if_pos (by omega), w1, w2]
        congr 1
        funext t
        have : o.length < 8796093022208 := by omega
        simp only [this, if_true]
      · simp only [h1, if_true]
        exact Ev.bind hc hr
    · rw [if_neg h1, List.nil_append] at hE
      have hr := ih (j + 1) o (by omega) (by omega) hE
      refine Ev.step (f := fun k => (spec_foGcd.f k ((n : Int) - (j : Int)) (j : Int)).bind fun t => if t = 1 then ((spec_chWord.f k ((n : Int) - (j : Int)) (j : Int)).bind fun t2 => spec_ChristoffelUpTo.l1 k (m : Int) (o ++ [t2]) (n : Int) ((j + 1 : Nat) : Int)) else spec_ChristoffelUpTo.l1 k (m : Int) o (n : Int) ((j + 1 : Nat) : Int)) (fun k => ?_) (Ev.bind hg ?_)
      · simp only [spec_ChristoffelUpTo.l1]
        rw [if_pos (by omega), w1, w2]
        congr 1
        funext t
        have : o.length < 8796093022208 := by omega
        simp only [this, if_true]
      · simp only [h1, if_false]
        exact hr
theorem spec_upto (m : Nat) (hm : m ≤ 12) (d : Nat) : ∀ (i : Nat) (o : List ByteArray), 1 ≤ i → i + d = m + 1 → o.length + 13 * d ≤ 200 → Ev (fun k => spec_ChristoffelUpTo.l0 k (m : Int) o (i : Int)) (o ++ chAll i d, true) := by
  induction d with
  | zero =>
    intro i o hi1 hi ho
    rw [chAll, List.append_nil]
    refine Ev.step (f := fun _ => some (o, true)) (fun k => ?_) (Ev.is rfl)
    simp only [spec_ChristoffelUpTo.l0]
    rw [if_neg (by omega)]
  | succ d ih =>
    intro i o hi1 hi ho
    have hl := chRow_length i (i + 1) 0
    have hr := ih (i + 1) (o ++ chRow i 0 (i + 1)) (by omega) (by omega) (by rw [List.length_append]; omega)
    rw [List.append_assoc] at hr
    refine Ev.step (f := fun k => spec_ChristoffelUpTo.l1 k (m : Int) o (i : Int) ((0 : Nat) : Int)) (fun k => ?_) (spec_row m i (by omega) _ (i + 1) 0 o (by omega) (by omega) hr)
    simp only [spec_ChristoffelUpTo.l0]
    rw [if_pos (by omega)]
    rfl
theorem impl_row (m n : Nat) (hn : 1 ≤ n ∧ n ≤ 12) (x : List ByteArray) (hx : x.length ≤ 1000) (r : List ByteArray × Bool) (hE : Ev (fun k => impl_ChristoffelUpTo.l0 k (m : Int) (x ++ chRow n 0 (n + 1)) ((n + 1 : Nat) : Int)) r) (d : Nat) : ∀ (j : Nat) (o : List ByteArray), j + d = n + 1 → o.length + d ≤ 1000 → o ++ chRow n j d = chRow n 0 (n + 1) → Ev (fun k => impl_ChristoffelUpTo.l1 k (m : Int) x (n : Int) o ((n : Int) + 1) (j : Int)) r := by
  have hl := chRow_length n (n + 1) 0
  induction d with
  | zero =>
    intro j o hj ho he
    rw [chRow, List.append_nil] at he
    refine Ev.step (fun k => ?_) hE
    simp only [impl_ChristoffelUpTo.l1]
    rw [if_neg (by omega), he, row_sort n (by omega)]
    simp only [Option.bind_some]
    rw [if_pos (by omega), w64 (x := (n : Int) + 1) (by omega) (by omega)]
    rfl
  | succ d ih =>
    intro j o hj ho he
    have w1 : wrap64 ((n : Int) - (j : Int)) = (n : Int) - (j : Int) := w64 (by omega) (by omega)
    have w2 : wrap64 ((j : Int) + 1) = ((j + 1 : Nat) : Int) := by rw [w64 (by omega) (by omega)]; omega
    have hg := divisor_ev ((n : Int) - (j : Int)) (j : Int) (by omega) (by omega) (by omega) (by omega)
    rw [chRow] at he
    by_cases h1 : (Int.gcd ((n : Int) - (j : Int)) (j : Int) : Int) = 1
    · rw [if_pos h1, ← List.append_assoc] at he
      have hc := (chText_both ((n : Int) - (j : Int)) (j : Int) (by omega) (by omega) (by omega)).2
      have hr := ih (j + 1) (o ++ [chText ((n : Int) - (j : Int)) (j : Int)]) (by omega) (by rw [List.length_append, List.length_singleton]; omega) he
      refine Ev.step (f := fun k => (impl_divisor.f k ((n : Int) - (j : Int)) (j : Int)).bind fun t => if t = 1 then ((impl_christoffel.f k ((n : Int) - (j : Int)) (j : Int)).bind fun t2 => impl_ChristoffelUpTo.l1 k (m : Int) x (n : Int) (o ++ [t2]) ((n : Int) + 1) ((j + 1 : Nat) : Int)) else impl_ChristoffelUpTo.l1 k (m : Int) x (n : Int) o ((n : Int) + 1) ((j + 1 : Nat) : Int)) (fun k => ?_) (Ev.bind hg ?_)
      · simp only [impl_ChristoffelUpTo.l1]
        rw [if_pos (by omega), w1, w2]
        congr 1
        funext t
        have : o.length < 8796093022208 := by omega
        simp only [this, if_true]
      · simp only [h1, if_true]
        exact Ev.bind hc hr
    · rw [if_neg h1, List.nil_append] at he
      have hr := ih (j + 1) o (by omega) (by omega) he
      refine Ev.step (f := fun k => (impl_divisor.f k ((n : Int) - (j : Int)) (j : Int)).bind fun t => if t = 1 then ((impl_christoffel.f k ((n : Int) - (j : Int)) (j : Int)).bind fun t2 => impl_ChristoffelUpTo.l1 k (m : Int) x (n : Int) (o ++ [t2]) ((n : Int) + 1) ((j + 1 : Nat) : Int)) else impl_ChristoffelUpTo.l1 k (m : Int) x (n : Int) o ((n : Int) + 1) ((j + 1 : Nat) : Int)) (fun k => ?_) (Ev.bind hg ?_)
      · simp only [impl_ChristoffelUpTo.l1]
        rw [if_pos (by omega), w1, w2]
        congr 1
        funext t
        have : o.length < 8796093022208 := by omega
        simp only [this, if_true]
      · simp only [h1, if_false]
        exact hr
theorem impl_upto (m : Nat) (hm : m ≤ 12) (d : Nat) : ∀ (i : Nat) (o : List ByteArray), 1 ≤ i → i + d = m + 1 → o.length + 13 * d ≤ 200 → Ev (fun k => impl_ChristoffelUpTo.l0 k (m : Int) o (i : Int)) (o ++ chAll i d, true) := by
  induction d with
  | zero =>
    intro i o hi1 hi ho
    rw [chAll, List.append_nil]
    refine Ev.step (f := fun _ => some (o, true)) (fun k => ?_) (Ev.is rfl)
    simp only [impl_ChristoffelUpTo.l0]
    rw [if_neg (by omega)]
  | succ d ih =>
    intro i o hi1 hi ho
    have hl := chRow_length i (i + 1) 0
    have hr := ih (i + 1) (o ++ chRow i 0 (i + 1)) (by omega) (by omega) (by rw [List.length_append]; omega)
    rw [List.append_assoc] at hr
    refine Ev.step (f := fun k => impl_ChristoffelUpTo.l1 k (m : Int) o (i : Int) [] ((i : Int) + 1) ((0 : Nat) : Int)) (fun k => ?_) (impl_row m i (by omega) o (by omega) _ hr (i + 1) 0 [] (by omega) (by simp; omega) (List.nil_append _))
    simp only [impl_ChristoffelUpTo.l0]
    rw [if_pos (by omega), w64 (x := (i : Int) + 1) (by omega) (by omega)]
    rfl
def chUpTo (n : Int) : List ByteArray × Bool := if 1 ≤ n ∧ n ≤ 12 then (chAll 1 n.toNat, true) else ([], false)
theorem upto_both (n : Int) : Ev (fun k => spec_ChristoffelUpTo.f k n) (chUpTo n) ∧ Ev (fun k => impl_ChristoffelUpTo.f k n) (chUpTo n) := by
  unfold spec_ChristoffelUpTo.f impl_ChristoffelUpTo.f chUpTo
  rw [in_is, within_is]
  by_cases h : 1 ≤ n ∧ n ≤ 12
  · simp only [h, and_self, decide_true, Option.bind_some, if_true]
    obtain ⟨m, rfl⟩ : ∃ m : Nat, n = (m : Int) := ⟨n.toNat, by omega⟩
    rw [Int.toNat_natCast]
    have h1 := spec_upto m (by omega) m 1 [] (by omega) (by omega) (by simp; omega)
    have h2 := impl_upto m (by omega) m 1 [] (by omega) (by omega) (by simp; omega)
    exact ⟨h1, h2⟩
  · have hd : decide (1 ≤ n ∧ n ≤ 12) = false := decide_eq_false h
    rw [hd, if_neg h]
    simp only [Option.bind_some, Bool.false_eq_true, if_false]
    exact ⟨Ev.is rfl, Ev.is rfl⟩
theorem chUpTo_length (n : Int) : (chUpTo n).1.length ≤ 1000 := by
  unfold chUpTo
  split
  · have := chAll_length n.toNat 1 (by omega)
    show (chAll 1 n.toNat).length ≤ 1000
    omega
  · simp
theorem FnExactChristoffelUpTo : laws_FnExactChristoffelUpTo.Pure := by
  intro n _
  refine Ev.rounds ?_
  unfold laws_FnExactChristoffelUpTo.f
  obtain ⟨e1, e2⟩ := upto_both n
  have hr := chUpTo_length n
  generalize chUpTo n = r at e1 e2 hr
  refine Ev.bind e1 (Ev.bind e2 (Ev.bind (eqStringS_ev r.1 (by omega)) ?_))
  simp only [if_true, bne_self_eq_false]
  refine Ev.step (fun k => by simp only [laws_FnExactChristoffelUpTo.j0, Bool.false_eq_true, if_false]; rfl) ?_
  refine heldS_then r.1 false true _ (by omega) ?_
  refine Ev.bind e2 (Ev.bind (eqStringS_ev r.1 (by omega)) ?_)
  simp only [if_true, bne_self_eq_false]
  refine Ev.step (fun k => by simp only [laws_FnExactChristoffelUpTo.j1, Bool.false_eq_true, if_false]; rfl) ?_
  exact heldS_last r.1.length (by omega)
end Go.Proofs.Ytkphmbcoefkilaa.Pure
