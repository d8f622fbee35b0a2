/- All solutions up to a bound are told in order, and each comes down to a fundamental one that is told, too. No condition. -/
import Derived.Test.YtgpoljimomfbbaaPackFnAllHurwitz6
import Derived.Deep.MidRow
import Derived.KernelRfl
-- UhuRoot
namespace Go.Proofs.Ytgpoljimomfbbaa.P
set_option linter.unusedVariables false
set_option linter.unusedSimpArgs false
open Go.RowKit Go.Proofs.YtgpoljimomfbbaaW.PrintWords Go.Proofs.YtgpoljimomfbbaaW.PrintLast Go.Proofs.YtgpoljimomfbbaaW.PrintMore
theorem last_cons (x : List Int) (W : List (List Int)) (h : 1 ≤ W.length) : rd_L1 (x :: W) (((x :: W).length : Int) - 1) = rd_L1 W ((W.length : Int) - 1) := by
  unfold rd_L1
  have e1 : (((x :: W).length : Int) - 1).toNat = (((W.length : Int) - 1).toNat) + 1 := by rw [List.length_cons]; omega
  rw [e1, List.getD_cons_succ]
theorem rd_first {l : List Int} (h : falls l = true) : ∀ x ∈ l, x ≤ rd l 0 := by
  intro x hx
  have hp := (falls_iff l).1 h
  cases l with
  | nil => simp at hx
  | cons y l =>
    rw [List.pairwise_cons] at hp
    have e : rd (y :: l) 0 = y := rfl
    rw [e]
    rcases List.mem_cons.1 hx with rfl | hx
    · exact Int.le_refl _
    · exact hp.1 x hx
end Go.Proofs.Ytgpoljimomfbbaa.P

-- UhuAll
namespace Go.Proofs.Ytgpoljimomfbbaa.P
open Go.RowKit Go.Proofs.YtgpoljimomfbbaaW.PrintWords Go.Proofs.YtgpoljimomfbbaaW.PrintLast
set_option linter.unusedVariables false
set_option linter.unusedSimpArgs false
def allL (f : Int → List (List Int)) : Nat → Int → List (List Int)
  | 0, _ => []
  | j + 1, n => f n ++ allL f j (n + 1)
def allS (a b : Int) : Nat → List Int → Int → List (List Int)
  | 0, x, _ => if huIs x a b = true then [x] else []
  | p + 1, x, m => allL (fun n => allS a b p (x ++ [n]) n) m.toNat 1
theorem allL_len (f : Int → List (List Int)) (B : Nat) (m : Int) (h : ∀ n, n ≤ m → (f n).length ≤ B) : ∀ (j : Nat) (n : Int), n + j ≤ m + 1 → (allL f j n).length ≤ j * B
  | 0, n, _ => by simp [allL]
  | j + 1, n, hn => by
    have h1 := h n (by omega)
    have h2 := allL_len f B m h j (n + 1) (by omega)
    rw [allL, List.length_append, Nat.succ_mul]
    omega
theorem allS_len (a b : Int) (p : Nat) : ∀ (x : List Int) (m : Int), m ≤ 40 → (allS a b p x m).length ≤ 40 ^ p := by
  induction p with
  | zero =>
    intro x m _
    unfold allS
    split <;> simp
  | succ p ih =>
    intro x m hm
    unfold allS
    by_cases h0 : m ≤ 0
    · rw [show m.toNat = 0 from by omega]
      simp [allL]
    · have h1 := allL_len (fun n => allS a b p (x ++ [n]) n) (40 ^ p) m (fun n hn => ih (x ++ [n]) n (by omega)) m.toNat 1 (by omega)
      refine Nat.le_trans h1 ?_
      rw [Nat.pow_succ, Nat.mul_comm (40 ^ p) 40]
      exact Nat.mul_le_mul_right _ (by omega)
theorem sol_step {a b : Int} (hg : huGv a b = true) (out : List (List Int)) (x : List Int) (hx : x.length ≤ 1000) (ho : out.length < 1000000000) : Ev (fun k => solStep k a b out x) (out ++ (if huIs x a b = true then [x] else [])) := by
  unfold solStep
  refine Ev.bind (isHurwitz_ev x a b hg) ?_
  cases h : huIs x a b with
  | false =>
    simp only [Bool.false_eq_true, if_false, List.append_nil]
    exact Ev.is rfl
  | true =>
    have e1 : slices_Clone_int_int.f x = some x := by
      unfold slices_Clone_int_int.f
      rw [if_pos (by omega)]
    simp only [if_true, e1, Option.bind_some, ho]
    exact Ev.is rfl
theorem fall_ev {a b : Int} (hg : huGv a b = true) (p : Nat) : ∀ (x : List Int) (m : Int) (out : List (List Int)), m ≤ 40 → x.length + p ≤ 1000 → out.length + 40 ^ p < 1000000000 → Ev (fun k => fallS (solStep k a b) p x m out) (out ++ allS a b p x m) := by
  induction p with
  | zero =>
    intro x m out _ hx ho
    exact sol_step hg out x (by omega) (by omega)
  | succ p ih =>
    intro x m out hm hx ho
    show Ev (fun k => fallL (fun s n => fallS (solStep k a b) p (x ++ [n]) n s) m.toNat 1 out) (out ++ allL (fun n => allS a b p (x ++ [n]) n) m.toNat 1)
    have key : ∀ (j : Nat) (n : Int) (o : List (List Int)), n + j ≤ 41 → o.length + j * 40 ^ p < 1000000000 → Ev (fun k => fallL (fun s n => fallS (solStep k a b) p (x ++ [n]) n s) j n o) (o ++ allL (fun n => allS a b p (x ++ [n]) n) j n) := by
      intro j
      induction j with
      | zero =>
        intro n o _ _
        simp only [allL, List.append_nil]
        exact Ev.is rfl
      | succ j ihj =>
        intro n o hn ho2
        rw [Nat.succ_mul] at ho2
        have h1 := ih (x ++ [n]) n o (by omega) (by rw [List.length_append, List.length_singleton]; omega) (by omega)
        have hl := allS_len a b p (x ++ [n]) n (by omega)
        have h2 := ihj (n + 1) (o ++ allS a b p (x ++ [n]) n) (by omega) (by rw [List.length_append]; omega)
        rw [allL, ← List.append_assoc]
        exact Ev.bind h1 h2
    by_cases h0 : m ≤ 0
    · rw [show m.toNat = 0 from by omega]
      exact key 0 1 out (by omega) (by have := Nat.one_le_pow p 40 (by decide); omega)
    · refine key m.toNat 1 out (by omega) ?_
      have h3 : m.toNat * 40 ^ p ≤ 40 ^ (p + 1) := by
        rw [Nat.pow_succ, Nat.mul_comm (40 ^ p) 40]
        exact Nat.mul_le_mul_right _ (by omega)
      omega
theorem huAll_ev {a b : Int} (hg : huGv a b = true) (p : Nat) : ∀ (x : List Int) (m : Int), m ≤ 40 → x.length + p ≤ 1000 → p ≤ 4 → Ev (fun k => spec_huAll.f k x (p : Int) a b m) (allS a b p x m) := by
  induction p with
  | zero =>
    intro x m _ hx _
    refine Ev.step (f := fun k => (spec_huGood.f k x a b).bind fun t214 => (if t214 = true then ((spec_l1Own.f x).bind fun t215 => (some (([t215] : List (List Int))))) else (some ([] : List (List Int))))) (fun k => by simp only [spec_huAll.f]; rw [if_pos (by rfl)]) ?_
    refine Ev.bind (huGood_ev x a b hg (by omega)) ?_
    unfold allS
    cases h : huIs x a b with
    | false =>
      simp only [Bool.false_eq_true, if_false]
      exact Ev.is rfl
    | true =>
      simp only [if_true, own_is x (by omega), Option.bind_some]
      exact Ev.is rfl
  | succ p ih =>
    intro x m hm hx hp
    have c0 : ¬ ((p + 1 : Nat) : Int) = 0 := by omega
    have wp : wrap64 (((p + 1 : Nat) : Int) - 1) = (p : Int) := by unfold wrap64; omega
    have hpow : 40 ^ p ≤ 2560000 := by
      have : 40 ^ p ≤ 40 ^ 4 := Nat.pow_le_pow_right (by decide) (by omega)
      simpa using this
    have key : ∀ (j : Nat) (n : Int) (o : List (List Int)), 1 ≤ n → n + j = m + 1 ∨ (j = 0 ∧ m < n) → n + j ≤ 41 → o.length + j * 40 ^ p < 1000000000 → Ev (fun k => spec_huAll.l0 k x ((p + 1 : Nat) : Int) a b m o n) (o ++ allL (fun n => allS a b p (x ++ [n]) n) j n) := by
      intro j
      induction j with
      | zero =>
        intro n o _ hn _ _
        have c1 : ¬ n ≤ m := by omega
        simp only [allL, List.append_nil]
        exact Ev.step (f := fun _ => some o) (fun k => by simp only [spec_huAll.l0, c1, if_false]) (Ev.is rfl)
      | succ j ihj =>
        intro n o hn1 hn hn2 ho2
        rw [Nat.succ_mul] at ho2
        have c1 : n ≤ m := by omega
        have h1 := ih (x ++ [n]) n (by omega) (by rw [List.length_append, List.length_singleton]; omega) (by omega)
        have hl := allS_len a b p (x ++ [n]) n (by omega)
        have h2 := ihj (n + 1) (o ++ allS a b p (x ++ [n]) n) (by omega) (by omega) (by omega) (by rw [List.length_append]; omega)
        have c2 : x.length < 17592186044416 := by omega
        have c3 : o.length + (allS a b p (x ++ [n]) n).length < 5864062014805 := by omega
        have w1 : wrap64 (n + 1) = n + 1 := by unfold wrap64; omega
        rw [allL, ← List.append_assoc]
        refine Ev.step (fun k => by simp only [spec_huAll.l0, c1, if_true, own_is x c2, Option.bind_some, c2, wp, w1]; rfl) (Ev.bind h1 ?_)
        simp only [c3, if_true]
        exact h2
    refine Ev.step (f := fun k => spec_huAll.l0 k x ((p + 1 : Nat) : Int) a b m [] 1) (fun k => by simp only [spec_huAll.f]; rw [if_neg c0]) ?_
    unfold allS
    by_cases h0 : m ≤ 0
    · rw [show m.toNat = 0 from by omega]
      exact key 0 1 [] (by omega) (by omega) (by omega) (by simp)
    · have h3 : m.toNat * 40 ^ p ≤ 40 * 40 ^ p := Nat.mul_le_mul_right _ (by omega)
      exact key m.toNat 1 [] (by omega) (by omega) (by omega) (by simp; omega)
/-- What is looked for. -/
def tried (a0 a1 a2 a3 : Int) : Bool := inB 3 4 a0 && huGv a1 a2 && inB 1 40 a3
def solsUp (a0 a1 a2 a3 : Int) : List (List Int) × Bool := if tried a0 a1 a2 a3 = true then (if ((allS a1 a2 a0.toNat [] a3).length : Int) > 500 then ([], false) else (allS a1 a2 a0.toNat [] a3, true)) else ([], false)
theorem parts_is {a0 a1 a2 a3 : Int} (h : tried a0 a1 a2 a3 = true) : (∃ p : Nat, a0 = (p : Int) ∧ 3 ≤ p ∧ p ≤ 4) ∧ huGv a1 a2 = true ∧ 1 ≤ a3 ∧ a3 ≤ 40 := by
  unfold tried at h
  simp only [Bool.and_eq_true, inB_iff] at h
  exact ⟨⟨a0.toNat, by omega, by omega, by omega⟩, h.1.2, h.2⟩
theorem spec_SolutionsUpTo_ev (a0 a1 a2 a3 : Int) : Ev (fun k => spec_SolutionsUpTo.f k a0 a1 a2 a3) (solsUp a0 a1 a2 a3) := by
  unfold spec_SolutionsUpTo.f solsUp
  have e : spec_huTask.f a0 a1 a2 a3 = some (tried a0 a1 a2 a3) := by
    unfold spec_huTask.f tried
    rw [l1In_inB, huGiven_is, l1In_inB]
    cases inB 3 4 a0 <;> cases huGv a1 a2 <;> rfl
  refine Ev.bind0 e ?_
  cases h : tried a0 a1 a2 a3 with
  | false =>
    simp only [Bool.false_eq_true, if_false]
    exact Ev.is rfl
  | true =>
    obtain ⟨⟨p, rfl, h1, h2⟩, hg, h3, h4⟩ := parts_is h
    simp only [if_true, Int.toNat_natCast]
    refine Ev.bind (huAll_ev hg p [] a3 h4 (by simp; omega) h2) ?_
    by_cases c : ((allS a1 a2 p [] a3).length : Int) > 500
    · simp only [c, if_true]
      exact Ev.is rfl
    · simp only [c, if_false]
      exact Ev.is rfl
theorem impl_SolutionsUpTo_ev (a0 a1 a2 a3 : Int) : Ev (fun k => impl_SolutionsUpTo.f k a0 a1 a2 a3) (solsUp a0 a1 a2 a3) := by
  unfold impl_SolutionsUpTo.f solsUp
  have e : impl_areTried.f a0 a2 a3 = some (inB 3 4 a0 && inB (-50) 50 a2 && inB 1 40 a3) := by
    unfold impl_areTried.f
    rw [within_inB, within_inB, within_inB]
    cases inB 3 4 a0 <;> cases inB (-50) 50 a2 <;> rfl
  have no : Ev (fun k => impl_SolutionsUpTo.j0 k a0 a1 a2 a3 true) (([] : List (List Int)), false) := Ev.step (f := fun _ => some (([] : List (List Int)), false)) (fun k => by simp only [impl_SolutionsUpTo.j0, if_true]) (Ev.is rfl)
  refine Ev.bind0 e ?_
  cases h : tried a0 a1 a2 a3 with
  | false =>
    simp only [Bool.false_eq_true, if_false]
    cases h2 : (inB 3 4 a0 && inB (-50) 50 a2 && inB 1 40 a3) with
    | false =>
      simp only [Bool.false_eq_true, if_false]
      exact no
    | true =>
      have hg : huGv a1 a2 = false := by
        unfold tried at h
        simp only [Bool.and_eq_true] at h2
        rw [h2.1.1, h2.2] at h
        simpa using h
      simp only [if_true]
      refine Ev.bind0 (areGiven_is a1 a2) ?_
      rw [hg]
      exact no
  | true =>
    obtain ⟨⟨p, rfl, h1, h2⟩, hg, h3, h4⟩ := parts_is h
    have hb : inB (-50) 50 a2 = true := by
      simp only [huGv, Bool.and_eq_true] at hg
      exact hg.2
    have h5 : (inB 3 4 (p : Int) && inB (-50) 50 a2 && inB 1 40 a3) = true := by
      rw [hb, inB_iff.2 ⟨by omega, by omega⟩, inB_iff.2 ⟨h3, h4⟩]
      rfl
    rw [h5]
    simp only [if_true, Int.toNat_natCast]
    refine Ev.bind0 (areGiven_is a1 a2) ?_
    rw [hg]
    have hpow : 40 ^ p < 1000000000 := by
      have : 40 ^ p ≤ 40 ^ 4 := Nat.pow_le_pow_right (by decide) (by omega)
      have e2 : 40 ^ 4 = 2560000 := by decide
      omega
    have c1 : 0 ≤ (p : Int) ∧ (p : Int) ≤ 900 ∧ a3 ≤ 1000000 := by omega
    have hf := fall_ev hg p [] a3 [] h4 (by simp; omega) (by simpa using hpow)
    refine Ev.step (fun k => by simp only [impl_SolutionsUpTo.j0, Bool.not_true, Bool.false_eq_true, if_false, impl_solutions.f, c1, and_self, if_true, Int.toNat_natCast]; rfl) (Ev.bind hf ?_)
    rw [List.nil_append]
    by_cases c : ((allS a1 a2 p [] a3).length : Int) > 500
    · simp only [c, if_true]
      exact Ev.is rfl
    · simp only [c, if_false]
      exact Ev.is rfl
theorem allL_mem (f : Int → List (List Int)) (u : List Int) : ∀ (j : Nat) (n : Int), u ∈ allL f j n → ∃ i : Int, n ≤ i ∧ i < n + j ∧ u ∈ f i
  | 0, n, h => by simp [allL] at h
  | j + 1, n, h => by
    rw [allL, List.mem_append] at h
    rcases h with h | h
    · exact ⟨n, by omega, by omega, h⟩
    · obtain ⟨i, h1, h2, h3⟩ := allL_mem f u j (n + 1) h
      exact ⟨i, by omega, by omega, h3⟩
theorem allS_is (a b : Int) (p : Nat) : ∀ (x : List Int) (m : Int) (u : List Int), u ∈ allS a b p x m → huIs u a b = true ∧ u.length = x.length + p := by
  induction p with
  | zero =>
    intro x m u hu
    unfold allS at hu
    split at hu
    · rename_i h
      rw [List.mem_singleton] at hu
      subst hu
      exact ⟨h, rfl⟩
    · simp at hu
  | succ p ih =>
    intro x m u hu
    obtain ⟨i, _, _, h⟩ := allL_mem _ u _ _ hu
    have := ih (x ++ [i]) i u h
    rw [List.length_append, List.length_singleton] at this
    exact ⟨this.1, by omega⟩
theorem solsUp_is {a0 a1 a2 a3 : Int} (u : List Int) (hu : u ∈ (solsUp a0 a1 a2 a3).1) : huGv a1 a2 = true ∧ huIs u a1 a2 = true := by
  unfold solsUp at hu
  split at hu
  · rename_i h
    split at hu
    · simp at hu
    · exact ⟨(parts_is h).2.1, (allS_is _ _ _ _ _ u hu).1⟩
  · simp at hu
theorem solsUp_len (a0 a1 a2 a3 : Int) : (solsUp a0 a1 a2 a3).1.length ≤ 500 := by
  unfold solsUp
  split
  · split
    · simp
    · show (allS a1 a2 a0.toNat [] a3).length ≤ 500
      omega
  · simp
def fundsUp (a0 a1 a2 a3 : Int) : List (List Int) × Bool := if (solsUp a0 a1 a2 a3).2 = true then ((solsUp a0 a1 a2 a3).1.filter (fun u => lastOf u a1), true) else ([], false)
theorem filtL_ev {a b : Int} (hg : huGv a b = true) : ∀ (us o : List (List Int)), (∀ u ∈ us, huIs u a b = true) → o.length + us.length < 1000000000 → Ev (fun k => filtL k a o us) (o ++ us.filter (fun u => lastOf u a))
  | [], o, _, _ => by
    rw [List.filter_nil, List.append_nil]
    exact ⟨0, fun k _ => rfl⟩
  | u :: us, o, h, hl => by
    rw [List.length_cons] at hl
    have h1 := (last_both hg (h u List.mem_cons_self)).1
    refine Ev.bind h1 ?_
    cases hu : lastOf u a with
    | false =>
      rw [List.filter_cons_of_neg (by rw [hu]; simp)]
      simp only [Bool.false_eq_true, if_false]
      exact filtL_ev hg us o (fun x hx => h x (List.mem_cons_of_mem _ hx)) (by omega)
    | true =>
      have c1 : o.length < 1000000000 := by omega
      rw [List.filter_cons_of_pos (p := fun u => lastOf u a) hu]
      simp only [if_true, c1]
      have := filtL_ev hg us (o ++ [u]) (fun x hx => h x (List.mem_cons_of_mem _ hx)) (by rw [List.length_append, List.length_singleton]; omega)
      rw [List.append_assoc] at this
      exact this
theorem impl_FundamentalsUpTo_ev (a0 a1 a2 a3 : Int) : Ev (fun k => impl_FundamentalsUpTo.f k a0 a1 a2 a3) (fundsUp a0 a1 a2 a3) := by
  unfold impl_FundamentalsUpTo.f fundsUp
  refine Ev.bind (impl_SolutionsUpTo_ev a0 a1 a2 a3) ?_
  have hlen := solsUp_len a0 a1 a2 a3
  have his := fun u hu => solsUp_is (a0 := a0) (a1 := a1) (a2 := a2) (a3 := a3) u hu
  have hg : (solsUp a0 a1 a2 a3).2 = true → huGv a1 a2 = true := by
    unfold solsUp
    split
    · rename_i h
      exact fun _ => (parts_is h).2.1
    · simp
  generalize solsUp a0 a1 a2 a3 = r at *
  cases hr : r.2 with
  | false =>
    simp only [Bool.false_eq_true, if_false]
    exact Ev.is rfl
  | true =>
    have c1 : r.1.length < 1000000000 := by omega
    simp only [if_true, c1]
    have := filtL_ev (hg hr) r.1 [] (fun u hu => (his u hu).2) (by simp; omega)
    exact Ev.bind this (Ev.is rfl)
theorem spec_filt {a b : Int} (hg : huGv a b = true) (L : List (List Int)) (hL : ∀ u ∈ L, huIs u a b = true) (hn : L.length ≤ 1000000) (d : Nat) : ∀ (i : Nat) (o : List (List Int)), i + d = L.length → o.length ≤ i → Ev (fun k => spec_FundamentalsUpTo.l0 k a o L (L.length : Int) (i : Int)) (o ++ (L.drop i).filter (fun u => lastOf u a), true) := by
  induction d with
  | zero =>
    intro i o hi ho
    have c1 : ¬ (i : Int) < (L.length : Int) := by omega
    rw [List.drop_of_length_le (by omega), List.filter_nil, List.append_nil]
    exact Ev.step (f := fun _ => some (o, true)) (fun k => by simp only [spec_FundamentalsUpTo.l0, c1, if_false]) (Ev.is rfl)
  | succ d ih =>
    intro i o hi ho
    have hil : i < L.length := by omega
    have c1 : (i : Int) < (L.length : Int) := by omega
    have c2 : (0 : Int) ≤ (i : Int) := by omega
    have c3 : o.length < 5864062014805 := by omega
    have g : rd_L1 L (i : Int) = L[i] := by
      unfold rd_L1
      rw [Int.toNat_natCast, List.getD_eq_getElem?_getD, List.getElem?_eq_getElem hil]
      rfl
    have w1 : wrap64 ((i : Int) + 1) = ((i + 1 : Nat) : Int) := w64_succ hil (by omega)
    have e1 := (last_both hg (hL _ (List.getElem_mem hil))).2
    rw [List.drop_eq_getElem_cons hil]
    refine Ev.step (fun k => by simp only [spec_FundamentalsUpTo.l0, c1, c2, g, w1, if_true]; rfl) (Ev.bind e1 ?_)
    cases hu : lastOf L[i] a with
    | false =>
      rw [List.filter_cons_of_neg (by rw [hu]; simp)]
      simp only [Bool.false_eq_true, if_false]
      exact ih (i + 1) o (by omega) (by omega)
    | true =>
      rw [List.filter_cons_of_pos (p := fun u => lastOf u a) hu]
      simp only [if_true, c3]
      have := ih (i + 1) (o ++ [L[i]]) (by omega) (by rw [List.length_append, List.length_singleton]; omega)
      rw [List.append_assoc] at this
      exact this
theorem spec_FundamentalsUpTo_ev (a0 a1 a2 a3 : Int) : Ev (fun k => spec_FundamentalsUpTo.f k a0 a1 a2 a3) (fundsUp a0 a1 a2 a3) := by
  unfold spec_FundamentalsUpTo.f fundsUp
  refine Ev.bind (spec_SolutionsUpTo_ev a0 a1 a2 a3) ?_
  have hlen := solsUp_len a0 a1 a2 a3
  have his := fun u hu => solsUp_is (a0 := a0) (a1 := a1) (a2 := a2) (a3 := a3) u hu
  have hg : (solsUp a0 a1 a2 a3).2 = true → huGv a1 a2 = true := by
    unfold solsUp
    split
    · rename_i h
      exact fun _ => (parts_is h).2.1
    · simp
  generalize solsUp a0 a1 a2 a3 = r at *
  cases hr : r.2 with
  | false =>
    simp only [Bool.false_eq_true, if_false]
    exact Ev.is rfl
  | true =>
    simp only [if_true]
    exact spec_filt (hg hr) r.1 (fun u hu => (his u hu).2) (by omega) r.1.length 0 [] (by omega) (by simp)
end Go.Proofs.Ytgpoljimomfbbaa.P

-- UboolRow
namespace Go.Proofs.Ytgpoljimomfbbaa.P
open Go Go.RowKit Go.Proofs.YtgpoljimomfbbaaW.PrintWords Go.Proofs.YtgpoljimomfbbaaW.PrintLast
set_option linter.unusedVariables false
set_option linter.unusedSimpArgs false
theorem heap_setCells_same (b : Nat) (t : TypeId) : ∀ (vs : List Value) (o : Nat) (W : World) (cs : Array Value), W.heap[b]? = some (.cells cs t (0, 0)) → (∀ j v, vs[j]? = some v → cs[o + j]? = some v) → (∀ k : Nat, (W.setCells b o vs).heap[k]? = W.heap[k]?) ∧ (W.setCells b o vs).heap.size = W.heap.size ∧ (W.setCells b o vs).os = W.os ∧ (W.setCells b o vs).tape = W.tape ∧ (W.setCells b o vs).output = W.output
  | [], o, W, cs, _, _ => ⟨fun _ => rfl, rfl, rfl, rfl, rfl⟩
  | v :: vs, o, W, cs, h, hv => by
    have h0 := hv 0 v rfl
    rw [Nat.add_zero] at h0
    have e1 : cs.setIfInBounds o v = cs := by
      apply Array.ext_getElem?
      intro i
      rw [Array.getElem?_setIfInBounds]
      split
      · rename_i hi
        subst hi
        split
        · exact h0.symm
        · rename_i hn
          rw [Array.getElem?_eq_none (by omega)] at h0
          simp at h0
      · rfl
    have h1 : (W.setCell ⟨b, o, none⟩ v).heap[b]? = some (.cells cs t (0, 0)) := by
      rw [heap_setCell_same W b o cs t v h, e1]
    have hk : ∀ k : Nat, (W.setCell ⟨b, o, none⟩ v).heap[k]? = W.heap[k]? := by
      intro k
      by_cases hb : k = b
      · rw [hb, h1, h]
      · exact heap_setCell_other W _ k v hb
    obtain ⟨i1, i2, i3, i4, i5⟩ := heap_setCells_same b t vs (o + 1) (W.setCell ⟨b, o, none⟩ v) cs h1 (fun j u hu => by
      have := hv (j + 1) u (by simpa using hu)
      rw [show o + 1 + j = o + (j + 1) from by omega]
      exact this)
    exact ⟨fun k => (i1 k).trans (hk k), i2.trans (by simp), i3, i4, i5⟩
def noB : List Value := List.replicate 21 (Value.bool false)
theorem noB_is : noB.toArray = #[Value.bool false, Value.bool false, Value.bool false, Value.bool false, Value.bool false, Value.bool false, Value.bool false, Value.bool false, Value.bool false, Value.bool false, Value.bool false, Value.bool false, Value.bool false, Value.bool false, Value.bool false, Value.bool false, Value.bool false, Value.bool false, Value.bool false, Value.bool false, Value.bool false] := rfl
theorem row_there {W : World} {b : Nat} {t : TypeId} {cs : List Value} (h : W.heap[b]? = some (.cells cs.toArray t (0, 0))) : W.there b 0 cs.length := by
  intro j hj
  refine ⟨?_, frozen_of_row W b _ _ _ h⟩
  simp [World.cell?, h, hj]
theorem row_range {W : World} {b : Nat} {t : TypeId} {cs : List Value} (h : W.heap[b]? = some (.cells cs.toArray t (0, 0))) : W.rangeAt b 0 cs := by
  intro j v hv
  simp [World.cell?, h, hv]
theorem infoHas : (Try.prog.info? 75).map (·.size) = some 21 := by kernel_rfl
theorem setCell_same (W : World) (b o : Nat) (t : TypeId) (cs : Array Value) (v : Value) (h : W.heap[b]? = some (.cells cs t (0, 0))) (hv : cs[o]? = some v) : W.setCell ⟨b, o, none⟩ v = W := by
  have h1 := (heap_setCells_same b t [v] o W cs h (fun j u hu => by
    cases j with
    | zero => simp at hu; rw [← hu]; exact hv
    | succ j => simp at hu)).1
  have h2 : (W.setCell ⟨b, o, none⟩ v).heap = W.heap := Array.ext_getElem? h1
  have h3 : W.setCell ⟨b, o, none⟩ v = { W with heap := (W.setCell ⟨b, o, none⟩ v).heap } := rfl
  rw [h3, h2]
theorem setCells_same (b : Nat) (t : TypeId) : ∀ (vs : List Value) (o : Nat) (W : World) (cs : Array Value), W.heap[b]? = some (.cells cs t (0, 0)) → (∀ j v, vs[j]? = some v → cs[o + j]? = some v) → W.setCells b o vs = W
  | [], _, _, _, _, _ => rfl
  | v :: vs, o, W, cs, h, hv => by
    have e : W.setCell ⟨b, o, none⟩ v = W := setCell_same W b o t cs v h (by have := hv 0 v rfl; rwa [Nat.add_zero] at this)
    show (W.setCell ⟨b, o, none⟩ v).setCells b (o + 1) vs = W
    rw [e]
    exact setCells_same b t vs (o + 1) W cs h (fun j u hu => by
      have := hv (j + 1) u (by simpa using hu)
      rw [show o + 1 + j = o + (j + 1) from by omega]
      exact this)
theorem infoBool : (Try.prog.info? 4).map (·.size) = some 1 := by kernel_rfl
theorem aggBool : Try.prog.underlying 4 = some .bool := by kernel_rfl
/-- One of them, read. -/
theorem run_index_bools (W : World) (hs : List Bool) (off : Nat) (bv : Bool) (hb : hs[off]? = some bv) (ho : off < 21) :
    (Instr.index 75 (.agg (hs.map Value.bool).toArray) (.int .i64 (off : Int))).run Try.prog W = .ok (.bool bv) W := by
  have h1 : (hs.map Value.bool)[off]? = some (.bool bv) := by rw [List.getElem?_map, hb]; rfl
  have h2 : (off : Int) < 21 := by omega
  obtain ⟨i, hi, hz⟩ := Option.map_eq_some_iff.1 infoBool
  simp [Instr.index, run_underlying Try.underlying75, run_underlying aggBool, asIntOf, go_sem, h2, sizeOf, typeInfo, hi, hz, isAgg, h1, hb, ho]
end Go.Proofs.Ytgpoljimomfbbaa.P

-- Gfactors
namespace Go.Proofs.Ytgpoljimomfbbaa.P
open Go Go.RowKit Go.Proofs.YtgpoljimomfbbaaW.PrintWords Go.Proofs.YtgpoljimomfbbaaW.PrintLast
set_option linter.unusedVariables false
set_option linter.unusedSimpArgs false

set_option maxHeartbeats 4000000 in
set_option maxRecDepth 100000 in
theorem falling_fac {σ : Type} (I : σ → World → (Nat → Prop) → Prop) (step : σ → List Int → Option σ) (B1 B2 : Nat) (V : Vis 74 #[.pointer (some ⟨B1, 0, none⟩), .pointer (some ⟨B2, 0, none⟩)] I step) (p : Nat) : ∀ (q : Int) (x : List Int) (m : Int) (s s' : σ) (W : World) (v : Value) (ok : Nat → Prop), q = p → x.length + p ≤ 1000 → p ≤ 1000 → m ≤ 1000000 → I s W ok → Lst W v x → (∀ k, v.ownBlock = some k → ¬ ok k) → fallS step p x m s = some s' →
    Calls Try.prog 73 #[v, .int .i64 q, .int .i64 m, .func (.func 74) #[] #[.pointer (some ⟨B1, 0, none⟩), .pointer (some ⟨B2, 0, none⟩)]] W fun e w' => e = .returned (.tuple #[]) ∧ I s' w' (fun k => ok k ∨ W.heap.size ≤ k) ∧ Fr W w' (fun k => ok k ∨ v.ownBlock = some k) ∧ Lst w' v x := by
  induction p with
  | zero =>
    intro q x m s s' W v ok hq hx hp hm hI hL hv hf
    have HV := Aside0.mk V
    have HI := Aside0.mk hI
    have HF := Aside0.mk (show step s x = some s' from hf)
    have HX := Aside0.mk hx
    have HN := Aside0.mk hv
    have HL := Aside0.mk hL
    obtain ⟨A, c, rfl, hc⟩ := hL.slice
    have HC := Aside0.mk hc
    have HK := Aside0.mk (Kd.R_reads' hL.R).2.2
    have c0b0 : (q == 0) = true := beq_iff_eq.mpr (by omega)
    have c0b1 : decide (q = 0) = true := decide_eq_true (by omega)
    clear hI hf hx hp hv hL hc hq hm V
    go_enter Try.func73, Try.ntmps73
    go_wp2_with (go_at_call 74; refine (HV.out.visit s s' _ A c x ok HI.out HF.out HK.out HC.out (by have := HX.out; omega)).mono ?_; rintro e w' ⟨rfl, hi1, hf1⟩; have HI1 := Aside0.mk hi1; have HF1 := Aside0.mk hf1; clear hi1 hf1)
    (try simp only [Exit.inBlock, Exit.then])
    refine bodyPost_ret (results_none rfl _ _ _) rfl ?_
    exact ⟨rfl, HI1.out, ⟨HF1.out.os, HF1.out.tape, HF1.out.output, HF1.out.size, fun k hk hn => HF1.out.block k hk (fun h_ => hn (.inl h_))⟩, HL.out.move (fun k hk => HF1.out.block k (HL.out.lt k hk) (HN.out k hk))⟩
  | succ p ih =>
    intro q x m s s' W v ok hq hx hp hm hI hL hv hf
    have HIH := Aside0.mk ih
    have HV := Aside0.mk V
    have HF := Aside0.mk (show fallL (fun s n => fallS step p (x ++ [n]) n s) m.toNat 1 s = some s' from hf)
    have HX := Aside0.mk hx
    have HP := Aside0.mk hp
    have HM := Aside0.mk hm
    have HN := Aside0.mk hv
    have HQ := Aside0.mk hq
    have HL0 := Aside0.mk hL
    have HI0 := Aside0.mk hI
    have c0b0 : (q == 0) = false := beq_eq_false_iff_ne.mpr (by omega)
    have c0b1 : decide (q = 0) = false := decide_eq_false (by omega)
    have HWQ : Aside0 (wrap64 (q - 1) = (p : Int)) := ⟨by unfold wrap64; omega⟩
    clear ih V hf hx hp hm hv hq hL hI
    go_enter Try.func73, Try.ntmps73
    go_wp2
    go_loopg [8] m.toNat (fun kj v8 wr => ∃ (s1 : σ) (n : Int) (j : Nat), v8 = .int .i64 n ∧ Aside0 (1 ≤ n ∧ n ≤ 1000001) ∧ Aside0 ((n + j = m + 1) ∨ (j = 0 ∧ m < n)) ∧ Aside0 (j ≤ kj) ∧ Aside0 (fallL (fun s n => fallS step p (x ++ [n]) n s) j n s1 = some s') ∧ Aside0 (I s1 wr (fun k => ok k ∨ W.heap.size ≤ k)) ∧ Aside0 (Fr W wr (fun k => ok k ∨ v.ownBlock = some k)) ∧ Aside0 (Lst wr v x))
    case atStart => exact ⟨s, 1, m.toNat, rfl, ⟨by omega⟩, ⟨by have := HM.out; omega⟩, ⟨Nat.le_refl _⟩, HF, ⟨HV.out.mono _ _ _ _ HI0.out (fun k hk => .inl hk)⟩, ⟨Fr.refl _ _⟩, HL0⟩
    case round =>
      clear HF
      obtain ⟨s1, n, j, rfl, HNN, HJ, HKJ, HF, HI, HFR, HL⟩ := hrel
      cases j with
      | zero =>
        have c1b0 : decide (n ≤ m) = false := decide_eq_false (by have := HJ.out; omega)
        obtain rfl : s1 = s' := Option.some.inj HF.out
        go_wp2
        go_end0
        exact ⟨rfl, HI.out, HFR.out, HL.out⟩
      | succ j =>
        have c1b0 : decide (n ≤ m) = true := decide_eq_true (by have := HJ.out; omega)
        obtain ⟨s2, h1, h2⟩ := Option.bind_eq_some_iff.mp HF.out
        have H1 := Aside0.mk h1
        have H2 := Aside0.mk h2
        clear h1 h2 HF
        go_wp2_with (first
          | ((with_reducible refine gate_builtin (b := .append) (xs := #[.tmp 19, .tmp 21]) rfl ?_); at_builtin; refine wpList_lst_append rfl (.tmp 19) (.tmp 21) 22 rfl Try.underlying22 info3 v x n rfl rfl HL.out (by have := HX.out; omega) ?_; intro v1 w1 ha1 ha2 ha3 ha4; have HA1 := Aside0.mk ha1; have HA2 := Aside0.mk ha2; have HA3 := Aside0.mk ha3; have HA4 := Aside0.mk ha4; clear ha1 ha2 ha3 ha4)
          | (go_at_call 73; refine (HIH.out _ (x ++ [n]) n s1 s2 _ v1 (fun k => (ok k ∨ W.heap.size ≤ k) ∧ k < wr.heap.size) HWQ.out (by have := HX.out; simp; omega) (by have := HP.out; omega) (by have := HNN.out; have := HJ.out; have := HM.out; omega) (HV.out.move _ _ _ _ (HV.out.bound _ _ _ HI.out) (fun k hk hlt => HA2.out.block k hlt (fun e0_ => by have e_ := e0_.1; have h3_ := HN.out k e_; have h4_ := HL0.out.lt k e_; rcases hk.1 with h5_ | h5_; exact h3_ h5_; omega)) HA2.out.size) HA1.out (fun k hk => by rintro ⟨h5_, h6_⟩; rcases HA3.out k hk with h3_ | h3_; (have h4_ := HL0.out.lt k h3_; have h7_ := HN.out k h3_; rcases h5_ with h5_ | h5_; exact h7_ h5_; omega); omega) H1.out).mono ?_; rintro e w2 ⟨rfl, hb1, hb2, hb3⟩; have HB1 := Aside0.mk hb1; have HB2 := Aside0.mk hb2; have HB3 := Aside0.mk hb3; clear hb1 hb2 hb3))
        go_roundg j
        case measure => have := HKJ.out; omega
        case rel =>
          have hw : Aside0 (wrap64 (n + 1) = n + 1) := ⟨by have := HNN.out; unfold wrap64; omega⟩
          have hs1 := HFR.out.size
          have hs2 := HA2.out.size
          refine ⟨s2, wrap64 (n + 1), j, (by first | rfl | (simp; done) | (simp [*]; done)), ⟨by have := HJ.out; have := HM.out; have := HNN.out; rw [hw.out]; omega⟩, ⟨by rw [hw.out]; have := HJ.out; omega⟩, ⟨by have := HKJ.out; omega⟩, ⟨by rw [hw.out]; exact H2.out⟩, ⟨HV.out.mono _ _ _ _ HB1.out (fun k hk => by rcases hk with ⟨h_, _⟩ | h_; exact h_; exact .inr (by omega))⟩, ⟨(HFR.out.trans HA2.out (fun k _ h_ => .inr h_.1)).trans HB2.out (fun k hk h_ => ?_)⟩, ⟨HA4.out w2 HB3.out (fun k hk hne => ?_)⟩⟩
          · rcases h_ with ⟨h5_ | h5_, _⟩ | h_
            · exact .inl h5_
            · omega
            · rcases HA3.out k h_ with h3_ | h3_
              · exact .inr h3_
              · omega
          · have h4_ := HL0.out.lt k hk
            have h7_ := HN.out k hk
            refine (HB2.out.block k (by omega) (fun h_ => ?_)).trans ?_
            · rcases h_ with ⟨h5_ | h5_, _⟩ | h_
              · exact h7_ h5_
              · omega
              · exact hne h_
            · exact HA2.out.block k (by omega) (fun h_ => hne h_.2)

/-- What FactorsFor's visitor holds: the rest, and the factors that were found. -/
def IF (B1 B2 : Nat) (b : Int) (hs : List Bool) (W : World) (ok : Nat → Prop) : Prop :=
  W.cell? ⟨B1, 0, none⟩ = some (.int .i64 b) ∧ W.heap[B2]? = some (.cells (hs.map Value.bool).toArray 75 (0, 0)) ∧ ok B1 ∧ ok B2 ∧ hs.length = 21
def facL : List Int → Int → Int → Int × Int
  | [], s, p => (s, p)
  | n :: t, s, p => facL t (wrap64 (s + wrap64 (n * n))) (wrap64 (p * n))
def facEnd (hs : List Bool) (s p : Int) : Option (List Bool) := if 0 < s then (if p = 0 then none else (if Int.tmod s p = 0 then (if wrap64 (Int.tdiv s p) ≤ 20 then (if 0 ≤ wrap64 (Int.tdiv s p) then some (hs.set (wrap64 (Int.tdiv s p)).toNat true) else none) else some hs) else some hs)) else some hs
def facStep (b : Int) (hs : List Bool) (x : List Int) : Option (List Bool) := facEnd hs (facL x (wrap64 (-b)) 1).1 (facL x (wrap64 (-b)) 1).2
set_option maxHeartbeats 4000000 in
set_option maxRecDepth 100000 in
theorem fac_visit (B1 B2 : Nat) (b : Int) (h12 : B1 ≠ B2) (hs hs' : List Bool) (W : World) (A : Option Addr) (c : Nat) (x : List Int) (ok : Nat → Prop) (hI : IF B1 B2 b hs W ok) (hf : facStep b hs x = some hs') (hK : Kd.C (Kd.int .i64) W A x.length x) (hc : x.length ≤ c) (hx : x.length ≤ 1000000) :
    Calls Try.prog 74 (#[.slice A x.length c] ++ #[.pointer (some ⟨B1, 0, none⟩), .pointer (some ⟨B2, 0, none⟩)]) W fun e w' => e = .returned (.tuple #[]) ∧ IF B1 B2 b hs' w' (fun k => ok k ∨ W.heap.size ≤ k) ∧ Fr W w' ok := by
  show Calls Try.prog 74 #[.slice A x.length c, .pointer (some ⟨B1, 0, none⟩), .pointer (some ⟨B2, 0, none⟩)] W _
  obtain ⟨hI1, hI2, hI3, hI4, hI5⟩ := hI
  unfold facStep at hf
  have HK := Aside0.mk hK
  have HX := Aside0.mk hx
  have H2 := Aside0.mk hI2
  have H34 := Aside0.mk (And.intro hI3 hI4)
  have HLEN := Aside0.mk hI5
  have HNE := Aside0.mk h12
  have HF := Aside0.mk hf
  have HI1 := Aside0.mk hI1
  clear hK hc hI2 hI3 hI4 hI5 h12 hf hx
  go_enter Try.func74, Try.ntmps74
  go_wp2
  go_loopg [4, 5, 12] x.length (fun kj v4 v5 v12 wr => ∃ (us : List Int) (s p : Int) (off : Nat), v4 = .int .i64 s ∧ v5 = .int .i64 p ∧ v12 = .int .i64 (off : Int) ∧ W = wr ∧ Aside0 (us.length ≤ kj) ∧ Aside0 (off + us.length = x.length) ∧ Aside0 (x.drop off = us) ∧ Aside0 (facEnd hs (facL us s p).1 (facL us s p).2 = some hs'))
  case atStart => exact ⟨x, wrap64 (-b), 1, 0, (by first | rfl | (simp; done) | (simp [*]; done)), rfl, rfl, rfl, ⟨Nat.le_refl _⟩, ⟨by simp⟩, ⟨rfl⟩, HF⟩
  case round =>
    clear HF hI1
    obtain ⟨us, s, p, off, rfl, rfl, rfl, rfl, HKJ, HOF, HD, HF⟩ := hrel
    cases us with
    | nil =>
      have HOF' : Aside0 (off = x.length) := ⟨by simpa using HOF.out⟩
      have d1b0 : decide ((off : Int) < (x.length : Int)) = false := decide_eq_false (by have := HOF'.out; omega)
      have d1b1 : decide (off < x.length) = false := decide_eq_false (by have := HOF'.out; omega)
      have H : facEnd hs s p = some hs' := HF.out
      unfold facEnd at H
      clear HF
      by_cases s1 : 0 < s
      · rw [if_pos s1] at H
        have s1b0 : decide (0 < s) = true := decide_eq_true s1
        by_cases p0 : p = 0
        · rw [if_pos p0] at H
          exact absurd H (by simp)
        · rw [if_neg p0] at H
          have p0b0 : (p == 0) = false := beq_eq_false_iff_ne.mpr p0
          have p0b1 : decide (p = 0) = false := decide_eq_false p0
          by_cases m0 : Int.tmod s p = 0
          · rw [if_pos m0] at H
            have m0b0 : (Int.tmod s p == 0) = true := beq_iff_eq.mpr m0
            have m0b1 : decide (Int.tmod s p = 0) = true := decide_eq_true m0
            by_cases q0 : wrap64 (Int.tdiv s p) ≤ 20
            · rw [if_pos q0] at H
              have q0b0 : decide (wrap64 (Int.tdiv s p) ≤ 20) = true := decide_eq_true q0
              by_cases q1 : 0 ≤ wrap64 (Int.tdiv s p)
              · rw [if_pos q1] at H
                obtain rfl : hs.set (wrap64 (Int.tdiv s p)).toNat true = hs' := Option.some.inj H
                have hq1 : (0 ≤ wrap64 (Int.tdiv s p)) = True := eq_true q1
                have hq2 : (wrap64 (Int.tdiv s p) < 21) = True := eq_true (by omega)
                have hlt : (wrap64 (Int.tdiv s p)).toNat < hs.length := by have := HLEN.out; omega
                obtain ⟨bv, hcell⟩ : ∃ bv, W.cell? ⟨B2, (wrap64 (Int.tdiv s p)).toNat, none⟩ = some bv := ⟨.bool hs[(wrap64 (Int.tdiv s p)).toNat], by simp [World.cell?, H2.out, hlt]⟩
                have hfz : W.frozen? ⟨B2, (wrap64 (Int.tdiv s p)).toNat, none⟩ = false := frozen_of_row W B2 _ _ _ H2.out
                have HLTS := Aside0.mk hlt
                clear H m0 s1 q0 q1 hlt
                go_wp2
                go_end0
                refine ⟨rfl, ⟨?_, ?_, .inl H34.out.1, .inl H34.out.2, by rw [List.length_set]; exact HLEN.out⟩, ⟨rfl, rfl, rfl, by simp, fun k_ hk hn => heap_setCell_other W _ k_ _ (fun e_ => hn (by rw [e_]; exact H34.out.2))⟩⟩
                · rw [World.cell?_of_block (heap_setCell_other W _ B1 _ HNE.out)]
                  exact HI1.out
                · rw [heap_setCell_same _ _ _ _ _ _ H2.out]
                  simp
              · rw [if_neg q1] at H
                exact absurd H (by simp)
            · rw [if_neg q0] at H
              have q0b0 : decide (wrap64 (Int.tdiv s p) ≤ 20) = false := decide_eq_false q0
              obtain rfl : hs = hs' := Option.some.inj H
              clear H m0 s1 q0
              go_wp2
              go_end0
              exact ⟨rfl, ⟨HI1.out, H2.out, .inl H34.out.1, .inl H34.out.2, HLEN.out⟩, Fr.refl _ _⟩
          · rw [if_neg m0] at H
            have m0b0 : (Int.tmod s p == 0) = false := beq_eq_false_iff_ne.mpr m0
            have m0b1 : decide (Int.tmod s p = 0) = false := decide_eq_false m0
            obtain rfl : hs = hs' := Option.some.inj H
            clear H m0 s1
            go_wp2
            go_end0
            exact ⟨rfl, ⟨HI1.out, H2.out, .inl H34.out.1, .inl H34.out.2, HLEN.out⟩, Fr.refl _ _⟩
      · rw [if_neg s1] at H
        have s1b0 : decide (0 < s) = false := decide_eq_false s1
        obtain rfl : hs = hs' := Option.some.inj H
        clear H s1
        go_wp2
        go_end0
        exact ⟨rfl, ⟨HI1.out, H2.out, .inl H34.out.1, .inl H34.out.2, HLEN.out⟩, Fr.refl _ _⟩
    | cons n us =>
      have HOL : Aside0 (off < x.length) := ⟨by have := HOF.out; simp at this; omega⟩
      have hlt : off < x.length := HOL.out
      have hltz : (off : Int) < (x.length : Int) := by omega
      have d1b0 : decide ((off : Int) < (x.length : Int)) = true := decide_eq_true hltz
      have d1b1 : decide (off < x.length) = true := decide_eq_true hlt
      obtain ⟨ad, e1, hx⟩ := Kd.at_int HK.out (off : Int) (by omega) (by omega)
      cases e1
      rw [Int.toNat_natCast] at hx
      have hd := HD.out
      rw [List.drop_eq_getElem_cons hlt] at hd
      injection hd with hn hd
      have hrd : rd x (off : Int) = n := by
        unfold rd
        rw [Int.toNat_natCast, List.getD_eq_getElem?_getD, List.getElem?_eq_getElem hlt, ← hn]
        rfl
      rw [hrd] at hx
      have HD' := Aside0.mk hd
      have HW : Aside0 (wrap64 ((off : Int) + 1) = ((off + 1 : Nat) : Int)) := ⟨by have := HOL.out; have := HX.out; unfold wrap64; omega⟩
      clear hn hd hrd HD
      go_wp2
      go_roundg us.length
      case measure => have := HKJ.out; simp at this; omega
      case rel => exact ⟨us, _, _, off + 1, rfl, rfl, (by rw [← HW.out]), rfl, ⟨Nat.le_refl _⟩, ⟨by have := HOF.out; simp at this; omega⟩, HD', HF⟩
theorem fac_vis (B1 B2 : Nat) (b : Int) (h12 : B1 ≠ B2) : Vis 74 #[.pointer (some ⟨B1, 0, none⟩), .pointer (some ⟨B2, 0, none⟩)] (IF B1 B2 b) (facStep b) where
  mono := by
    rintro s W ok ok' ⟨h1, h2, h3, h4, h5⟩ h
    exact ⟨h1, h2, h _ h3, h _ h4, h5⟩
  bound := by
    rintro s W ok ⟨h1, h2, h3, h4, h5⟩
    exact ⟨h1, h2, ⟨h3, World.block_lt_of_cell? _ _ h1⟩, ⟨h4, (Array.getElem?_eq_some_iff.1 h2).1⟩, h5⟩
  move := by
    rintro s W W1 ok ⟨h1, h2, h3, h4, h5⟩ h hs
    refine ⟨?_, (h B2 h4 (Array.getElem?_eq_some_iff.1 h2).1).trans h2, h3, h4, h5⟩
    rw [World.cell?_of_block (h B1 h3 (World.block_lt_of_cell? _ _ h1))]
    exact h1
  visit := fun s s' W A c x ok hI hf hK hc hx => fac_visit B1 B2 b h12 s s' W A c x ok hI hf hK hc hx

def foundF : List Bool → Int → List Int
  | [], _ => []
  | h :: t, i => if h = true then i :: foundF t (i + 1) else foundF t (i + 1)
def impl_FactorsFor.f (a0 a1 a2 : Int) : Option (List Int × Bool) := (impl_areTried.f a0 a1 a2).bind fun t => (if t = true then (if 0 ≤ a0 ∧ a0 ≤ 900 ∧ a2 ≤ 1000000 then ((fallS (facStep a1) a0.toNat [] a2 (List.replicate 21 false)).bind fun hs => some (foundF hs 0, true)) else none) else some ([], false))
set_option maxHeartbeats 4000000 in
set_option maxRecDepth 100000 in
theorem impl_FactorsFor.calls (a0 a1 a2 : Int) (r1 : List Int) (r2 : Bool) (w : World) (h : impl_FactorsFor.f a0 a1 a2 = some (r1, r2)) :
    Calls Try.prog 27 #[.int .i64 a0, .int .i64 a1, .int .i64 a2] w fun e w' => ∃ v0_ : Value, e = .returned (.tuple #[v0_, .bool r2]) ∧ Kd.R (Kd.int .i64) 3 w' w.heap.size (fun _ => True) v0_ r1 ∧ Below w.heap.size w w' := by
  unfold impl_FactorsFor.f at h
  obtain ⟨t, A3, h⟩ := Option.bind_eq_some_iff.mp h
  have HB := Aside0.mk (below_alloc (Below.refl w.heap.size w) (.cells #[.int .i64 a1] 3))
  have HC1 : Aside0 ((w.alloc (.cells #[.int .i64 a1] 3)).cell? ⟨w.heap.size, 0, none⟩ = some (.int .i64 a1)) := ⟨by simp⟩
  have HSZ : Aside0 ((w.alloc (.cells #[.int .i64 a1] 3)).heap.size = w.heap.size + 1) := ⟨by simp⟩
  have HA3 := Aside0.mk A3
  clear A3
  cases t with
  | false =>
    obtain ⟨rfl, rfl⟩ : ([] : List Int) = r1 ∧ false = r2 := by simpa using h
    clear h
    go_enter Try.func27, Try.ntmps27
    go_wp2_with (go_at_call 66; refine (impl_areTried.calls a0 a1 a2 false _ HA3.out).mono ?_; rintro e w5 ⟨rfl, ⟨nd1, rfl⟩⟩)
    go_ret2
    exact ⟨_, rfl, Kd.R_nil _ _ _ _ _, pw_below_drewN HB.out _⟩
  | true =>
    replace h : (if 0 ≤ a0 ∧ a0 ≤ 900 ∧ a2 ≤ 1000000 then ((fallS (facStep a1) a0.toNat [] a2 (List.replicate 21 false)).bind fun hs => some (foundF hs 0, true)) else none) = some (r1, r2) := by simpa using h
    by_cases hg : 0 ≤ a0 ∧ a0 ≤ 900 ∧ a2 ≤ 1000000
    · rw [if_pos hg] at h
      obtain ⟨hs, HF, h⟩ := Option.bind_eq_some_iff.mp h
      obtain ⟨rfl, rfl⟩ : foundF hs 0 = r1 ∧ true = r2 := by simpa using h
      have HF := Aside0.mk HF
      have HGD := Aside0.mk hg
      clear h hg
      go_enter Try.func27, Try.ntmps27
      go_wp2_with (first
        | (go_at_call 66; refine (impl_areTried.calls a0 a1 a2 true _ HA3.out).mono ?_; rintro e w5 ⟨rfl, ⟨nd1, hw5⟩⟩; have n0_ := Aside0.mk (show Below w.heap.size w w5 by rw [hw5]; exact pw_below_drewN HB.out _); have n1_ := Aside0.mk (show w5.cell? ⟨w.heap.size, 0, none⟩ = some (.int .i64 a1) by rw [hw5]; exact HC1.out); have n2_ := Aside0.mk (show w5.heap.size = w.heap.size + 1 by rw [hw5]; exact HSZ.out); clear hw5 HB HC1 HSZ; have HB := n0_; have HC1 := n1_; have HSZ := n2_; clear n0_ n1_ n2_)
        | (refine wpList_store_mid (P := Try.prog) rfl 75 (.tmp 8) (.tmp 17) rfl w5.heap.size 0 noB.toArray rfl (by rw [noB_is]; rfl) ?c1 infoHas (all_oneCell_toArray (fun v hv => by rw [List.eq_of_mem_replicate hv]; rfl)) ?_; (case c1 => exact row_there (heap_alloc_new w5 _)); rw [← noB_is]; have h0_ : (w5.alloc (.cells noB.toArray 75)).heap[w5.heap.size]? = some (.cells noB.toArray 75 (0, 0)) := heap_alloc_new w5 _; rw [show (w5.alloc (.cells noB.toArray 75)).setCells w5.heap.size 0 noB.toArray.toList = w5.alloc (.cells noB.toArray 75) from setCells_same w5.heap.size 75 noB.toArray.toList 0 _ noB.toArray h0_ (fun j v hv => by rw [Nat.zero_add]; rw [Array.getElem?_toList] at hv; exact hv)]; clear h0_)
        | (go_at_call 73; refine (falling_fac (IF w.heap.size w5.heap.size a1) (facStep a1) w.heap.size w5.heap.size (fac_vis _ _ a1 (by have := HSZ.out; omega)) a0.toNat a0 [] a2 (List.replicate 21 false) hs _ (.slice none 0 0) (fun k_ => w.heap.size ≤ k_) (by have := HGD.out; omega) (by have := HGD.out; simp; omega) (by have := HGD.out; omega) HGD.out.2.2 ?hI (.inl ⟨rfl, rfl⟩) (by simp [Value.ownBlock]) HF.out).mono ?_; (case hI => exact ⟨pw_cell_below (below_alloc (Below.refl _ _) _) HC1.out, heap_alloc_new _ _, Nat.le_refl _, by have := HSZ.out; omega, by simp⟩); rintro e w6 ⟨rfl, ⟨hi1, hi2, hi3, hi4, hi5⟩, hf, _⟩; have H2 := Aside0.mk hi2; have HLEN := Aside0.mk hi5; have n1_ := Aside0.mk ((below_alloc HB.out (.cells noB.toArray 75)).trans (Fr.below hf (fun k_ hk => ⟨by have := HSZ.out; simp; omega, fun h_ => by rcases h_ with h_ | h_; omega; simp [Value.ownBlock] at h_⟩))); clear hi1 hi2 hi3 hi4 hi5 hf HB; have HB := n1_; clear n1_)
        | ((with_reducible refine gate_dst (N := 22) rfl ?_); refine Kd.R_lit (Kd.int .i64) _ 3 ?hg (N := 22) ?hd (xs := ([] : List Int)) (inner := []) (ok := fun _ => True) (okp := fun _ => True) ?hr ?hp (fun _ hk => hk) trivial (Below.refl _ _) (Nat.le_refl _) (by simp) ?_; (case hd => rfl); (case hg => rfl); (case hr => first | (go_simp; done) | (go_simp; rfl)); (case hp => exact Reps.none _ _); intro v1 w7 ho hb hg_ hnew_; clear hg_ hnew_; have n0_ := Aside0.mk (Kd.R_lower ho (below_size HB.out)); have n1_ := Aside0.mk (below_step HB.out hb); have n2_ := Aside0.mk ((hb.block _ (Array.getElem?_eq_some_iff.1 H2.out).1).trans H2.out); clear HB H2 ho hb; have HO5 := n0_; have HB := n1_; have H2 := n2_; clear n0_ n1_ n2_; obtain ⟨Ao1, co1, eo1⟩ := Kd.R_slice HO5.out; subst eo1)
        | (refine wpList_load_mid (P := Try.prog) rfl 75 (.tmp 8) rfl w5.heap.size 0 rfl (hs.map Value.bool) _ (row_range H2.out) Try.underlying75 rfl (by rw [List.length_map, HLEN.out]; exact infoHas) ?_))
      go_loopg [9, 24] 21 (fun kj v9 v24 wr => ∃ (o : List Int) (off : Nat), v24 = .int .i64 (off : Int) ∧ Aside0 (off ≤ 21) ∧ Aside0 (21 - off ≤ kj) ∧ Aside0 (o ++ foundF (hs.drop off) (off : Int) = foundF hs 0) ∧ Aside0 (o.length ≤ off) ∧ Aside0 (Kd.R (Kd.int .i64) 3 wr w.heap.size (fun _ => True) v9 o) ∧ Aside0 (Below w.heap.size w wr))
      case atStart => exact ⟨[], 0, rfl, ⟨by omega⟩, ⟨by omega⟩, ⟨rfl⟩, ⟨by simp⟩, HO5, HB⟩
      case round =>
        clear HO5 HB H2 HF HA3 HC1
        obtain ⟨o, off, rfl, H21, HKJ, HFD, HOL, HO5, HB⟩ := hrel
        by_cases c1 : off < 21
        · have c1z : (off : Int) < 21 := by omega
          have c1b0 : decide ((off : Int) < 21) = true := decide_eq_true c1z
          have c1b1 : decide (off < 21) = true := decide_eq_true c1
          have hlt : off < hs.length := by have := HLEN.out; omega
          have HW : Aside0 (wrap64 ((off : Int) + 1) = ((off + 1 : Nat) : Int)) := ⟨by unfold wrap64; omega⟩
          have hfd := HFD.out
          rw [List.drop_eq_getElem_cons hlt, foundF] at hfd
          obtain ⟨bv, hbv⟩ : ∃ bv, bv = hs[off] := ⟨_, rfl⟩
          rw [← hbv] at hfd
          have hidx : hs[off]? = some bv := by rw [hbv, List.getElem?_eq_getElem hlt]
          have hidx2 : (List.map Value.bool hs)[off]? = some (.bool bv) := by rw [List.getElem?_map, hidx]; rfl
          have hix := run_index_bools wr hs off bv hidx c1
          have HC1 := Aside0.mk c1
          have eoff : ((off : Int)).toNat = off := Int.toNat_natCast off
          clear hbv hlt HFD
          cases bv with
          | false =>
            have HFD : Aside0 (o ++ foundF (hs.drop (off + 1)) ((off + 1 : Nat) : Int) = foundF hs 0) := ⟨by simpa using hfd⟩
            clear hfd c1
            go_wp2
            go_roundg (21 - (off + 1))
            case measure => have := HKJ.out; have := HC1.out; omega
            case rel => exact ⟨o, off + 1, (by first | (rw [← HW.out]; done) | (simp; done) | rfl), ⟨by have := HC1.out; omega⟩, ⟨Nat.le_refl _⟩, HFD, ⟨by have := HOL.out; omega⟩, HO5, HB⟩
          | true =>
            have HFD : Aside0 ((o ++ [(off : Int)]) ++ foundF (hs.drop (off + 1)) ((off + 1 : Nat) : Int) = foundF hs 0) := ⟨by rw [List.append_assoc]; simpa using hfd⟩
            clear hfd c1
            obtain ⟨A9, c9, e9⟩ := Kd.R_slice HO5.out
            subst e9
            go_wp2_with (first
              | ((with_reducible refine gate_builtin (b := .append) (xs := #[.tmp 29, .tmp 31]) rfl ?_); at_builtin; refine Kd.R_append (Kd.int .i64) (w0 := w) w.heap.size rfl (.tmp 29) (.tmp 31) 22 3 (.int .i64 0) 8 rfl Try.underlying22 info3 rfl (by decide) (by omega) (.slice A9 o.length c9) o (off : Int) [.int .i64 (off : Int)] (fun _ => True) (fun _ => False) rfl rfl rfl (fun _ h_ => h_.elim) (fun _ _ => trivial) HO5.out HB.out (below_size HB.out) (by have := HOL.out; have := HC1.out; omega) ?_; intro v1 w1 ho hb hg hat; clear HO5 HB; have HO5 := Aside0.mk ho; have HB := Aside0.mk hb; clear ho hb hg hat))
            go_roundg (21 - (off + 1))
            case measure => have := HKJ.out; have := HC1.out; omega
            case rel => exact ⟨o ++ [(off : Int)], off + 1, (by first | (rw [← HW.out]; done) | (simp; done) | rfl), ⟨by have := HC1.out; omega⟩, ⟨Nat.le_refl _⟩, HFD, ⟨by have := HOL.out; simp; omega⟩, HO5, HB⟩
        · have c1b0 : decide ((off : Int) < 21) = false := decide_eq_false (by omega)
          have c1b1 : decide (off < 21) = false := decide_eq_false c1
          have HE : Aside0 (o = foundF hs 0) := ⟨by
            have h_ := HFD.out
            rw [List.drop_of_length_le (by have := HLEN.out; omega)] at h_
            simpa [foundF] using h_⟩
          clear c1
          go_wp2
          go_ret2
          exact ⟨_, rfl, by rw [← HE.out]; exact HO5.out, HB.out⟩
    · rw [if_neg hg] at h
      exact absurd h (by simp)
end Go.Proofs.Ytgpoljimomfbbaa.P
