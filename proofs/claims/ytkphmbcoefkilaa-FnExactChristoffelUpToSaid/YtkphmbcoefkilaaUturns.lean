/- All turns of a text: the library's sort and compact, and the reference's insertion, tell the same list. -/
import Derived.Test.YtkphmbcoefkilaaUcounts
import Derived.Test.YtkphmbcoefkilaaGcompactStrings
import Derived.Test.YtkphmbcoefkilaaPFimplturns
import Derived.Test.YtkphmbcoefkilaaPFspecchTurns
namespace Go.Proofs.Ytkphmbcoefkilaa.P
set_option linter.unusedVariables false
set_option linter.unusedSimpArgs false
open Go.RowKit Go.Proofs.YtkphmbcoefkilaaW.PrintWords Go.Proofs.YtkphmbcoefkilaaW.PrintLast Go.Proofs.YtkphmbcoefkilaaW.PrintMore

abbrev BL := List UInt8
theorem bl_lt_of_le_ne {x y : BL} (h : x ≤ y) (hn : x ≠ y) : x < y := by
  rcases List.le_iff_lt_or_eq.1 h with h | h
  · exact h
  · exact absurd h hn
/-- Two lists that rise strictly and hold the same are one. -/
theorem rising_unique {l m : List BL} (hl : l.Pairwise (· < ·)) (hm : m.Pairwise (· < ·)) (h : ∀ x, x ∈ l ↔ x ∈ m) : l = m := by
  induction l generalizing m with
  | nil =>
    cases m with
    | nil => rfl
    | cons y m => exact absurd ((h y).2 List.mem_cons_self) (by simp)
  | cons x l ih =>
    cases m with
    | nil => exact absurd ((h x).1 List.mem_cons_self) (by simp)
    | cons y m =>
      rw [List.pairwise_cons] at hl hm
      have hxy : x = y := by
        rcases List.mem_cons.1 ((h x).1 List.mem_cons_self) with e | e
        · exact e
        · rcases List.mem_cons.1 ((h y).2 List.mem_cons_self) with e2 | e2
          · exact e2.symm
          · exact absurd (List.lt_trans (hm.1 x e) (hl.1 y e2)) (List.lt_irrefl _)
      subst hxy
      congr 1
      refine ih hl.2 hm.2 (fun z => ?_)
      constructor
      · intro hz
        rcases List.mem_cons.1 ((h z).1 (List.mem_cons_of_mem _ hz)) with e | e
        · subst e
          exact absurd (hl.1 z hz) (List.lt_irrefl _)
        · exact e
      · intro hz
        rcases List.mem_cons.1 ((h z).2 (List.mem_cons_of_mem _ hz)) with e | e
        · subst e
          exact absurd (hm.1 z hz) (List.lt_irrefl _)
        · exact e
/-- Insertion, no doubles. -/
def insT (t : BL) : List BL → List BL
  | [] => [t]
  | y :: l => if y < t then y :: insT t l else if y = t then y :: l else t :: y :: l
theorem insT_mem (t : BL) (l : List BL) (x : BL) : x ∈ insT t l ↔ x = t ∨ x ∈ l := by
  induction l with
  | nil => simp [insT]
  | cons y l ih =>
    rw [insT]
    split
    · rw [List.mem_cons, ih, List.mem_cons]
      constructor
      · rintro (h | h | h)
        · exact .inr (.inl h)
        · exact .inl h
        · exact .inr (.inr h)
      · rintro (h | h | h)
        · exact .inr (.inl h)
        · exact .inl h
        · exact .inr (.inr h)
    · split
      · rename_i h
        subst h
        constructor
        · exact fun h => .inr h
        · rintro (h | h)
          · rw [h]; exact List.mem_cons_self
          · exact h
      · rw [List.mem_cons]
theorem insT_rising (t : BL) (l : List BL) (h : l.Pairwise (· < ·)) : (insT t l).Pairwise (· < ·) := by
  induction l with
  | nil => simp [insT]
  | cons y l ih =>
    rw [List.pairwise_cons] at h
    rw [insT]
    split
    · rename_i hy
      rw [List.pairwise_cons]
      refine ⟨fun z hz => ?_, ih h.2⟩
      rcases (insT_mem t l z).1 hz with e | e
      · rw [e]; exact hy
      · exact h.1 z e
    · rename_i hy
      split
      · exact List.pairwise_cons.2 h
      · rename_i hne
        have hlt : t < y := bl_lt_of_le_ne (List.not_lt.1 hy) (fun e => hne e.symm)
        rw [List.pairwise_cons]
        refine ⟨fun z hz => ?_, List.pairwise_cons.2 h⟩
        rcases List.mem_cons.1 hz with e | e
        · rw [e]; exact hlt
        · exact List.lt_trans hlt (h.1 z e)
theorem insT_length (t : BL) (l : List BL) : (insT t l).length ≤ l.length + 1 := by
  induction l with
  | nil => simp [insT]
  | cons y l ih =>
    rw [insT]
    split
    · simp only [List.length_cons]; omega
    · split <;> simp
/-- Compact of what does not fall: rises strictly, holds the same. -/
theorem compact_upto (d : Array BL) (hd : ∀ i j, i ≤ j → j < d.size → d[i]! ≤ d[j]!) (m : Nat) (hm : m ≤ d.size) : (Go.Lib.compactUpTo d m).Pairwise (· < ·) ∧ ∀ x, x ∈ Go.Lib.compactUpTo d m ↔ ∃ j, j < m ∧ d[j]! = x := by
  induction m with
  | zero => exact ⟨by simp [Go.Lib.compactUpTo], by simp [Go.Lib.compactUpTo]⟩
  | succ m ih =>
    obtain ⟨h1, h2⟩ := ih (by omega)
    rw [Go.Lib.compactUpTo_succ]
    cases hk : Go.Lib.keeps d m with
    | true =>
      simp only [if_true]
      constructor
      · rw [List.pairwise_append]
        refine ⟨h1, by simp, fun a ha b hb => ?_⟩
        rw [List.mem_singleton] at hb
        subst hb
        obtain ⟨j, hj, rfl⟩ := (h2 a).1 ha
        have hne : d[m]! ≠ d[m - 1]! := by
          unfold Go.Lib.keeps at hk
          rw [decide_eq_true_eq] at hk
          rcases hk with h | h
          · omega
          · exact h
        have a1 := hd j (m - 1) (by omega) (by omega)
        have a2 := bl_lt_of_le_ne (hd (m - 1) m (by omega) (by omega)) (fun e => hne e.symm)
        exact List.lt_of_le_of_lt a1 a2
      · intro x
        rw [List.mem_append, List.mem_singleton, h2]
        constructor
        · rintro (⟨j, hj, e⟩ | e)
          · exact ⟨j, by omega, e⟩
          · exact ⟨m, by omega, e.symm⟩
        · rintro ⟨j, hj, e⟩
          by_cases h : j = m
          · subst h; exact .inr e.symm
          · exact .inl ⟨j, by omega, e⟩
    | false =>
      simp only [Bool.false_eq_true, if_false, List.append_nil]
      refine ⟨h1, fun x => ?_⟩
      rw [h2]
      unfold Go.Lib.keeps at hk
      rw [decide_eq_false_iff_not] at hk
      constructor
      · rintro ⟨j, hj, e⟩
        exact ⟨j, by omega, e⟩
      · rintro ⟨j, hj, e⟩
        by_cases h : j = m
        · subst h
          refine ⟨j - 1, ?_, ?_⟩
          · rcases Nat.eq_zero_or_pos j with h0 | h0
            · exact absurd (Or.inl h0) hk
            · omega
          · rw [← e]
            by_cases h5 : d[j]! = d[j - 1]!
            · exact h5.symm
            · exact absurd (Or.inr h5) hk
        · exact ⟨j, by omega, e⟩
theorem getElem!_list (zs : List BL) (i : Nat) (h : i < zs.length) : zs.toArray[i]! = zs[i] := by
  simp [getElem!_pos, h]
theorem compact_rising (zs : List BL) (h : zs.Pairwise (· ≤ ·)) : (Go.Lib.compact zs).Pairwise (· < ·) ∧ ∀ x, x ∈ Go.Lib.compact zs ↔ x ∈ zs := by
  have hc := compact_upto zs.toArray (fun i j hij hj => by
    have hj' : j < zs.length := by simpa using hj
    rw [getElem!_list zs i (by omega), getElem!_list zs j hj']
    rcases Nat.lt_or_ge i j with h1 | h1
    · exact List.pairwise_iff_getElem.1 h i j (by omega) hj' h1
    · have : i = j := by omega
      subst this
      exact List.le_refl _) zs.length (by simp)
  unfold Go.Lib.compact
  refine ⟨hc.1, fun x => ?_⟩
  rw [hc.2]
  constructor
  · rintro ⟨j, hj, rfl⟩
    rw [getElem!_list zs j hj]
    exact List.getElem_mem hj
  · intro hx
    obtain ⟨j, hj, rfl⟩ := List.getElem_of_mem hx
    exact ⟨j, hj, getElem!_list zs j hj⟩
theorem sorted_bl (l : List BL) : (l.mergeSort fun x y => decide (x ≤ y)).Pairwise (· ≤ ·) ∧ ∀ x, x ∈ (l.mergeSort fun x y => decide (x ≤ y)) ↔ x ∈ l := by
  constructor
  · have h := List.pairwise_mergeSort (le := fun x y : BL => decide (x ≤ y)) (by intro a b c h1 h2; simp only [decide_eq_true_eq] at *; exact List.le_trans h1 h2) (by intro a b; simp only [Bool.or_eq_true, decide_eq_true_eq]; exact List.le_total a b) l
    exact h.imp (by intro a b h; simpa using h)
  · intro x
    exact (List.mergeSort_perm l _).mem_iff
/-- The turns, one by one. -/
def turnAt (s : ByteArray) (i : Nat) : ByteArray := s.extract i s.size ++ s.extract 0 i
def allT (s : ByteArray) : List BL := (List.range s.size).map fun i => bytesList (turnAt s i)
/-- All different turns, in order. -/
def turnsOf (s : ByteArray) : List BL := (allT s).foldl (fun o t => insT t o) []
theorem foldl_insT (l : List BL) : ∀ o : List BL, o.Pairwise (· < ·) → (l.foldl (fun o t => insT t o) o).Pairwise (· < ·) ∧ ∀ x, x ∈ l.foldl (fun o t => insT t o) o ↔ x ∈ l ∨ x ∈ o := by
  induction l with
  | nil => intro o ho; exact ⟨ho, by simp⟩
  | cons t l ih =>
    intro o ho
    obtain ⟨h1, h2⟩ := ih (insT t o) (insT_rising t o ho)
    refine ⟨h1, fun x => ?_⟩
    rw [List.foldl_cons, h2, insT_mem, List.mem_cons]
    constructor
    · rintro (h | h | h)
      · exact .inl (.inr h)
      · exact .inl (.inl h)
      · exact .inr h
    · rintro ((h | h) | h)
      · exact .inr (.inl h)
      · exact .inl h
      · exact .inr (.inr h)
theorem compact_turns (l : List BL) : Go.Lib.compact (l.mergeSort fun x y => decide (x ≤ y)) = l.foldl (fun o t => insT t o) [] := by
  have h1 := sorted_bl l
  have h2 := compact_rising _ h1.1
  have h3 := foldl_insT l [] List.Pairwise.nil
  refine rising_unique h2.1 h3.1 (fun x => ?_)
  rw [h2.2, h1.2, h3.2]
  simp
end Go.Proofs.Ytkphmbcoefkilaa.P
