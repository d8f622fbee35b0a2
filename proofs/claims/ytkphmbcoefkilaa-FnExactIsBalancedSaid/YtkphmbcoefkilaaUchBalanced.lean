/- Are letters balanced: both texts. -/
import Derived.Test.YtkphmbcoefkilaaUchFactors
import Derived.Test.YtkphmbcoefkilaaPFimplIsBalanced
import Derived.Test.YtkphmbcoefkilaaPFspecIsBalanced
namespace Go.Proofs.Ytkphmbcoefkilaa.P
set_option linter.unusedVariables false
set_option linter.unusedSimpArgs false
open Go.RowKit Go.Proofs.YtkphmbcoefkilaaW.PrintWords Go.Proofs.YtkphmbcoefkilaaW.PrintLast Go.Proofs.YtkphmbcoefkilaaW.PrintMore

/-- How many b there are in the part of so many letters that begins there. -/
def partB (s : ByteArray) (i n : Nat) : Int := (numB (bytesOf (s.extract i (i + n))) : Int)
/-- The least (not above m) and the greatest of the parts' numbers, from a place on. -/
def leastB (s : ByteArray) (n : Nat) : Nat → Nat → Int → Int
  | _, 0, m => m
  | i, d + 1, m => leastB s n (i + 1) d (if partB s i n < m then partB s i n else m)
def mostB (s : ByteArray) (n : Nat) : Nat → Nat → Int → Int
  | _, 0, m => m
  | i, d + 1, m => mostB s n (i + 1) d (if m < partB s i n then partB s i n else m)
theorem numB_le (l : List Int) : numB l ≤ l.length := List.count_le_length
theorem partB_bd (s : ByteArray) (i n : Nat) : 0 ≤ partB s i n ∧ partB s i n ≤ n := by
  unfold partB
  have := numB_le (bytesOf (s.extract i (i + n)))
  rw [bytesOf_length, ByteArray.size_extract] at this
  omega
theorem leastB_le (s : ByteArray) (n : Nat) (d : Nat) : ∀ (i : Nat) (m : Int), leastB s n i d m ≤ m ∧ (0 ≤ m → 0 ≤ leastB s n i d m) := by
  induction d with
  | zero => intro i m; exact ⟨Int.le_refl _, fun h => h⟩
  | succ d ih =>
    intro i m
    have h1 := ih (i + 1) (if partB s i n < m then partB s i n else m)
    have h2 := partB_bd s i n
    rw [leastB]
    split at h1 <;> rename_i hc
    · rw [if_pos hc]
      exact ⟨by omega, fun _ => h1.2 h2.1⟩
    · rw [if_neg hc]
      exact h1
theorem mostB_bd (s : ByteArray) (n : Nat) (d : Nat) : ∀ (i : Nat) (m : Int), 0 ≤ m → m ≤ n → 0 ≤ mostB s n i d m ∧ mostB s n i d m ≤ n := by
  induction d with
  | zero => intro i m h1 h2; exact ⟨h1, h2⟩
  | succ d ih =>
    intro i m h1 h2
    have h3 := partB_bd s i n
    rw [mostB]
    exact ih _ _ (by split <;> omega) (by split <;> omega)
/-- From two first bounds that no part is above the least is the same, if there is a part. -/
theorem leastB_same (s : ByteArray) (n d i : Nat) (m m' : Int) (h1 : (n : Int) ≤ m) (h2 : (n : Int) ≤ m') (hd : 1 ≤ d) : leastB s n i d m = leastB s n i d m' := by
  cases d with
  | zero => omega
  | succ d =>
    have h3 := partB_bd s i n
    rw [leastB, leastB]
    congr 1
    by_cases a : partB s i n < m <;> by_cases b : partB s i n < m' <;> simp [a, b] <;> omega
def balancedAt (s : ByteArray) (n : Nat) : Bool := decide (¬ mostB s n 0 (s.size + 1 - n) 0 > leastB s n 0 (s.size + 1 - n) n + 1)
def balancedFrom (s : ByteArray) : Nat → Nat → Bool
  | _, 0 => true
  | n, d + 1 => balancedAt s n && balancedFrom s (n + 1) d
theorem impl_inner (s : ByteArray) (h40 : s.size ≤ 40) (n : Nat) (hn : n ≤ s.size) (r : Bool × Bool) (d : Nat) : ∀ (i : Nat) (lo hi : Int), i + d = s.size + 1 - n →
    Ev (fun k => if mostB s n i d hi > wrap64 (leastB s n i d lo + 1) then some (false, true) else impl_IsBalanced.l0 k s ((n + 1 : Nat) : Int)) r → Ev (fun k => impl_IsBalanced.l1 k s (n : Int) lo hi (i : Int)) r := by
  induction d with
  | zero =>
    intro i lo hi hid hE
    refine Ev.step (fun k => ?_) hE
    simp only [impl_IsBalanced.l1]
    rw [w64 (x := (i : Int) + n) (by omega) (by omega), if_neg (by omega), w64_succ (n := 100) (i := n) (by omega) (by omega)]
    rfl
  | succ d ih =>
    intro i lo hi hid hE
    rw [mostB, leastB] at hE
    refine Ev.step (fun k => ?_) (ih (i + 1) _ _ (by omega) hE)
    simp only [impl_IsBalanced.l1]
    have e1 : ((i : Int) + (n : Int)).toNat = i + n := by omega
    rw [w64 (x := (i : Int) + n) (by omega) (by omega), if_pos (by omega), if_pos (by omega), if_pos (by omega), Int.toNat_natCast, e1, count_b, w64_succ (n := 100) (i := i) (by omega) (by omega)]
    rfl
theorem spec_inner (s : ByteArray) (h40 : s.size ≤ 40) (n : Nat) (hn : n ≤ s.size) (r : Bool × Bool) (d : Nat) : ∀ (i : Nat) (lo hi : Int), i + d = s.size + 1 - n →
    Ev (fun k => if mostB s n i d hi > wrap64 (leastB s n i d lo + 1) then some (false, true) else spec_IsBalanced.l0 k s ((n + 1 : Nat) : Int)) r → Ev (fun k => spec_IsBalanced.l1 k s (n : Int) lo hi (i : Int)) r := by
  induction d with
  | zero =>
    intro i lo hi hid hE
    refine Ev.step (fun k => ?_) hE
    simp only [spec_IsBalanced.l1]
    rw [w64 (x := (i : Int) + n) (by omega) (by omega), if_neg (by omega), w64_succ (n := 100) (i := n) (by omega) (by omega)]
    rfl
  | succ d ih =>
    intro i lo hi hid hE
    rw [mostB, leastB] at hE
    have e1 : ((i : Int) + (n : Int)).toNat = i + n := by omega
    refine Ev.step (f := fun k => (spec_chMany.f k (s.extract i (i + n))).bind fun t118 => (spec_l1Least.f lo t118).bind fun t119 => (spec_l1Most.f hi t118).bind fun t120 => spec_IsBalanced.l1 k s (n : Int) t119 t120 ((i + 1 : Nat) : Int)) (fun k => ?_) ?_
    · simp only [spec_IsBalanced.l1]
      rw [w64 (x := (i : Int) + n) (by omega) (by omega), if_pos (by omega), if_pos (by omega), if_pos (by omega), Int.toNat_natCast, e1, w64_succ (n := 100) (i := i) (by omega) (by omega)]
    · refine Ev.bind (chMany_ev (s.extract i (i + n)) (by rw [ByteArray.size_extract]; omega)) ?_
      have c1 : spec_l1Least.f lo (numB (bytesOf (s.extract i (i + n))) : Int) = some (if partB s i n < lo then partB s i n else lo) := by
        unfold spec_l1Least.f partB
        split <;> split <;> first | rfl | (congr 1; omega)
      have c2 : spec_l1Most.f hi (numB (bytesOf (s.extract i (i + n))) : Int) = some (if hi < partB s i n then partB s i n else hi) := by
        unfold spec_l1Most.f partB
        split <;> split <;> first | rfl | (congr 1; omega)
      exact Ev.bind0 c1 (Ev.bind0 c2 (ih (i + 1) _ _ (by omega) hE))
theorem balanced_end (s : ByteArray) (n : Nat) (hn : n ≤ 40) (lo : Int) (hlo : (n : Int) ≤ lo) (h1 : 1 ≤ s.size + 1 - n) (b : Bool) (g : Nat → Option (Bool × Bool)) (hg : Ev g (b, true)) :
    Ev (fun k => if mostB s n 0 (s.size + 1 - n) 0 > wrap64 (leastB s n 0 (s.size + 1 - n) lo + 1) then some (false, true) else g k) (balancedAt s n && b, true) := by
  rw [leastB_same s n (s.size + 1 - n) 0 lo n hlo (Int.le_refl _) h1]
  have hl := leastB_le s n (s.size + 1 - n) 0 (n : Int)
  have hl2 := hl.2 (by omega)
  rw [w64 (by omega) (by omega)]
  unfold balancedAt
  by_cases h : mostB s n 0 (s.size + 1 - n) 0 > leastB s n 0 (s.size + 1 - n) (n : Int) + 1
  · simp only [h, if_true, not_true_eq_false, decide_false, Bool.false_and]
    exact Ev.is rfl
  · simp only [h, if_false, not_false_eq_true, decide_true, Bool.true_and]
    exact hg
theorem balanced_both (s : ByteArray) (h40 : s.size ≤ 40) (d : Nat) : ∀ n : Nat, n + d = s.size → Ev (fun k => impl_IsBalanced.l0 k s (n : Int)) (balancedFrom s n d, true) ∧ Ev (fun k => spec_IsBalanced.l0 k s (n : Int)) (balancedFrom s n d, true) := by
  induction d with
  | zero =>
    intro n hn
    exact ⟨Ev.step (f := fun _ => some (true, true)) (fun k => by simp only [impl_IsBalanced.l0]; rw [if_neg (by omega)]) (Ev.is rfl), Ev.step (f := fun _ => some (true, true)) (fun k => by simp only [spec_IsBalanced.l0]; rw [if_neg (by omega)]) (Ev.is rfl)⟩
  | succ d ih =>
    intro n hn
    obtain ⟨i1, i2⟩ := ih (n + 1) (by omega)
    rw [balancedFrom]
    constructor
    · refine Ev.step (f := fun k => impl_IsBalanced.l1 k s (n : Int) (s.size : Int) 0 ((0 : Nat) : Int)) (fun k => ?_) (impl_inner s h40 n (by omega) _ (s.size + 1 - n) 0 (s.size : Int) 0 (by omega) (balanced_end s n (by omega) _ (by omega) (by omega) _ _ i1))
      simp only [impl_IsBalanced.l0]
      rw [if_pos (by omega)]
      rfl
    · refine Ev.step (f := fun k => spec_IsBalanced.l1 k s (n : Int) (n : Int) 0 ((0 : Nat) : Int)) (fun k => ?_) (spec_inner s h40 n (by omega) _ (s.size + 1 - n) 0 (n : Int) 0 (by omega) (balanced_end s n (by omega) _ (by omega) (by omega) _ _ i2))
      simp only [spec_IsBalanced.l0]
      rw [if_pos (by omega)]
      rfl
def isBal (s : ByteArray) : Bool × Bool := if isLet s then (balancedFrom s 1 (s.size - 1), true) else (false, false)
theorem isBalanced_both (s : ByteArray) : Ev (fun k => spec_IsBalanced.f k s) (isBal s) ∧ Ev (fun k => impl_IsBalanced.f k s) (isBal s) := by
  unfold spec_IsBalanced.f impl_IsBalanced.f isBal
  rw [impl_IsLetters_is]
  have hc := chLetters_ev s
  cases h : isLet s with
  | false =>
    rw [h] at hc
    constructor
    · refine Ev.bind hc ?_
      simp only [Bool.false_eq_true, if_false]
      exact Ev.is rfl
    · simp only [Option.bind_some, Bool.false_eq_true, if_false]
      exact Ev.is rfl
  | true =>
    rw [h] at hc
    obtain ⟨h1, h40, hl⟩ := isLet_iff.1 h
    obtain ⟨b1, b2⟩ := balanced_both s h40 (s.size - 1) 1 (by omega)
    constructor
    · refine Ev.bind hc ?_
      simp only [if_true]
      exact b2
    · simp only [Option.bind_some, if_true]
      exact b1
end Go.Proofs.Ytkphmbcoefkilaa.P
