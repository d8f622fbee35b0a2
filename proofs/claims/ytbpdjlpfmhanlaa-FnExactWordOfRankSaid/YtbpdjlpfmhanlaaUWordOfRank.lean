/- WordOfRank: the program and the reference. -/
import Derived.Test.YtbpdjlpfmhanlaaURankOfWord
import Derived.Test.YtbpdjlpfmhanlaaPFspecWordOfRank
import Derived.Test.YtbpdjlpfmhanlaaPFimplWordOfRank
namespace Go.Proofs.Ytbpdjlpfmhanlaa.P
set_option linter.unusedVariables false
set_option linter.unusedSimpArgs false
open Go.RowKit Go.Proofs.YtbpdjlpfmhanlaaW.PrintWords Go.Proofs.YtbpdjlpfmhanlaaW.PrintLast Go.Proofs.YtbpdjlpfmhanlaaW.PrintMore

/-- How many words are shorter than n. -/
def cnt3 (n : Nat) : Int := (pow3 n - 1) / 2
theorem pow3_odd (a : Nat) : pow3 a % 2 = 1 := by
  induction a with
  | zero => rfl
  | succ a ih2 => simp only [pow3]; omega
theorem cnt3_succ (n : Nat) : cnt3 (n + 1) = cnt3 n + pow3 n := by
  have := pow3_odd n
  unfold cnt3
  simp only [pow3]
  omega
theorem cnt3_nonneg (n : Nat) : 0 ≤ cnt3 n := by have := pow3_pos n; unfold cnt3; omega
theorem cnt3_le {n : Nat} (h : n ≤ 20) : cnt3 n ≤ 1743392200 := by have := pow3_20 h; unfold cnt3; omega
theorem cnt3_mono {m n : Nat} (h : m ≤ n) : cnt3 m ≤ cnt3 n := by have := pow3_le h; unfold cnt3; omega
/-- The digits to three, from the last one on, put into a list. -/
def digs (r : Int) (x : List Int) : Nat → List Int
  | 0 => x
  | i + 1 => digs (r / 3) (x.set i (r % 3)) i
theorem digs_spec (n : Nat) (hn : n ≤ 18) : ∀ (i : Nat) (r : Int) (x : List Int), i ≤ n → x.length = n → 0 ≤ r → r ≤ 9223372036854775807 → Ev (fun k => spec_WordOfRank.l1 k r x ((i : Int) - 1)) (digs r x i, true) := by
  intro i
  induction i with
  | zero =>
    intro r x hi hx h0 h1
    refine Ev.step (f := fun _ => some (x, true)) (fun k => ?_) (Ev.is rfl)
    simp only [spec_WordOfRank.l1]
    rw [if_neg (by omega)]
  | succ i ih =>
    intro r x hi hx h0 h1
    have t1 : Int.tdiv r 3 = r / 3 := Int.tdiv_eq_ediv_of_nonneg h0
    have t2 : Int.tmod r 3 = r % 3 := Int.tmod_eq_emod_of_nonneg h0
    have w1 : wrap64 (r / 3) = r / 3 := w64 (by omega) (by omega)
    have e1 : ((i + 1 : Nat) : Int) - 1 = (i : Int) := by omega
    have w2 : wrap64 ((i : Int) - 1) = (i : Int) - 1 := w64 (by omega) (by omega)
    refine Ev.step (f := fun k => spec_WordOfRank.l1 k (r / 3) (x.set i (r % 3)) ((i : Int) - 1)) (fun k => ?_) (ih (r / 3) _ (by omega) (by rw [List.length_set]; exact hx) (by omega) (by omega))
    simp only [spec_WordOfRank.l1]
    rw [e1, if_pos (by omega), if_pos (by omega), if_pos (by omega), t1, t2, w1, w2, Int.toNat_natCast]
theorem digs_impl (n : Nat) (hn : n ≤ 18) : ∀ (i : Nat) (r : Int) (x : List Int), i ≤ n → x.length = n → 0 ≤ r → r ≤ 9223372036854775807 → Ev (fun k => impl_WordOfRank.l1 k r x ((i : Int) - 1)) (digs r x i, true) := by
  intro i
  induction i with
  | zero =>
    intro r x hi hx h0 h1
    refine Ev.step (f := fun _ => some (x, true)) (fun k => ?_) (Ev.is rfl)
    simp only [impl_WordOfRank.l1]
    rw [if_neg (by omega)]
  | succ i ih =>
    intro r x hi hx h0 h1
    have t1 : Int.tdiv r 3 = r / 3 := Int.tdiv_eq_ediv_of_nonneg h0
    have t2 : Int.tmod r 3 = r % 3 := Int.tmod_eq_emod_of_nonneg h0
    have w1 : wrap64 (r / 3) = r / 3 := w64 (by omega) (by omega)
    have e1 : ((i + 1 : Nat) : Int) - 1 = (i : Int) := by omega
    have w2 : wrap64 ((i : Int) - 1) = (i : Int) - 1 := w64 (by omega) (by omega)
    refine Ev.step (f := fun k => impl_WordOfRank.l1 k (r / 3) (x.set i (r % 3)) ((i : Int) - 1)) (fun k => ?_) (ih (r / 3) _ (by omega) (by rw [List.length_set]; exact hx) (by omega) (by omega))
    simp only [impl_WordOfRank.l1]
    rw [e1, if_pos (by omega), if_pos (by omega), if_pos (by omega), t1, t2, w1, w2, Int.toNat_natCast]
/-- The word with a rank, n letters long. -/
def wordAt (r : Int) (n : Nat) : List Int := digs (r - cnt3 n) (List.replicate n 0) n
theorem digs_length : ∀ (i : Nat) (r : Int) (x : List Int), (digs r x i).length = x.length := by
  intro i
  induction i with
  | zero => intro r x; rfl
  | succ i ih => intro r x; simp only [digs]; rw [ih, List.length_set]
theorem half3 (n : Nat) (h : n ≤ 20) : wrap64 (Int.tdiv (wrap64 (pow3 n - 1)) 2) = cnt3 n := by
  have h1 := pow3_pos n
  have h2 := pow3_20 h
  rw [w64 (x := pow3 n - 1) (by omega) (by omega), Int.tdiv_eq_ediv_of_nonneg (by omega)]
  exact w64 (by omega) (by omega)
theorem spec_word (N : Nat) (hN : N ≤ 18) (r : Int) (h0 : 0 ≤ r) (h1 : r < cnt3 (N + 1)) (d : Nat) : ∀ n : Nat, n + d = N → cnt3 n ≤ r → ∃ m : Nat, m ≤ N ∧ cnt3 m ≤ r ∧ r < cnt3 (m + 1) ∧ Ev (fun k => spec_WordOfRank.l0 k r (n : Int)) (wordAt r m, true) := by
  have hc19 := cnt3_le (n := N + 1) (by omega)
  induction d with
  | zero =>
    intro n hn hle
    obtain rfl : n = N := by omega
    refine ⟨n, by omega, hle, h1, ?_⟩
    have hw : wrap64 ((n : Int) + 1) = ((n + 1 : Nat) : Int) := by rw [w64 (by omega) (by omega)]; omega
    have hw2 : wrap64 ((n : Int) - 1) = (n : Int) - 1 := w64 (by omega) (by omega)
    have hc := cnt3_nonneg n
    have hw3 : wrap64 (r - cnt3 n) = r - cnt3 n := w64 (by omega) (by omega)
    refine Ev.step (f := fun k => (spec_riPower.f k ((n + 1 : Nat) : Int)).bind fun t148 => (if (wrap64 (Int.tdiv (wrap64 (t148 - 1)) 2)) ≤ r then (spec_WordOfRank.l0 k r ((n + 1 : Nat) : Int)) else ((spec_riPower.f k (n : Int)).bind fun t149 => (if 0 ≤ (n : Int) then (if ((n : Int) : Int).toNat ≤ 35184372088832 then (spec_WordOfRank.l1 k (wrap64 (r - (wrap64 (Int.tdiv (wrap64 (t149 - 1)) 2)))) (List.replicate ((n : Int) : Int).toNat 0) (wrap64 ((n : Int) - 1))) else (none)) else (none))))) (fun k => ?_) ?_
    · simp only [spec_WordOfRank.l0, hw]
    · refine Ev.bind (riPower_ev (n + 1) (by omega)) ?_
      have hn19 : ¬ cnt3 (n + 1) ≤ r := by omega
      simp only [half3 (n + 1) (by omega), hn19, if_false]
      refine Ev.bind (riPower_ev n (by omega)) ?_
      simp only [half3 n (by omega), hw2, hw3]
      have e1 : (0 : Int) ≤ (n : Int) := by omega
      have e2 : (n : Int).toNat ≤ 35184372088832 := by omega
      simp only [e1, e2, if_true]
      rw [Int.toNat_natCast]
      exact digs_spec n (by omega) n _ _ (by omega) (by simp) (by omega) (by omega)
  | succ d ih =>
    intro n hn hle
    have hw : wrap64 ((n : Int) + 1) = ((n + 1 : Nat) : Int) := by rw [w64 (by omega) (by omega)]; omega
    by_cases hc : cnt3 (n + 1) ≤ r
    · obtain ⟨m, m1, m2, m3, m4⟩ := ih (n + 1) (by omega) hc
      refine ⟨m, m1, m2, m3, ?_⟩
      refine Ev.step (f := fun k => (spec_riPower.f k ((n + 1 : Nat) : Int)).bind fun t148 => (if (wrap64 (Int.tdiv (wrap64 (t148 - 1)) 2)) ≤ r then (spec_WordOfRank.l0 k r ((n + 1 : Nat) : Int)) else ((spec_riPower.f k (n : Int)).bind fun t149 => (if 0 ≤ (n : Int) then (if ((n : Int) : Int).toNat ≤ 35184372088832 then (spec_WordOfRank.l1 k (wrap64 (r - (wrap64 (Int.tdiv (wrap64 (t149 - 1)) 2)))) (List.replicate ((n : Int) : Int).toNat 0) (wrap64 ((n : Int) - 1))) else (none)) else (none))))) (fun k => ?_) ?_
      · simp only [spec_WordOfRank.l0, hw]
      · refine Ev.bind (riPower_ev (n + 1) (by omega)) ?_
        simp only [half3 (n + 1) (by omega), hc, if_true]
        exact m4
    · refine ⟨n, by omega, hle, by omega, ?_⟩
      have hc0 := cnt3_nonneg n
      have hw2 : wrap64 ((n : Int) - 1) = (n : Int) - 1 := w64 (by omega) (by omega)
      have hw3 : wrap64 (r - cnt3 n) = r - cnt3 n := w64 (by omega) (by omega)
      refine Ev.step (f := fun k => (spec_riPower.f k ((n + 1 : Nat) : Int)).bind fun t148 => (if (wrap64 (Int.tdiv (wrap64 (t148 - 1)) 2)) ≤ r then (spec_WordOfRank.l0 k r ((n + 1 : Nat) : Int)) else ((spec_riPower.f k (n : Int)).bind fun t149 => (if 0 ≤ (n : Int) then (if ((n : Int) : Int).toNat ≤ 35184372088832 then (spec_WordOfRank.l1 k (wrap64 (r - (wrap64 (Int.tdiv (wrap64 (t149 - 1)) 2)))) (List.replicate ((n : Int) : Int).toNat 0) (wrap64 ((n : Int) - 1))) else (none)) else (none))))) (fun k => ?_) ?_
      · simp only [spec_WordOfRank.l0, hw]
      · refine Ev.bind (riPower_ev (n + 1) (by omega)) ?_
        simp only [half3 (n + 1) (by omega), hc, if_false]
        refine Ev.bind (riPower_ev n (by omega)) ?_
        simp only [half3 n (by omega), hw2, hw3]
        have e1 : (0 : Int) ≤ (n : Int) := by omega
        have e2 : (n : Int).toNat ≤ 35184372088832 := by omega
        simp only [e1, e2, if_true]
        rw [Int.toNat_natCast]
        exact digs_spec n (by omega) n _ _ (by omega) (by simp) (by omega) (by omega)
theorem impl_word (N : Nat) (hN : N ≤ 18) (r : Int) (h1 : r < cnt3 (N + 1)) (d : Nat) : ∀ n : Nat, n + d = N → cnt3 n ≤ r → ∃ m : Nat, m ≤ N ∧ cnt3 m ≤ r ∧ r < cnt3 (m + 1) ∧ Ev (fun k => impl_WordOfRank.l0 k (r - cnt3 n) (n : Int) (pow3 n)) (wordAt r m, true) := by
  have hc19 := cnt3_le (n := N + 1) (by omega)
  have fin : ∀ m : Nat, m ≤ 18 → cnt3 m ≤ r → Ev (fun k => impl_WordOfRank.j1 k (r - cnt3 m) (m : Int)) (wordAt r m, true) := by
    intro m hm hc
    have hc0 := cnt3_nonneg m
    have hw2 : wrap64 ((m : Int) - 1) = (m : Int) - 1 := w64 (by omega) (by omega)
    refine Ev.step (f := fun k => impl_WordOfRank.j2 k (r - cnt3 m) (m : Int) false) (fun k => ?_) (Ev.step (f := fun k => impl_WordOfRank.l1 k (r - cnt3 m) (List.replicate m 0) ((m : Int) - 1)) (fun k => ?_) ?_)
    · simp only [impl_WordOfRank.j1]
      rw [if_neg (by omega), decide_eq_false (by omega)]
    · simp only [impl_WordOfRank.j2]
      rw [if_neg (by simp), if_pos (by omega), if_pos (by omega), hw2, Int.toNat_natCast]
    · exact digs_impl m hm m _ _ (by omega) (by simp) (by omega) (by omega)
  induction d with
  | zero =>
    intro n hn hle
    obtain rfl : n = N := by omega
    refine ⟨n, by omega, hle, h1, ?_⟩
    have hs := cnt3_succ n
    refine Ev.step (f := fun k => impl_WordOfRank.j1 k (r - cnt3 n) (n : Int)) (fun k => ?_) (fin n (by omega) hle)
    simp only [impl_WordOfRank.l0]
    rw [if_neg (by omega)]
  | succ d ih =>
    intro n hn hle
    have hs := cnt3_succ n
    by_cases hc : cnt3 (n + 1) ≤ r
    · obtain ⟨m, m1, m2, m3, m4⟩ := ih (n + 1) (by omega) hc
      refine ⟨m, m1, m2, m3, ?_⟩
      have hc0 := cnt3_nonneg n
      have hp := pow3_pos n
      have hp2 := pow3_20 (n := n) (by omega)
      have c1 : r - cnt3 n ≥ pow3 n := by omega
      have c2 : (n : Int) ≤ 18 := by omega
      have w1 : wrap64 (r - cnt3 n - pow3 n) = r - cnt3 (n + 1) := by rw [w64 (by omega) (by omega)]; omega
      have w2 : wrap64 ((n : Int) + 1) = ((n + 1 : Nat) : Int) := by rw [w64 (by omega) (by omega)]; omega
      have w3 : wrap64 (pow3 n * 3) = pow3 (n + 1) := by rw [w64 (by omega) (by omega)]; simp only [pow3]; omega
      refine Ev.step (f := fun k => impl_WordOfRank.l0 k (r - cnt3 (n + 1)) ((n + 1 : Nat) : Int) (pow3 (n + 1))) (fun k => ?_) m4
      simp only [impl_WordOfRank.l0]
      rw [if_pos c1, if_pos c2, w1, w2, w3]
    · refine ⟨n, by omega, hle, by omega, ?_⟩
      refine Ev.step (f := fun k => impl_WordOfRank.j1 k (r - cnt3 n) (n : Int)) (fun k => ?_) (fin n (by omega) hle)
      simp only [impl_WordOfRank.l0]
      rw [if_neg (by omega)]
theorem impl_word_far (N : Nat) (hN : N = 19) (d : Nat) : ∀ (n : Nat) (r : Int), n + d = N → cnt3 N ≤ r + cnt3 n → r ≤ 9223372036854775807 → 0 ≤ r → Ev (fun k => impl_WordOfRank.l0 k r (n : Int) (pow3 n)) ([], false) := by
  have fin : ∀ r : Int, 0 ≤ r → Ev (fun k => impl_WordOfRank.j1 k r (N : Int)) ([], false) := by
    intro r h0
    refine Ev.step (f := fun k => impl_WordOfRank.j2 k r (N : Int) true) (fun k => ?_) (Ev.step (f := fun _ => some ([], false)) (fun k => ?_) (Ev.is rfl))
    · simp only [impl_WordOfRank.j1]
      rw [if_neg (by omega), decide_eq_true (by omega)]
    · simp only [impl_WordOfRank.j2, if_true]
  induction d with
  | zero =>
    intro n r hn hc h2 h0
    obtain rfl : n = N := by omega
    refine Ev.step (f := fun k => impl_WordOfRank.j1 k r (n : Int)) (fun k => ?_) (fin r h0)
    simp only [impl_WordOfRank.l0]
    by_cases h : r ≥ pow3 n
    · rw [if_pos h, if_neg (by omega)]
    · rw [if_neg h]
  | succ d ih =>
    intro n r hn hc h2 h0
    have hs := cnt3_succ n
    have hm := cnt3_mono (m := n + 1) (n := N) (by omega)
    have hp := pow3_pos n
    have hp2 := pow3_20 (n := n) (by omega)
    have c1 : r ≥ pow3 n := by omega
    have c2 : (n : Int) ≤ 18 := by omega
    have w1 : wrap64 (r - pow3 n) = r - pow3 n := w64 (by omega) (by omega)
    have w2 : wrap64 ((n : Int) + 1) = ((n + 1 : Nat) : Int) := by rw [w64 (by omega) (by omega)]; omega
    have w3 : wrap64 (pow3 n * 3) = pow3 (n + 1) := by rw [w64 (by omega) (by omega)]; simp only [pow3]; omega
    refine Ev.step (f := fun k => impl_WordOfRank.l0 k (r - pow3 n) ((n + 1 : Nat) : Int) (pow3 (n + 1))) (fun k => ?_) (ih (n + 1) (r - pow3 n) (by omega) (by omega) (by omega) (by omega))
    simp only [impl_WordOfRank.l0]
    rw [if_pos c1, if_pos c2, w1, w2, w3]
theorem one_length {r : Int} {m n : Nat} (h1 : cnt3 m ≤ r) (h2 : r < cnt3 (m + 1)) (h3 : cnt3 n ≤ r) (h4 : r < cnt3 (n + 1)) : m = n := by
  rcases Nat.lt_trichotomy m n with h | h | h
  · have := cnt3_mono (m := m + 1) (n := n) (by omega); omega
  · exact h
  · have := cnt3_mono (m := n + 1) (n := m) (by omega); omega
theorem WordOfRank_both (r : Int) (h1 : -9223372036854775808 ≤ r) (h2 : r ≤ 9223372036854775807) : ∃ w : List Int × Bool, w.1.length ≤ 18 ∧ Ev (fun k => spec_WordOfRank.f k r) w ∧ Ev (fun k => impl_WordOfRank.f k r) w := by
  unfold spec_WordOfRank.f impl_WordOfRank.f
  have hp := riPower_ev 19 (by omega)
  have c0 : cnt3 0 = 0 := rfl
  have hc19 := cnt3_le (n := 19) (by omega)
  by_cases h0 : r < 0
  · simp only [h0, if_true]
    refine ⟨([], false), by simp, Ev.step (f := fun _ => some ([], false)) (fun k => by simp only [spec_WordOfRank.j0, if_true]) (Ev.is rfl), ?_⟩
    refine Ev.step (f := fun k => impl_WordOfRank.j1 k r 0) (fun k => ?_) (Ev.step (f := fun k => impl_WordOfRank.j2 k r 0 true) (fun k => ?_) (Ev.step (f := fun _ => some ([], false)) (fun k => ?_) (Ev.is rfl)))
    · simp only [impl_WordOfRank.l0]
      rw [if_neg (by omega)]
    · simp only [impl_WordOfRank.j1]
      rw [if_pos h0]
    · simp only [impl_WordOfRank.j2, if_true]
  · simp only [h0, if_false]
    by_cases h3 : r < cnt3 19
    · obtain ⟨m, m1, m2, m3, m4⟩ := spec_word 18 (by omega) r (by omega) h3 18 0 (by omega) (by rw [c0]; omega)
      obtain ⟨n, n1, n2, n3, n4⟩ := impl_word 18 (by omega) r h3 18 0 (by omega) (by rw [c0]; omega)
      obtain rfl := one_length m2 m3 n2 n3
      refine ⟨(wordAt r m, true), by unfold wordAt; rw [digs_length]; simp; omega, ?_, ?_⟩
      · refine Ev.bind (g := fun k => spec_riPower.f k 19) hp ?_
        rw [half3 19 (by omega)]
        have hd : decide (r ≥ cnt3 19) = false := decide_eq_false (by omega)
        rw [hd]
        exact Ev.step (fun k => by simp only [spec_WordOfRank.j0, Bool.false_eq_true, if_false]; rfl) m4
      · have e : r - cnt3 0 = r := by rw [c0]; omega
        rw [e] at n4
        exact n4
    · refine ⟨([], false), by simp, ?_, impl_word_far 19 rfl 19 0 r (by omega) (by rw [c0]; omega) h2 (by omega)⟩
      refine Ev.bind (g := fun k => spec_riPower.f k 19) hp ?_
      rw [half3 19 (by omega)]
      have hd : decide (r ≥ cnt3 19) = true := decide_eq_true (by omega)
      rw [hd]
      exact Ev.step (f := fun _ => some ([], false)) (fun k => by simp only [spec_WordOfRank.j0, if_true]) (Ev.is rfl)
end Go.Proofs.Ytbpdjlpfmhanlaa.P
