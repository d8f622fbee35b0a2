/- RankOfWord: the program and the reference. -/
import Derived.Test.YtbpdjlpfmhanlaaUall
import Derived.Test.YtbpdjlpfmhanlaaPFspecRankOfWord
import Derived.Test.YtbpdjlpfmhanlaaPFimplRankOfWord
namespace Go.Proofs.Ytbpdjlpfmhanlaa.P
set_option linter.unusedVariables false
set_option linter.unusedSimpArgs false
open Go.RowKit Go.Proofs.YtbpdjlpfmhanlaaW.PrintWords Go.Proofs.YtbpdjlpfmhanlaaW.PrintLast Go.Proofs.YtbpdjlpfmhanlaaW.PrintMore

def pow3 : Nat → Int
  | 0 => 1
  | n + 1 => 3 * pow3 n
theorem pow3_pos (n : Nat) : 1 ≤ pow3 n := by
  induction n with
  | zero => simp [pow3]
  | succ n ih => simp only [pow3]; omega
theorem pow3_le {m n : Nat} (h : m ≤ n) : pow3 m ≤ pow3 n := by
  induction n with
  | zero =>
    have e : m = 0 := by omega
    rw [e]
    exact Int.le_refl _
  | succ n ih =>
    by_cases e : m = n + 1
    · subst e; exact Int.le_refl _
    · have := ih (by omega)
      have := pow3_pos n
      simp only [pow3]
      omega
theorem pow3_20 {n : Nat} (h : n ≤ 20) : pow3 n ≤ 3486784401 := Int.le_trans (pow3_le h) (by decide)
theorem riPower_from (n : Nat) (d : Nat) : ∀ (a : Nat), a + d = n → n ≤ 20 → Ev (fun k => spec_riPower.l0 k (d : Int) (pow3 a)) (pow3 n) := by
  induction d with
  | zero =>
    intro a ha hn
    obtain rfl : a = n := by omega
    refine Ev.step (fun k => by simp only [spec_riPower.l0]; rw [if_neg (by omega)]) (Ev.is rfl)
  | succ d ih =>
    intro a ha hn
    have hp := pow3_20 (n := a) (by omega)
    have hq := pow3_pos a
    have hw1 : wrap64 (((d + 1 : Nat) : Int) - 1) = (d : Int) := by rw [w64 (by omega) (by omega)]; omega
    have hw2 : wrap64 (pow3 a * 3) = pow3 (a + 1) := by rw [w64 (by omega) (by omega)]; simp only [pow3]; omega
    refine Ev.step (f := fun k => spec_riPower.l0 k (d : Int) (pow3 (a + 1))) (fun k => ?_) (ih (a + 1) (by omega) hn)
    simp only [spec_riPower.l0]
    rw [if_pos (by omega), hw1, hw2]
theorem riPower_ev (n : Nat) (h : n ≤ 20) : Ev (fun k => spec_riPower.f k (n : Int)) (pow3 n) := by
  unfold spec_riPower.f
  exact riPower_from n n 0 (by omega) h

/-- The value of a word in the numbers to three. -/
def val3 (v : Int) : List Int → Int
  | [] => v
  | x :: l => val3 (3 * v + x) l
/-- How many words are shorter. -/
def ones3 (s : Int) : Nat → Int
  | 0 => s
  | n + 1 => ones3 (3 * s + 1) n
theorem ones3_is (n : Nat) : ∀ (a : Nat), ones3 ((pow3 a - 1) / 2) n = (pow3 (a + n) - 1) / 2 := by
  induction n with
  | zero => intro a; rfl
  | succ n ih =>
    intro a
    have he : 3 * ((pow3 a - 1) / 2) + 1 = (pow3 (a + 1) - 1) / 2 := by
      have hodd : pow3 a % 2 = 1 := by
        induction a with
        | zero => rfl
        | succ a ih2 => simp only [pow3]; omega
      simp only [pow3]
      omega
    simp only [ones3]
    rw [he, ih (a + 1)]
    congr 3
    omega
theorem val3_specloop (l : List Int) (s : Int) (hs0 : 0 ≤ s) (hs1 : s ≤ 3486784401) (hn : l.length ≤ 18) (hw : l.all (inB 0 2) = true) (e : Nat) : ∀ (i : Nat) (v : Int), i + e = l.length → 0 ≤ v → v < pow3 i →
    Ev (fun k => spec_RankOfWord.l0 k s v l (l.length : Int) (i : Int)) (s + val3 v (l.drop i), true) := by
  induction e with
  | zero =>
    intro i v hi h1 h2
    have hp := pow3_20 (n := i) (by omega)
    rw [List.drop_eq_nil_of_le (by omega)]
    refine Ev.step (f := fun _ => some (s + v, true)) (fun k => ?_) (Ev.is rfl)
    simp only [spec_RankOfWord.l0]
    rw [if_neg (by omega), w64 (by omega) (by omega)]
  | succ e ih =>
    intro i v hi h1 h2
    have hp := pow3_20 (n := i) (by omega)
    have hx : inB 0 2 (rd l (i : Int)) = true := by
      rw [rd_lt l i (by omega)]
      exact List.all_eq_true.1 hw _ (List.getElem_mem _)
    have hb : 0 ≤ rd l (i : Int) ∧ rd l (i : Int) ≤ 2 := by simpa [inB] using hx
    have hw1 : wrap64 (3 * v) = 3 * v := w64 (by omega) (by omega)
    have hw2 : wrap64 (3 * v + rd l (i : Int)) = 3 * v + rd l (i : Int) := w64 (by omega) (by omega)
    rw [rd_drop l i (by omega)]
    refine Ev.step (f := fun k => spec_RankOfWord.l0 k s (3 * v + rd l (i : Int)) l (l.length : Int) ((i + 1 : Nat) : Int)) (fun k => ?_) (ih (i + 1) _ (by omega) (by omega) (by simp only [pow3]; omega))
    simp only [spec_RankOfWord.l0]
    rw [if_pos (by omega), if_pos (by omega), if_pos (by omega), w64_succ (n := l.length) (by omega) (by omega), hw1, hw2]
theorem val3_implloop (l : List Int) (hn : l.length ≤ 18) (hw : l.all (inB 0 2) = true) (e : Nat) : ∀ (i : Nat) (v : Int), i + e = l.length → 0 ≤ v → v < pow3 i →
    Ev (fun k => impl_RankOfWord.l0 k ((pow3 i - 1) / 2) v l (l.length : Int) (i : Int)) ((pow3 l.length - 1) / 2 + val3 v (l.drop i), true) := by
  induction e with
  | zero =>
    intro i v hi h1 h2
    obtain rfl : i = l.length := by omega
    have hp := pow3_20 (n := l.length) (by omega)
    have hq := pow3_pos l.length
    rw [List.drop_eq_nil_of_le (by omega)]
    refine Ev.step (f := fun _ => some ((pow3 l.length - 1) / 2 + v, true)) (fun k => ?_) (Ev.is rfl)
    simp only [impl_RankOfWord.l0]
    rw [if_neg (by omega), w64 (by omega) (by omega)]
  | succ e ih =>
    intro i v hi h1 h2
    have hp := pow3_20 (n := i) (by omega)
    have hq := pow3_pos i
    have hx : inB 0 2 (rd l (i : Int)) = true := by
      rw [rd_lt l i (by omega)]
      exact List.all_eq_true.1 hw _ (List.getElem_mem _)
    have hb : 0 ≤ rd l (i : Int) ∧ rd l (i : Int) ≤ 2 := by simpa [inB] using hx
    have hw1 : wrap64 (3 * v) = 3 * v := w64 (by omega) (by omega)
    have hw2 : wrap64 (3 * v + rd l (i : Int)) = 3 * v + rd l (i : Int) := w64 (by omega) (by omega)
    have hs := ones3_is 1 i
    simp only [ones3] at hs
    have hw3 : wrap64 (3 * ((pow3 i - 1) / 2)) = 3 * ((pow3 i - 1) / 2) := w64 (by omega) (by omega)
    have hw4 : wrap64 (3 * ((pow3 i - 1) / 2) + 1) = (pow3 (i + 1) - 1) / 2 := by rw [w64 (by omega) (by omega)]; exact hs
    rw [rd_drop l i (by omega)]
    refine Ev.step (f := fun k => impl_RankOfWord.l0 k ((pow3 (i + 1) - 1) / 2) (3 * v + rd l (i : Int)) l (l.length : Int) ((i + 1 : Nat) : Int)) (fun k => ?_) (ih (i + 1) _ (by omega) (by omega) (by simp only [pow3]; omega))
    simp only [impl_RankOfWord.l0]
    rw [if_pos (by omega), if_pos (by omega), if_pos (by omega), w64_succ (n := l.length) (by omega) (by omega), hw1, hw2, hw3, hw4]
def rankOf (l : List Int) : Int × Bool := if l.length ≤ 18 ∧ l.all (inB 0 2) = true then ((pow3 l.length - 1) / 2 + val3 0 l, true) else (0, false)
theorem RankOfWord_both (l : List Int) (hn : l.length ≤ 4611686018427387904) : Ev (fun k => spec_RankOfWord.f k l) (rankOf l) ∧ Ev (fun k => impl_RankOfWord.f k l) (rankOf l) := by
  unfold spec_RankOfWord.f impl_RankOfWord.f impl_isPath.f rankOf impl_allWithin.f
  by_cases h : l.length ≤ 18
  · have h' : ¬ (l.length : Int) > 18 := by omega
    have h'' : (l.length : Int) ≤ 18 := by omega
    have hp := pow3_20 (n := l.length) (by omega)
    have hq := pow3_pos l.length
    cases hw : l.all (inB 0 2) with
    | true =>
      have hw1 : wrap64 (pow3 l.length - 1) = pow3 l.length - 1 := w64 (by omega) (by omega)
      have hw2 : wrap64 (Int.tdiv (pow3 l.length - 1) 2) = (pow3 l.length - 1) / 2 := by rw [Int.tdiv_eq_ediv_of_nonneg (by omega)]; exact w64 (by omega) (by omega)
      simp only [h', h'', h, if_false, and_self, if_true, Option.bind_some]
      constructor
      · refine Ev.bind (l1All_ev l _ _ hn) ?_
        rw [hw]
        refine Ev.step (fun k => by simp only [spec_RankOfWord.j0, Bool.not_true, Bool.false_eq_true, if_false]; rfl) ?_
        refine Ev.bind (riPower_ev l.length (by omega)) ?_
        simp only [hw1, hw2]
        exact val3_specloop l _ (by omega) (by omega) h hw l.length 0 0 (by omega) (by omega) (by decide)
      · exact val3_implloop l h hw l.length 0 0 (by omega) (by omega) (by decide)
    | false =>
      simp only [h', h'', h, if_false, Bool.false_eq_true, and_false, if_true, Option.bind_some]
      constructor
      · refine Ev.bind (l1All_ev l _ _ hn) ?_
        rw [hw]
        exact Ev.step (f := fun _ => some (0, false)) (fun k => by simp only [spec_RankOfWord.j0, Bool.not_false, if_true]) (Ev.is rfl)
      · exact Ev.is rfl
  · have h' : (l.length : Int) > 18 := by omega
    have h'' : ¬ (l.length : Int) ≤ 18 := by omega
    simp only [h', h'', h, if_true, false_and, if_false, Option.bind_some, Bool.false_eq_true]
    exact ⟨Ev.step (f := fun _ => some (0, false)) (fun k => by simp only [spec_RankOfWord.j0, if_true]) (Ev.is rfl), Ev.is rfl⟩
end Go.Proofs.Ytbpdjlpfmhanlaa.P
