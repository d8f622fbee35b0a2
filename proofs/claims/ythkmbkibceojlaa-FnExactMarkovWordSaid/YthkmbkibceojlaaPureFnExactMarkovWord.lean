/- MarkovWord answers what the reference answers, for every list. No condition. -/
import Derived.Test.YthkmbkibceojlaaPFFnExactMarkovWord
import Derived.Test.YthkmbkibceojlaaUmkPath
import Derived.Test.YthkmbkibceojlaaUrevB
import Derived.Test.YthkmbkibceojlaaUtoIntS
import Derived.Test.YthkmbkibceojlaaUeqIntS
namespace Go.Proofs.Ythkmbkibceojlaa.Pure
set_option linter.unusedVariables false
set_option linter.unusedSimpArgs false
open Go.RowKit Go.Proofs.Ythkmbkibceojlaa.P Go.Proofs.YthkmbkibceojlaaW.PrintWords Go.Proofs.YthkmbkibceojlaaW.PrintLast
theorem strOfNums_append (xs ys : List Int) : strOfNums xs ++ strOfNums ys = strOfNums (xs ++ ys) := by
  unfold strOfNums
  apply ByteArray.ext
  simp
theorem strOfNums_size (xs : List Int) : (strOfNums xs).size = xs.length := by
  unfold strOfNums
  simp [ByteArray.size]
/-- The letter of a step. -/
def letter (u v : List Int) : Int := if rd u 0 = rd v 0 then 108 else 114
def bits : Nat → List Int → List Int
  | 0, _ => []
  | d + 1, l => if rd l 2 > 5 then letter (dn l) l :: bits d (dn l) else []
theorem small_triples : ∀ x y z : Fin 6, isMk [((x.val : Nat) : Int), ((y.val : Nat) : Int), ((z.val : Nat) : Int)] = true → (x.val, y.val, z.val) = (1, 1, 1) ∨ (x.val, y.val, z.val) = (1, 1, 2) ∨ (x.val, y.val, z.val) = (1, 2, 5) := by decide +kernel
theorem small {l : List Int} (h : isMk l = true) (hz : rd l 2 ≤ 5) : l = [1, 1, 1] ∨ l = [1, 1, 2] ∨ l = [1, 2, 5] := by
  obtain ⟨x, y, z, rfl⟩ := mk_three h
  obtain ⟨h1, h2, h3, h4, h5, h6⟩ := isMk_iff.1 h
  have hz2 : z ≤ 5 := hz
  have ex : ((x.toNat : Nat) : Int) = x := by omega
  have ey : ((y.toNat : Nat) : Int) = y := by omega
  have ez : ((z.toNat : Nat) : Int) = z := by omega
  have hs := small_triples ⟨x.toNat, by omega⟩ ⟨y.toNat, by omega⟩ ⟨z.toNat, by omega⟩ (by simp only [ex, ey, ez]; exact h)
  simp only [Prod.mk.injEq] at hs
  rcases hs with ⟨a, b, c⟩ | ⟨a, b, c⟩ | ⟨a, b, c⟩
  · have : x = 1 := by omega
    have : y = 1 := by omega
    have : z = 1 := by omega
    subst_vars; exact .inl rfl
  · have : x = 1 := by omega
    have : y = 1 := by omega
    have : z = 2 := by omega
    subst_vars; exact .inr (.inl rfl)
  · have : x = 1 := by omega
    have : y = 2 := by omega
    have : z = 5 := by omega
    subst_vars; exact .inr (.inr rfl)
theorem srt_mem (a b c : Int) : a ≤ hi2 a (hi2 b c) ∧ b ≤ hi2 a (hi2 b c) ∧ c ≤ hi2 a (hi2 b c) := by
  unfold hi2
  split <;> split <;> omega
theorem srt_sum (a b c : Int) : rd (srt a b c) 0 + rd (srt a b c) 1 + rd (srt a b c) 2 = a + b + c := by
  show lo2 a (lo2 b c) + (a + b + c - lo2 a (lo2 b c) - hi2 a (hi2 b c)) + hi2 a (hi2 b c) = _
  omega
/-- Above 1 2 5 the triple below is at least 1 2 5. -/
theorem dn_five {l : List Int} (h : isMk l = true) (hz : 5 < rd l 2) : 5 ≤ rd (dn l) 2 := by
  obtain ⟨x, y, z, rfl⟩ := mk_three h
  obtain ⟨h1, h2, h3, h4, h5, h6⟩ := isMk_iff.1 h
  have hz2 : 5 < z := hz
  have hg := (dn_good h (by omega)).1
  have ho := other_root h1 h2 h3 h6
  rcases Int.lt_or_le (rd (dn [x, y, z]) 2) 5 with h7 | h7
  · have hm := srt_mem x y (3 * x * y - z)
    have hs := srt_sum x y (3 * x * y - z)
    have he : dn [x, y, z] = srt x y (3 * x * y - z) := rfl
    rw [he] at h7 hg
    have e2 : rd (srt x y (3 * x * y - z)) 2 = hi2 x (hi2 y (3 * x * y - z)) := rfl
    rw [← e2] at hm
    rcases small hg (by omega) with e | e | e
    · rw [e] at hm hs
      have q : rd [1, 1, 1] 2 = 1 := rfl
      rw [q] at hm
      have : x = 1 := by omega
      have : y = 1 := by omega
      subst_vars
      omega
    · rw [e] at hm hs
      have q0 : rd [1, 1, 2] 0 = 1 := rfl
      have q1 : rd [1, 1, 2] 1 = 1 := rfl
      have q : rd [1, 1, 2] 2 = 2 := rfl
      rw [q] at hm
      rw [q0, q1, q] at hs
      have hx : x = 1 ∨ x = 2 := by omega
      have hy : y = 1 ∨ y = 2 := by omega
      rcases hx with rfl | rfl <;> rcases hy with rfl | rfl <;> omega
    · rw [e] at h7
      have q : rd [1, 2, 5] 2 = 5 := rfl
      omega
  · exact h7
theorem path_five (d : Nat) (hd : 2 ≤ d) : mkp d [1, 2, 5] = [[1, 2, 5], [1, 1, 2], [1, 1, 1]] := by
  obtain ⟨e, rfl⟩ : ∃ e, d = e + 2 := ⟨d - 2, by omega⟩
  have d1 : dn [1, 2, 5] = [1, 1, 2] := by decide +kernel
  have d2 : dn [1, 1, 2] = [1, 1, 1] := by decide +kernel
  have r1 : rd [1, 2, 5] 2 > 1 := by decide
  have r2 : rd [1, 1, 2] 2 > 1 := by decide
  have r3 : ¬ rd [1, 1, 1] 2 > 1 := by decide
  rw [mkp, if_pos r1, d1, mkp, if_pos r2, d2]
  cases e with
  | zero => rfl
  | succ e => rw [mkp, if_neg r3]
theorem path_bits (d : Nat) : ∀ l, isMk l = true → 5 ≤ rd l 2 → rd l 2 ≤ d → (mkp d l).length = (bits d l).length + 3 ∧ ∀ k, k < (bits d l).length → (bits d l)[k]? = some (letter (rd_L1 (mkp d l) ((k + 1 : Nat) : Int)) (rd_L1 (mkp d l) (k : Int))) := by
  induction d with
  | zero => intro l h h5 hd; omega
  | succ d ih =>
    intro l h h5 hd
    rw [bits]
    by_cases hz : rd l 2 > 5
    · obtain ⟨g1, g2⟩ := dn_good h (by omega)
      obtain ⟨r1, r2⟩ := ih (dn l) g1 (dn_five h hz) (by omega)
      have hp : mkp (d + 1) l = l :: mkp d (dn l) := by rw [mkp, if_pos (by omega)]
      rw [if_pos hz, hp]
      refine ⟨by simp only [List.length_cons]; omega, fun k hk => ?_⟩
      have hrd : ∀ j : Nat, rd_L1 (l :: mkp d (dn l)) ((j + 1 : Nat) : Int) = rd_L1 (mkp d (dn l)) (j : Int) := by
        intro j
        unfold rd_L1
        rw [Int.toNat_natCast, Int.toNat_natCast, List.getD_cons_succ]
      cases k with
      | zero =>
        have h0 := mkp_head d (dn l)
        rw [hrd 0]
        have e1 : rd_L1 (mkp d (dn l)) ((0 : Nat) : Int) = dn l := by
          unfold rd_L1
          rw [Int.toNat_natCast, List.getD_eq_getElem?_getD, h0]
          rfl
        rw [e1]
        rfl
      | succ k =>
        rw [List.getElem?_cons_succ, hrd (k + 1), hrd k]
        exact r2 k (by simpa using hk)
    · have hs : rd l 2 ≤ 5 := by omega
      rcases small h hs with rfl | rfl | rfl
      · exact absurd h5 (by decide)
      · exact absurd h5 (by decide)
      · have q : rd [1, 2, 5] 2 = 5 := rfl
        rw [if_neg hz, path_five (d + 1) (by omega)]
        exact ⟨rfl, fun k hk => by simp at hk⟩
def told (s : List Int) : ByteArray × Bool := if s.length > 40 then ((⟨#[]⟩ : ByteArray), false) else (strOfNums s, true)
theorem impl_word (d : Nat) : ∀ (l s : List Int), isMk l = true → rd l 2 ≤ d → s.length + d ≤ 100000000000 → Ev (fun k => impl_MarkovWord.l0 k l s) (told (s ++ bits d l).reverse) := by
  induction d with
  | zero =>
    intro l s h hd hs
    have := (mk_pos h).1
    omega
  | succ d ih =>
    intro l s h hd hs
    have hl : (2 : Int) < (l.length : Int) := by rw [mk_len h]; decide
    have hl0 : (0 : Int) < (l.length : Int) := by omega
    rw [bits]
    by_cases hz : rd l 2 > 5
    · obtain ⟨g1, g2⟩ := dn_good h (by omega)
      have hd0 : (0 : Int) < ((dn l).length : Int) := by rw [mk_len g1]; decide
      have hs0 : s.length < 140737488355328 := by omega
      have hr := ih (dn l) (s ++ [letter (dn l) l]) g1 (by omega) (by rw [List.length_append, List.length_singleton]; omega)
      rw [List.append_assoc, List.singleton_append] at hr
      rw [if_pos hz]
      refine Ev.step (fun k => ?_) hr
      simp only [impl_MarkovWord.l0, hl, hl0, hz, moved_dn h, if_true, Option.bind_some, hd0, hs0]
      unfold letter
      split <;> rfl
    · rw [if_neg hz, List.append_nil]
      unfold told
      rw [List.length_reverse]
      by_cases h40 : s.length > 40
      · have h41 : (s.length : Int) > 40 := by omega
        rw [if_pos h40]
        refine Ev.step (f := fun _ => some ((⟨#[]⟩ : ByteArray), false)) (fun k => ?_) (Ev.is rfl)
        simp only [impl_MarkovWord.l0, hl, hz, if_true, if_false, h41]
      · have h41 : ¬ (s.length : Int) > 40 := by omega
        rw [if_neg h40]
        refine Ev.step (f := fun k => (slices_Reverse_byte_byte.f k s).bind fun t => some (strOfNums t, true)) (fun k => ?_) (Ev.bind (reverseB_ev s (by omega)) (Ev.is rfl))
        simp only [impl_MarkovWord.l0, hl, hz, if_true, if_false, h41]
theorem spec_word (W : List (List Int)) (b : List Int) (hW : ∀ x ∈ W, x.length = 3) (hl : W.length = b.length + 3) (hb : ∀ k, k < b.length → b[k]? = some (letter (rd_L1 W ((k + 1 : Nat) : Int)) (rd_L1 W (k : Int)))) (hn : b.length ≤ 2000000000) (i : Nat) : ∀ s : List Int, i ≤ b.length → s.length + i ≤ 4000000000 → Ev (fun k => spec_MarkovWord.l0 k W (strOfNums s) ((i : Int) - 1)) (told (s ++ (b.take i).reverse)) := by
  have hlen : ∀ j : Nat, j < W.length → (0 : Int) < ((rd_L1 W (j : Int)).length : Int) := by
    intro j hj
    unfold rd_L1
    rw [Int.toNat_natCast, List.getD_eq_getElem?_getD, List.getElem?_eq_getElem hj]
    have := hW W[j] (List.getElem_mem hj)
    show (0 : Int) < ((W[j]).length : Int)
    omega
  induction i with
  | zero =>
    intro s hi hs
    rw [List.take_zero, List.reverse_nil, List.append_nil]
    have hneg : ¬ (((0 : Nat) : Int) - 1 ≥ 0) := by omega
    unfold told
    by_cases h40 : s.length > 40
    · have h41 : ((strOfNums s).size : Int) > 40 := by rw [strOfNums_size]; omega
      rw [if_pos h40]
      refine Ev.step (f := fun _ => some ((⟨#[]⟩ : ByteArray), false)) (fun k => ?_) (Ev.is rfl)
      simp only [spec_MarkovWord.l0, hneg, if_false, h41, if_true]
    · have h41 : ¬ ((strOfNums s).size : Int) > 40 := by rw [strOfNums_size]; omega
      rw [if_neg h40]
      refine Ev.step (f := fun _ => some (strOfNums s, true)) (fun k => ?_) (Ev.is rfl)
      simp only [spec_MarkovWord.l0, hneg, if_false, h41]
  | succ i ih =>
    intro s hi hs
    have e0 : ((i + 1 : Nat) : Int) - 1 = (i : Int) := by omega
    rw [e0]
    have hr := ih (s ++ [letter (rd_L1 W ((i + 1 : Nat) : Int)) (rd_L1 W (i : Int))]) (by omega) (by rw [List.length_append, List.length_singleton]; omega)
    have ht : (b.take (i + 1)).reverse = letter (rd_L1 W ((i + 1 : Nat) : Int)) (rd_L1 W (i : Int)) :: (b.take i).reverse := by
      have hbi := hb i (by omega)
      rw [List.getElem?_eq_getElem (by omega)] at hbi
      rw [List.take_succ_eq_append_getElem (by omega), List.reverse_append, Option.some.inj hbi]
      rfl
    rw [List.append_assoc, List.singleton_append, ← ht] at hr
    have w1 : wrap64 ((i : Int) + 1) = ((i + 1 : Nat) : Int) := by rw [w64 (by omega) (by omega)]; omega
    have w2 : wrap64 ((i : Int) - 1) = (i : Int) - 1 := w64 (by omega) (by omega)
    have c1 : (i : Int) ≥ 0 := by omega
    have c2 : (0 : Int) ≤ (i : Int) := by omega
    have c3 : (i : Int) < (W.length : Int) := by omega
    have c4 : (0 : Int) ≤ ((i + 1 : Nat) : Int) := by omega
    have c5 : ((i + 1 : Nat) : Int) < (W.length : Int) := by omega
    have c6 := hlen i (by omega)
    have c7 := hlen (i + 1) (by omega)
    have c8 : (strOfNums s).size + 1 ≤ 9223372036854775807 := by rw [strOfNums_size]; omega
    refine Ev.step (fun k => ?_) hr
    simp only [spec_MarkovWord.l0, w1, w2, c1, c2, c3, c4, c5, c6, c7, c8, if_true]
    rw [← strOfNums_append]
    unfold letter
    by_cases he : rd (rd_L1 W ((i + 1 : Nat) : Int)) 0 = rd (rd_L1 W (i : Int)) 0
    · rw [if_pos he, if_pos he.symm]
      rfl
    · rw [if_neg he, if_neg (fun e => he e.symm)]
      rfl
theorem bits_length (d : Nat) : ∀ l, (bits d l).length ≤ d := by
  induction d with
  | zero => intro l; simp [bits]
  | succ d ih =>
    intro l
    rw [bits]
    have := ih (dn l)
    split
    · simp only [List.length_cons]; omega
    · simp
def wordOf (l : List Int) : ByteArray × Bool := if isMk l && decide (5 ≤ rd l 2) then told (bits 1000000000 l).reverse else ((⟨#[]⟩ : ByteArray), false)
theorem word_both (l : List Int) : Ev (fun k => spec_MarkovWord.f k l) (wordOf l) ∧ Ev (fun k => impl_MarkovWord.f k l) (wordOf l) := by
  unfold spec_MarkovWord.f impl_MarkovWord.f wordOf
  have ns : Ev (fun k => spec_MarkovWord.j0 k l true) ((⟨#[]⟩ : ByteArray), false) := Ev.step (f := fun _ => some ((⟨#[]⟩ : ByteArray), false)) (fun k => by simp only [spec_MarkovWord.j0, if_true]) (Ev.is rfl)
  have ni : Ev (fun k => impl_MarkovWord.j0 k l true) ((⟨#[]⟩ : ByteArray), false) := Ev.step (f := fun _ => some ((⟨#[]⟩ : ByteArray), false)) (fun k => by simp only [impl_MarkovWord.j0, if_true]) (Ev.is rfl)
  cases h : isMk l with
  | false =>
    rw [Bool.false_and, if_neg (by simp)]
    constructor
    · refine Ev.bind0 (mkGood_is l) ?_
      rw [h]
      exact ns
    · refine Ev.bind (IsMarkov_ev l) ?_
      rw [h]
      exact ni
  | true =>
    have hl : (2 : Int) < (l.length : Int) := by rw [mk_len h]; decide
    have hp := mk_pos h
    rw [Bool.true_and]
    by_cases h5 : 5 ≤ rd l 2
    · have d1 : decide (rd l 2 < 5) = false := decide_eq_false (by omega)
      have d2 : decide (rd l 2 ≤ 2) = false := decide_eq_false (by omega)
      rw [if_pos (decide_eq_true h5)]
      obtain ⟨p1, p2⟩ := path_bits 1000000000 l h h5 (by omega)
      have p3 := bits_length 1000000000 l
      constructor
      · refine Ev.bind0 (mkGood_is l) ?_
        rw [h]
        simp only [if_true, hl, d1]
        refine Ev.step (f := fun k => (spec_mkPath.f k l).bind fun t => spec_MarkovWord.l0 k t (⟨#[]⟩ : ByteArray) (wrap64 ((t.length : Int) - 4))) (fun k => by simp only [spec_MarkovWord.j0, Bool.false_eq_true, if_false]) (Ev.bind (mkPath_ev h) ?_)
        have hw : wrap64 (((pathOf l).length : Int) - 4) = ((bits 1000000000 l).length : Int) - 1 := by
          unfold pathOf
          rw [w64 (by omega) (by omega)]
          omega
        rw [hw]
        have hs := spec_word (pathOf l) (bits 1000000000 l) (fun x hx => mk_len (mkp_all 1000000000 l h x hx)) p1 p2 (by omega) (bits 1000000000 l).length [] (Nat.le_refl _) (by simp; omega)
        rw [List.take_length, List.nil_append] at hs
        exact hs
      · refine Ev.bind (IsMarkov_ev l) ?_
        rw [h]
        simp only [if_true, hl, d2]
        refine Ev.step (f := fun k => impl_MarkovWord.l0 k l []) (fun k => by simp only [impl_MarkovWord.j0, Bool.false_eq_true, if_false]) ?_
        have hs := impl_word 1000000000 l [] h (by omega) (by simp)
        rw [List.nil_append] at hs
        exact hs
    · have d1 : decide (rd l 2 < 5) = true := decide_eq_true (by omega)
      have d2 : decide (rd l 2 ≤ 2) = true := decide_eq_true (by
        rcases small h (by omega) with rfl | rfl | rfl
        · decide
        · decide
        · exact absurd (show (5 : Int) ≤ rd [1, 2, 5] 2 by decide) h5)
      rw [if_neg (by simpa using h5)]
      constructor
      · refine Ev.bind0 (mkGood_is l) ?_
        rw [h]
        simp only [if_true, hl, d1]
        exact ns
      · refine Ev.bind (IsMarkov_ev l) ?_
        rw [h]
        simp only [if_true, hl, d2]
        exact ni
theorem FnExactMarkovWord : laws_FnExactMarkovWord.Pure := by
  intro l _ hl _
  refine Ev.rounds ?_
  unfold laws_FnExactMarkovWord.f
  by_cases h : (l.length : Int) > 1048576
  · simp only [h, if_true]
    exact Ev.is rfl
  · simp only [h, if_false]
    obtain ⟨e1, e2⟩ := word_both l
    refine Ev.bind (toIntS_ev l hl) (Ev.bind e1 (Ev.bind (toIntS_ev l hl) (Ev.bind e2 ?_)))
    simp only [if_true, bne_self_eq_false]
    refine Ev.step (fun k => by simp only [laws_FnExactMarkovWord.j0, Bool.false_eq_true, if_false]; rfl) ?_
    refine Ev.bind (toIntS_ev l hl) (Ev.bind (eqIntS_ev l l (by omega)) ?_)
    simp only [decide_true, if_true]
    exact Ev.is rfl
end Go.Proofs.Ythkmbkibceojlaa.Pure
