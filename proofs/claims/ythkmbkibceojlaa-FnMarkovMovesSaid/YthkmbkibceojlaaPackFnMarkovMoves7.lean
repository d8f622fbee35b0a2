/- A move leads to a triple and leads back, and only from 1 1 1 no move leads down. No condition. -/
import Derived.Test.YthkmbkibceojlaaPackFnMarkovMoves6
-- UmkUp
namespace Go.Proofs.Ythkmbkibceojlaa.P
set_option linter.unusedVariables false
set_option linter.unusedSimpArgs false
open Go.RowKit Go.Proofs.YthkmbkibceojlaaW.PrintWords Go.Proofs.YthkmbkibceojlaaW.PrintLast Go.Proofs.YthkmbkibceojlaaW.PrintMore

/-- The triples above, up to a bound. -/
def upsL (most : Int) : List Int → List (List Int)
  | [x, y, z] => (if 3 * x * z - y ≤ most then [[x, z, 3 * x * z - y]] else []) ++ (if 3 * y * z - x ≤ most ∧ x ≠ y then [[y, z, 3 * y * z - x]] else [])
  | _ => []
theorem up_big {x y z : Int} (h : isMk [x, y, z] = true) : 2 * z ≤ 3 * x * z - y ∧ 3 * x * z - y ≤ 3 * y * z - x ∧ 3 * z * x = 3 * x * z := by
  obtain ⟨h1, h2, h3, h4, h5, h6⟩ := isMk_iff.1 h
  have e0 : 3 * z * x = 3 * x * z := by grind
  have e1 : 3 * x * z = 3 * (x * z) := Int.mul_assoc _ _ _
  have e2 : z ≤ x * z := by
    have := Int.mul_le_mul_of_nonneg_right (show 1 ≤ x by omega) (show 0 ≤ z by omega)
    omega
  have e3 : 3 * y * z = 3 * (y * z) := Int.mul_assoc _ _ _
  have e4 : x * z ≤ y * z := Int.mul_le_mul_of_nonneg_right h4 (by omega)
  refine ⟨?_, ?_, e0⟩ <;> omega
theorem mv_one {x y z : Int} (h : isMk [x, y, z] = true) : mv x y z 1 = [x, z, 3 * x * z - y] := by
  obtain ⟨b1, b2, b3⟩ := up_big h
  obtain ⟨h1, h2, h3, h4, h5, h6⟩ := isMk_iff.1 h
  show srt z x (3 * z * x - y) = _
  rw [b3]
  generalize 3 * x * z - y = n at b1
  rcases srt_cases z x n with ⟨c1, c2, e⟩ | ⟨c1, c2, e⟩ | ⟨c1, c2, e⟩ | ⟨c1, c2, e⟩ | ⟨c1, c2, e⟩ | ⟨c1, c2, e⟩ <;> rw [e] <;> first | rfl | (exfalso; omega) | (simp only [List.cons.injEq, and_true, true_and]; omega)
theorem mv_zero {x y z : Int} (h : isMk [x, y, z] = true) : mv x y z 0 = [y, z, 3 * y * z - x] := by
  obtain ⟨b1, b2, b3⟩ := up_big h
  obtain ⟨h1, h2, h3, h4, h5, h6⟩ := isMk_iff.1 h
  show srt y z (3 * y * z - x) = _
  generalize 3 * y * z - x = n at b2
  have hn : 2 * z ≤ n := by omega
  rcases srt_cases y z n with ⟨c1, c2, e⟩ | ⟨c1, c2, e⟩ | ⟨c1, c2, e⟩ | ⟨c1, c2, e⟩ | ⟨c1, c2, e⟩ | ⟨c1, c2, e⟩ <;> rw [e] <;> first | rfl | (exfalso; omega) | (simp only [List.cons.injEq, and_true, true_and]; omega)
/-- Behind the move of the greatest number none is greater, but for 1 1 1. -/
theorem mv_back {x y z : Int} (h : isMk [x, y, z] = true) : (1 < z ∧ ¬ z < rd (mv x y z 2) 2) ∨ (x = 1 ∧ y = 1 ∧ z = 1) := by
  obtain ⟨h1, h2, h3, h4, h5, h6⟩ := isMk_iff.1 h
  by_cases hz : 1 < z
  · left
    refine ⟨hz, ?_⟩
    obtain ⟨b1, b2⟩ := below h hz
    show ¬ z < rd (srt x y (3 * x * y - z)) 2
    rw [srt_two]
    unfold hi2
    split <;> split <;> omega
  · right
    omega
theorem upsL_sorted (most : Int) {l : List Int} (h : isMk l = true) : (upsL most l).Pairwise fun a b => cmpL a b < 0 := by
  obtain ⟨x, y, z, rfl⟩ := mk_three h
  obtain ⟨h1, h2, h3, h4, h5, h6⟩ := isMk_iff.1 h
  show ((if 3 * x * z - y ≤ most then [[x, z, 3 * x * z - y]] else []) ++ (if 3 * y * z - x ≤ most ∧ x ≠ y then [[y, z, 3 * y * z - x]] else [])).Pairwise _
  by_cases c1 : 3 * x * z - y ≤ most
  · by_cases c2 : 3 * y * z - x ≤ most ∧ x ≠ y
    · rw [if_pos c1, if_pos c2]
      have : x < y := by omega
      simp [cmpL, this]
    · rw [if_pos c1, if_neg c2]
      simp
  · by_cases c2 : 3 * y * z - x ≤ most ∧ x ≠ y
    · rw [if_neg c1, if_pos c2]
      simp
    · rw [if_neg c1, if_neg c2]
      simp
theorem upsL_mk {most : Int} (hm : most ≤ 1000000000) {l u : List Int} (h : isMk l = true) (hu : u ∈ upsL most l) : isMk u = true ∧ 2 * rd l 2 ≤ rd u 2 ∧ rd u 2 ≤ most := by
  obtain ⟨x, y, z, rfl⟩ := mk_three h
  obtain ⟨b1, b2, b3⟩ := up_big h
  replace hu : u ∈ (if 3 * x * z - y ≤ most then [[x, z, 3 * x * z - y]] else []) ++ (if 3 * y * z - x ≤ most ∧ x ≠ y then [[y, z, 3 * y * z - x]] else []) := hu
  rcases List.mem_append.1 hu with hu | hu
  · split at hu
    · obtain rfl := List.mem_singleton.1 hu
      have := mv_is h 1 (by omega) (by show 3 * z * x - y ≤ _; omega)
      rw [mv_one h] at this
      exact ⟨this, b1, by assumption⟩
    · simp at hu
  · split at hu
    · rename_i c
      obtain rfl := List.mem_singleton.1 hu
      have := mv_is h 0 (by omega) (by show 3 * y * z - x ≤ _; omega)
      rw [mv_zero h] at this
      exact ⟨this, by show 2 * z ≤ 3 * y * z - x; omega, c.1⟩
    · simp at hu

theorem sameS_from (a b : List Int) (hl : a.length = b.length) (hn : a.length ≤ 4611686018427387904) (d : Nat) : ∀ i : Nat, i + d = a.length → a.take i = b.take i → Ev (fun k => spec_l1Same.l0 k a b (a.length : Int) (i : Int)) (decide (a = b)) := by
  induction d with
  | zero =>
    intro i hi ht
    rw [List.take_of_length_le (by omega), List.take_of_length_le (by omega)] at ht
    refine Ev.step (fun k => by simp only [spec_l1Same.l0]; rw [if_neg (by omega)]) ?_
    exact Ev.is (by rw [decide_eq_true ht])
  | succ d ih =>
    intro i hi ht
    by_cases h : rd a (i : Int) = rd b (i : Int)
    · have hr := ih (i + 1) (by omega) (by rw [List.take_succ_eq_append_getElem (by omega), List.take_succ_eq_append_getElem (by omega), ht, ← rd_lt a i (by omega), ← rd_lt b i (by omega), h])
      exact Ev.step (fun k => by simp only [spec_l1Same.l0]; rw [if_pos (by omega), if_pos (by omega), if_pos (by omega), if_pos (by omega), if_pos h, w64_succ (n := a.length) (by omega) hn]) hr
    · have hd : decide (a = b) = false := decide_eq_false (fun e => h (by rw [e]))
      exact Ev.step (f := fun _ => some false) (fun k => by simp only [spec_l1Same.l0]; rw [if_pos (by omega), if_pos (by omega), if_pos (by omega), if_pos (by omega), if_neg h]) (Ev.is (by rw [hd]))
theorem sameS_ev (a b : List Int) (hn : a.length ≤ 4611686018427387904) : Ev (fun k => spec_l1Same.f k a b) (decide (a = b)) := by
  unfold spec_l1Same.f
  by_cases hl : a.length = b.length
  · simp only [hl, if_true]
    have := sameS_from a b hl hn a.length 0 (by omega) rfl
    rw [hl] at this
    exact this
  · have h : ¬ (a.length : Int) = (b.length : Int) := by omega
    simp only [h, if_false]
    have hd : decide (a = b) = false := decide_eq_false (fun e => hl (by rw [e]))
    exact Ev.is (by rw [hd])
theorem mkUp_ev {l : List Int} (h : isMk l = true) : Ev (fun k => spec_mkUp.f k l) (upsL 1000000000 l) := by
  obtain ⟨x, y, z, rfl⟩ := mk_three h
  obtain ⟨b1, b2, b3⟩ := up_big h
  obtain ⟨h1, h2, h3, h4, h5, h6⟩ := isMk_iff.1 h
  have m1 := mkMove_is h 1 (by omega)
  have m0 := mkMove_is h 0 (by omega)
  have e1 : mvOf x y z 1 = if 3 * x * z - y > 1000000000 then ([], false) else ([x, z, 3 * x * z - y], true) := by
    unfold mvOf
    rw [mv_one h]
    show (if 3 * z * x - y > 1000000000 then _ else _) = _
    rw [b3]
  have e0 : mvOf x y z 0 = if 3 * y * z - x > 1000000000 then ([], false) else ([y, z, 3 * y * z - x], true) := by
    unfold mvOf
    rw [mv_zero h]
    rfl
  have w1 : wrap64 (1 - 1) = 0 := by decide +kernel
  have w0 : wrap64 (0 - 1) = -1 := by decide +kernel
  have hend : ∀ o : List (List Int), Ev (fun k => spec_mkUp.l0 k [x, y, z] o (-1)) o := fun o => by
    refine Ev.step (f := fun _ => some o) (fun k => by simp only [spec_mkUp.l0]; rw [if_neg (by omega)]) (Ev.is rfl)
  have hg : ∀ n : Int, 2 * z ≤ n → n > z := fun n hn => by omega
  have hl3 : ∀ a b c : Int, (([a, b, c] : List Int).length : Int) = 3 := fun _ _ _ => rfl
  have hr2 : ∀ a b c : Int, rd [a, b, c] 2 = c := fun _ _ _ => rfl
  have hq : (2 : Int) < 3 := by decide
  unfold spec_mkUp.f
  show Ev _ ((if 3 * x * z - y ≤ 1000000000 then [[x, z, 3 * x * z - y]] else []) ++ (if 3 * y * z - x ≤ 1000000000 ∧ x ≠ y then [[y, z, 3 * y * z - x]] else []))
  have hnn : x = y → 3 * x * z - y = 3 * y * z - x := fun e => by rw [e]
  generalize 3 * x * z - y = n1 at *
  generalize 3 * y * z - x = n0 at *
  have step0 : ∀ o : List (List Int), (o = [] ∧ ¬ n0 ≤ 1000000000) ∨ o = [[x, z, n1]] → Ev (fun k => spec_mkUp.l0 k [x, y, z] o 0) (o ++ (if n0 ≤ 1000000000 ∧ x ≠ y then [[y, z, n0]] else [])) := by
    intro o ho
    by_cases c0 : n0 > 1000000000
    · rw [if_neg (by omega)]
      rw [if_pos c0] at e0
      rw [List.append_nil]
      refine Ev.step (fun k => ?_) (hend o)
      simp only [spec_mkUp.l0]
      rw [if_pos (by omega), show spec_mkMove.f [x, y, z] 0 = _ from m0, e0]
      simp only [Option.bind_some, Bool.false_eq_true, if_false, w0]
    · rw [if_neg c0] at e0
      rcases ho with ⟨rfl, h0⟩ | rfl
      · omega
      · have c2 : n0 > z := hg _ (by omega)
        have hsm := sameS_ev [x, z, n1] [y, z, n0] (show 3 ≤ 4611686018427387904 by decide)
        have hrd : rd_L1 [[x, z, n1]] 0 = [x, z, n1] := rfl
        have hne : ¬ ((([[x, z, n1]] : List (List Int)).length : Int) = 0) := by simp
        have hp : 0 < ((([[x, z, n1]] : List (List Int)).length : Int)) := by simp
        have hlim : ([[x, z, n1]] : List (List Int)).length < 5864062014805 := by simp
        have hst : ∀ r, Ev (fun k => (spec_l1Same.f k [x, z, n1] [y, z, n0]).bind fun t => if t = true then spec_mkUp.l0 k [x, y, z] [[x, z, n1]] (-1) else spec_mkUp.l0 k [x, y, z] ([[x, z, n1]] ++ [[y, z, n0]]) (-1)) r → Ev (fun k => spec_mkUp.l0 k [x, y, z] [[x, z, n1]] 0) r := fun r hr => by
          refine Ev.step (fun k => ?_) hr
          simp only [spec_mkUp.l0]
          rw [if_pos (by omega), show spec_mkMove.f [x, y, z] 0 = _ from m0, e0]
          simp only [Option.bind_some, if_true, hl3, hr2, hq, c2, hne, if_false, hrd, hp, hlim, w0]
        refine hst _ (Ev.bind hsm ?_)
        by_cases hxy : x = y
        · have hd : decide ([x, z, n1] = [y, z, n0]) = true := by
            have hn : n1 = n0 := hnn hxy
            rw [hxy, hn]; exact decide_eq_true rfl
          rw [hd, if_neg (by intro hh; exact hh.2 hxy), List.append_nil]
          simp only [if_true]
          exact hend _
        · have hd : decide ([x, z, n1] = [y, z, n0]) = false := decide_eq_false (fun hh => hxy (List.cons.inj hh).1)
          rw [hd, if_pos ⟨by omega, hxy⟩]
          simp only [Bool.false_eq_true, if_false]
          exact hend _
  by_cases c1 : n1 > 1000000000
  · rw [if_pos c1] at e1
    rw [if_neg (show ¬ n1 ≤ 1000000000 by omega), List.nil_append]
    refine Ev.step (fun k => ?_) (step0 [] (.inl ⟨rfl, by omega⟩))
    simp only [spec_mkUp.l0]
    rw [if_pos (by omega), show spec_mkMove.f [x, y, z] 1 = _ from m1, e1]
    simp only [Option.bind_some, Bool.false_eq_true, if_false, w1]
  · rw [if_neg c1] at e1
    rw [if_pos (show n1 ≤ 1000000000 by omega)]
    refine Ev.step (fun k => ?_) (step0 [[x, z, n1]] (.inr rfl))
    have c2 : n1 > z := hg _ b1
    simp only [spec_mkUp.l0]
    rw [if_pos (by omega), show spec_mkMove.f [x, y, z] 1 = _ from m1, e1]
    simp only [Option.bind_some, if_true, hl3, hr2, hq, c2, w1, List.length_nil, List.nil_append]
    rfl

/-- impl.ups at a triple. -/
theorem ups_ev {most : Int} (hm : most ≤ 1000000000) {l : List Int} (h : isMk l = true) : Ev (fun k => impl_ups.f k l most) (upsL most l) := by
  have hs := upsL_sorted most h
  obtain ⟨x, y, z, rfl⟩ := mk_three h
  obtain ⟨b1, b2, b3⟩ := up_big h
  have hb := mv_back h
  obtain ⟨h1, h2, h3, h4, h5, h6⟩ := isMk_iff.1 h
  have m0 := moved_is h 0 (by omega)
  have m1 := moved_is h 1 (by omega)
  have m2 := moved_is h 2 (by omega)
  rw [mv_zero h] at m0
  rw [mv_one h] at m1
  have w0 : wrap64 (0 + 1) = 1 := by decide +kernel
  have w1 : wrap64 (1 + 1) = 2 := by decide +kernel
  have w2 : wrap64 (2 + 1) = 3 := by decide +kernel
  have hl3 : ∀ a b c : Int, (([a, b, c] : List Int).length : Int) = 3 := fun _ _ _ => rfl
  have hl3n : ∀ a b c : Int, ([a, b, c] : List Int).length < 9223372036854775807 := fun _ _ _ => by show 3 < 9223372036854775807; decide
  have hr2 : ∀ a b c : Int, rd [a, b, c] 2 = c := fun _ _ _ => rfl
  have hq : (2 : Int) < 3 := by decide
  -- one step: the move's triple is taken, or not
  have hstep : ∀ (i j : Int) (a b c : Int) (o : List (List Int)) (r : List (List Int)), i < 3 → wrap64 (i + 1) = j → impl_moved.f [x, y, z] i = some [a, b, c] → o.length < 1000000000 → Ev (fun k => impl_ups.l0 k [x, y, z] most (if z < c ∧ c ≤ most then o ++ [[a, b, c]] else o) j) r → Ev (fun k => impl_ups.l0 k [x, y, z] most o i) r := by
    intro i j a b c o r hi hj hm ho hr
    refine Ev.step (fun k => ?_) hr
    simp only [impl_ups.l0]
    rw [if_pos hi, hm]
    simp only [Option.bind_some, hl3, hl3n, hr2, hq, if_true, hj, ho]
    by_cases c1 : z < c
    · by_cases c2 : c ≤ most
      · simp only [c1, c2, and_self, if_true]
      · simp only [c1, c2, and_false, if_true, if_false]
    · simp only [c1, false_and, if_false]
  obtain ⟨a2, b2', c2, e2⟩ := mv_three x y z 2
  rw [e2] at m2 hb
  have hend : ∀ o : List (List Int), sortDedup o = upsL most [x, y, z] → Ev (fun k => impl_ups.l0 k [x, y, z] most o 3) (upsL most [x, y, z]) := fun o ho => by
    refine Ev.step (f := fun _ => some (upsL most [x, y, z])) (fun k => by simp only [impl_ups.l0]; rw [if_neg (by omega), ho]) (Ev.is rfl)
  have hlast : ∀ o : List (List Int), o.length < 1000000000 → (∀ u, u ∈ o ↔ u ∈ upsL most [x, y, z]) → Ev (fun k => impl_ups.l0 k [x, y, z] most o 2) (upsL most [x, y, z]) := by
    intro o ho hu
    refine hstep 2 3 a2 b2' c2 o _ (by decide) w2 m2 ho (hend _ (sortDedup_is hs fun u => ?_).symm)
    rcases hb with ⟨hz, hn⟩ | ⟨rfl, rfl, rfl⟩
    · rw [if_neg (fun hh => hn hh.1)]
      exact (hu u).symm
    · have e3 : mv 1 1 1 2 = [1, 1, 2] := by decide
      rw [e3] at e2
      obtain ⟨rfl, rfl, rfl⟩ : a2 = 1 ∧ b2' = 1 ∧ c2 = 2 := by simpa [eq_comm] using e2
      by_cases hc : (1 : Int) < 2 ∧ (2 : Int) ≤ most
      · rw [if_pos hc]
        have hup : upsL most [1, 1, 1] = [[1, 1, 2]] := by
          show (if 3 * 1 * 1 - 1 ≤ most then [[1, 1, 3 * 1 * 1 - 1]] else []) ++ (if 3 * 1 * 1 - 1 ≤ most ∧ (1 : Int) ≠ 1 then [[1, 1, 3 * 1 * 1 - 1]] else []) = _
          rw [if_pos (by omega), if_neg (by intro hh; exact hh.2 rfl)]
          rfl
        rw [List.mem_append, hu u, hup]
        simp
      · rw [if_neg hc]
        exact (hu u).symm
  unfold impl_ups.f
  refine hstep 0 1 y z (3 * y * z - x) [] _ (by decide) w0 m0 (by simp) ?_
  refine hstep 1 2 x z (3 * x * z - y) _ _ (by decide) w1 m1 (by split <;> simp) ?_
  refine hlast _ (by split <;> split <;> simp) fun u => ?_
  show _ ↔ u ∈ (if 3 * x * z - y ≤ most then [[x, z, 3 * x * z - y]] else []) ++ (if 3 * y * z - x ≤ most ∧ x ≠ y then [[y, z, 3 * y * z - x]] else [])
  have hxy : x = y → 3 * x * z - y = 3 * y * z - x := fun e => by rw [e]
  generalize 3 * x * z - y = n1 at *
  generalize 3 * y * z - x = n0 at *
  by_cases c1 : n1 ≤ most
  · by_cases c0 : n0 ≤ most
    · rw [if_pos (show z < n1 ∧ n1 ≤ most by omega), if_pos (show z < n0 ∧ n0 ≤ most by omega), if_pos c1]
      by_cases e : x = y
      · rw [if_neg (fun hh => hh.2 e)]
        subst e
        rw [hxy rfl]
        simp
      · rw [if_pos ⟨c0, e⟩]
        simp [or_comm]
    · rw [if_pos (show z < n1 ∧ n1 ≤ most by omega), if_neg (fun hh => c0 hh.2), if_pos c1, if_neg (fun hh => c0 hh.1)]
      simp
  · have c0 : ¬ n0 ≤ most := by omega
    rw [if_neg (fun hh => c1 hh.2), if_neg (fun hh => c0 hh.2), if_neg c1, if_neg (fun hh => c0 hh.1)]
    simp
end Go.Proofs.Ythkmbkibceojlaa.P

-- UdrawMk
namespace Go.Proofs.Ythkmbkibceojlaa.P
set_option linter.unusedVariables false
set_option linter.unusedSimpArgs false
open Go.RowKit Go.Proofs.YthkmbkibceojlaaW.PrintWords Go.Proofs.YthkmbkibceojlaaW.PrintLast Go.Proofs.YthkmbkibceojlaaW.PrintMore
theorem own_mk (l : List Int) (h : l.length ≤ 1000) : spec_l1Own.f l = some l := by
  unfold spec_l1Own.f
  simp only [Option.bind_some, List.length_nil, Nat.zero_add, List.nil_append]
  rw [if_pos (by omega)]
def Tri (l : List Int) : Prop := 3 ≤ l.length ∧ l.length ≤ 4
theorem markov_loop (code : List Int) (hc : Bytes code) (d : Nat) : ∀ (l : List Int) (at_ seed : Int), isMk l = true → d ≤ 100 → 0 ≤ at_ → at_ ≤ 1000 - 2 * (d : Int) →
    ∃ l' at' seed', Ev (fun k => spec_l1Cur_markov.l0 k l (d : Int) code at_ seed) (l', at', seed') ∧ Tri l' ∧ 0 ≤ at' ∧ at' ≤ 2000 := by
  induction d with
  | zero =>
    intro l at_ seed h hd h0 h1
    have h3 : l.length = 3 := by obtain ⟨x, y, z, rfl⟩ := mk_three h; rfl
    have ho := own_mk l (by omega)
    obtain ⟨v1, a1, s1, e1, _, _, _, _⟩ := pick_ok code hc at_ seed 20 h0 (by omega) (by decide)
    by_cases c1 : v1 = 0
    · obtain ⟨v2, a2, s2, e2, p2, q2, _, _⟩ := pick_ok code hc a1 s1 3 (by omega) (by omega) (by decide)
      have q3 := q2 (by decide)
      have q4 : v2 < (l.length : Int) := by omega
      obtain ⟨v3, a3, s3, e3, _, _, _⟩ := among_ok code hc a2 s2 [1, (-1), 1000000000] (by omega) (by omega) (by decide) (by decide)
      refine ⟨_, a3, s3, Ev.step (f := fun _ => some (l.set v2.toNat (wrap64 (rd l v2 + v3)), a3, s3)) (fun k => ?_) (Ev.is rfl), by unfold Tri; rw [List.length_set]; omega, by omega, by omega⟩
      simp only [spec_l1Cur_markov.l0]
      rw [if_neg (by omega), ho]
      simp only [Option.bind_some]
      rw [e1]
      simp only [Option.bind_some]
      rw [if_pos c1, e2]
      simp only [Option.bind_some]
      rw [if_pos p2, if_pos q4, e3]
      rfl
    · by_cases c2 : v1 = 1
      · refine ⟨l ++ [1], a1, s1, Ev.step (f := fun _ => some (l ++ [1], a1, s1)) (fun k => ?_) (Ev.is rfl), by unfold Tri; rw [List.length_append, List.length_singleton]; omega, by omega, by omega⟩
        simp only [spec_l1Cur_markov.l0]
        rw [if_neg (by omega), ho]
        simp only [Option.bind_some]
        rw [e1]
        simp only [Option.bind_some]
        rw [if_neg c1, if_pos c2, if_pos (by omega)]
      · by_cases c3 : v1 = 2
        · refine ⟨_, a1, s1, Ev.step (f := fun _ => some ((l.set (0 : Int).toNat (rd l 2)).set (2 : Int).toNat (rd l 0), a1, s1)) (fun k => ?_) (Ev.is rfl), by unfold Tri; rw [List.length_set, List.length_set]; omega, by omega, by omega⟩
          simp only [spec_l1Cur_markov.l0]
          rw [if_neg (by omega), ho]
          simp only [Option.bind_some]
          rw [e1]
          simp only [Option.bind_some]
          rw [if_neg c1, if_neg c2, if_pos c3, if_pos (by omega), if_pos (by omega)]
        · refine ⟨l, a1, s1, Ev.step (f := fun _ => some (l, a1, s1)) (fun k => ?_) (Ev.is rfl), by unfold Tri; omega, by omega, by omega⟩
          simp only [spec_l1Cur_markov.l0]
          rw [if_neg (by omega), ho]
          simp only [Option.bind_some]
          rw [e1]
          simp only [Option.bind_some]
          rw [if_neg c1, if_neg c2, if_neg c3]
  | succ d ih =>
    intro l at_ seed h hd h0 h1
    have hu := mkUp_ev h
    have w1 : wrap64 (((d + 1 : Nat) : Int) - 1) = (d : Int) := by rw [w64 (by omega) (by omega)]; omega
    have hl2 : (upsL 1000000000 l).length ≤ 2 := by
      obtain ⟨x, y, z, rfl⟩ := mk_three h
      have hh : ∀ (p q : Prop) [Decidable p] [Decidable q] (a b : List Int), ((if p then [a] else []) ++ (if q then [b] else [])).length ≤ 2 := by
        intro p q _ _ a b
        by_cases hp : p <;> by_cases hq : q <;> simp [hp, hq]
      exact hh _ _ _ _
    by_cases hc2 : ((upsL 1000000000 l).length : Int) > 0
    · obtain ⟨v1, a1, s1, e1, p1, q1, _, _⟩ := pick_ok code hc at_ seed ((upsL 1000000000 l).length : Int) h0 (by omega) (by omega)
      have q2 := q1 (by omega)
      have hm : rd_L1 (upsL 1000000000 l) v1 ∈ upsL 1000000000 l := by
        unfold rd_L1
        rw [List.getD_eq_getElem?_getD, List.getElem?_eq_getElem (show v1.toNat < (upsL 1000000000 l).length by omega)]
        exact List.getElem_mem _
      obtain ⟨l', at', seed', e, h3⟩ := ih (rd_L1 (upsL 1000000000 l) v1) a1 s1 (upsL_mk (Int.le_refl _) h hm).1 (by omega) (by omega) (by omega)
      refine ⟨l', at', seed', Ev.step (f := fun k => (spec_mkUp.f k l).bind fun t657 => (if (t657.length : Int) > 0 then ((spec_l1Cur_pick.f code at_ seed (t657.length : Int)).bind fun bt660 => (if 0 ≤ bt660.1 then (if bt660.1 < (t657.length : Int) then (spec_l1Cur_markov.l0 k (rd_L1 t657 bt660.1) (d : Int) code bt660.2.1 bt660.2.2) else (none)) else (none))) else (spec_l1Cur_markov.l0 k l (d : Int) code at_ seed))) (fun k => ?_) (Ev.bind hu ?_), h3⟩
      · simp only [spec_l1Cur_markov.l0]
        rw [if_pos (by omega), w1]
      · simp only [hc2, if_true, e1, Option.bind_some, p1, q2]
        exact e
    · obtain ⟨l', at', seed', e, h3⟩ := ih l at_ seed h (by omega) (by omega) (by omega)
      refine ⟨l', at', seed', Ev.step (f := fun k => (spec_mkUp.f k l).bind fun t657 => (if (t657.length : Int) > 0 then ((spec_l1Cur_pick.f code at_ seed (t657.length : Int)).bind fun bt660 => (if 0 ≤ bt660.1 then (if bt660.1 < (t657.length : Int) then (spec_l1Cur_markov.l0 k (rd_L1 t657 bt660.1) (d : Int) code bt660.2.1 bt660.2.2) else (none)) else (none))) else (spec_l1Cur_markov.l0 k l (d : Int) code at_ seed))) (fun k => ?_) (Ev.bind hu ?_), h3⟩
      · simp only [spec_l1Cur_markov.l0]
        rw [if_pos (by omega), w1]
      · simp only [hc2, if_false]
        exact e
theorem markov_ok (code : List Int) (hc : Bytes code) (at_ seed : Int) (h0 : 0 ≤ at_) (h1 : at_ ≤ 500) : ∃ l' at' seed', Ev (fun k => spec_l1Cur_markov.f k code at_ seed) (l', at', seed') ∧ Tri l' ∧ 0 ≤ at' ∧ at' ≤ 2000 := by
  unfold spec_l1Cur_markov.f
  obtain ⟨v1, a1, s1, e1, hm, _, _⟩ := among_ok code hc at_ seed [0, 1, 2, 3, 4, 6, 9, 14] h0 (by omega) (by decide) (by decide)
  have hv : 0 ≤ v1 ∧ v1 ≤ 14 := by
    simp only [List.mem_cons, List.not_mem_nil, or_false] at hm
    omega
  obtain ⟨n, rfl⟩ := Int.eq_ofNat_of_zero_le hv.1
  obtain ⟨l', at', seed', e, h3⟩ := markov_loop code hc n [1, 1, 1] a1 s1 (by decide) (by omega) (by omega) (by omega)
  exact ⟨l', at', seed', Ev.bind0 e1 e, h3⟩
end Go.Proofs.Ythkmbkibceojlaa.P

-- UmkLaw
namespace Go.Proofs.Ythkmbkibceojlaa.P
set_option linter.unusedVariables false
set_option linter.unusedSimpArgs false
open Go.RowKit Go.Proofs.YthkmbkibceojlaaW.PrintWords Go.Proofs.YthkmbkibceojlaaW.PrintLast Go.Proofs.YthkmbkibceojlaaW.PrintMore
/-- What a call tells of a move: no triple, no index, too great, or the triple. -/
def moveOf (l : List Int) (i : Int) : List Int × Bool := match l with
  | [x, y, z] => if isMk [x, y, z] && inB 0 2 i then mvOf x y z i.toNat else ([], false)
  | _ => ([], false)
theorem moveOf_no {l : List Int} {i : Int} (h : (isMk l && inB 0 2 i) = false) : moveOf l i = ([], false) := by
  match l, h with
  | [x, y, z], h => show (if _ then _ else _) = _; rw [h]; rfl
  | [], _ => rfl
  | [_], _ => rfl
  | [_, _], _ => rfl
  | _ :: _ :: _ :: _ :: _, _ => rfl
theorem Move_law (l : List Int) (i : Int) : Ev (fun _ => spec_MarkovMove.f l i) (moveOf l i) ∧ Ev (fun k => impl_MarkovMove.f k l i) (moveOf l i) := by
  have hI := IsMarkov_ev l
  have no : Ev (fun k => impl_MarkovMove.j0 k l i true) ([], false) := Ev.step (f := fun _ => some ([], false)) (fun k => by simp only [impl_MarkovMove.j0, if_true]) (Ev.is rfl)
  unfold spec_MarkovMove.f impl_MarkovMove.f
  rw [mkGood_is l]
  cases h : isMk l with
  | false =>
    rw [h] at hI
    rw [moveOf_no (by rw [h]; rfl)]
    refine ⟨?_, Ev.bind hI ?_⟩
    · simp only [Option.bind_some, Bool.false_eq_true, if_false]
      exact Ev.is rfl
    · simp only [Bool.false_eq_true, if_false]
      exact no
  | true =>
    rw [h] at hI
    obtain ⟨x, y, z, rfl⟩ := isMk_three h
    rw [l1In_in, within_in]
    cases hi : inB 0 2 i with
    | false =>
      rw [moveOf_no (by rw [h, hi]; rfl)]
      refine ⟨?_, Ev.bind hI ?_⟩
      · simp only [Option.bind_some, if_true, Bool.false_eq_true, if_false]
        exact Ev.is rfl
      · simp only [Option.bind_some, if_true, Bool.not_false]
        exact no
    | true =>
      obtain ⟨n, rfl, hn⟩ := index_in hi
      have hm := mkMove_is h n hn
      have hv := moved_is h n hn
      have h2 := mv_two h n hn
      have hlen := mv_length x y z n
      have hmo : moveOf [x, y, z] (n : Int) = mvOf x y z n := by
        show (if _ then _ else _) = _
        rw [h, hi]
        rfl
      rw [hmo]
      refine ⟨?_, Ev.bind hI ?_⟩
      · simp only [Option.bind_some, if_true, hm]
        exact Ev.is rfl
      · simp only [Option.bind_some, if_true, Bool.not_true]
        refine Ev.step (f := fun _ => some (mvOf x y z n)) (fun k => ?_) (Ev.is rfl)
        have c : (2 : Int) < ((mv x y z n).length : Int) := by rw [hlen]; decide
        simp only [impl_MarkovMove.j0, Bool.false_eq_true, if_false, hv, Option.bind_some, c, if_true]
        unfold mvOf
        by_cases h3 : mvN x y z n > 1000000000
        · rw [if_pos (h2.2 h3), if_pos h3]
        · rw [if_neg (fun h4 => h3 (h2.1 h4)), if_neg h3]
def downOf (l : List Int) : List Int × Bool := match l with
  | [x, y, z] => if isMk [x, y, z] && !decide (z = 1) then (mv x y z 2, true) else ([], false)
  | _ => ([], false)
theorem downOf_no {l : List Int} (h : isMk l = false) : downOf l = ([], false) := by
  match l, h with
  | [x, y, z], h => show (if _ then _ else _) = _; rw [h]; rfl
  | [], _ => rfl
  | [_], _ => rfl
  | [_, _], _ => rfl
  | _ :: _ :: _ :: _ :: _, _ => rfl
theorem Down_law (l : List Int) : Ev (fun _ => spec_MarkovDown.f l) (downOf l) ∧ Ev (fun k => impl_MarkovDown.f k l) (downOf l) := by
  have hI := IsMarkov_ev l
  unfold spec_MarkovDown.f impl_MarkovDown.f
  rw [mkGood_is l]
  cases h : isMk l with
  | false =>
    rw [h] at hI
    rw [downOf_no h]
    refine ⟨?_, Ev.bind hI ?_⟩
    · simp only [Option.bind_some, Bool.false_eq_true, if_false]
      exact Ev.is rfl
    · simp only [Bool.false_eq_true, if_false]
      exact Ev.is rfl
  | true =>
    rw [h] at hI
    obtain ⟨x, y, z, rfl⟩ := isMk_three h
    have hl : (([x, y, z] : List Int).length : Int) = 3 := rfl
    have r2 : rd [x, y, z] 2 = z := rfl
    have c : (2 : Int) < 3 := by decide
    have hv := moved_is h 2 (Nat.le_refl 2)
    have hd := mkDown_is h
    rw [show ((2 : Nat) : Int) = 2 from rfl] at hv
    by_cases h1 : z = 1
    · have hdo : downOf [x, y, z] = ([], false) := by
        show (if _ then _ else _) = _
        rw [h, decide_eq_true h1]
        rfl
      rw [hdo]
      refine ⟨?_, Ev.bind hI ?_⟩
      · simp only [Option.bind_some, if_true, hl, r2, c, h1]
        exact Ev.is rfl
      · simp only [if_true, hl, r2, c, h1]
        exact Ev.is rfl
    · have hdo : downOf [x, y, z] = (mv x y z 2, true) := by
        show (if _ then _ else _) = _
        rw [h, decide_eq_false h1]
        rfl
      rw [hdo]
      refine ⟨?_, Ev.bind hI ?_⟩
      · simp only [Option.bind_some, if_true, hl, r2, c, h1, if_false, hd]
        exact Ev.is rfl
      · simp only [if_true, hl, r2, c, h1, if_false, hv]
        exact Ev.is rfl
theorem moveOf_len (l : List Int) (i : Int) : (moveOf l i).1.length ≤ 3 := by
  match l with
  | [x, y, z] =>
    show (if _ then _ else _ : List Int × Bool).1.length ≤ 3
    split
    · unfold mvOf
      split
      · simp
      · show (mv x y z i.toNat).length ≤ 3
        rw [mv_length]
        exact Nat.le_refl _
    · simp
  | [] => simp [moveOf]
  | [_] => simp [moveOf]
  | [_, _] => simp [moveOf]
  | _ :: _ :: _ :: _ :: _ => simp [moveOf]
theorem downOf_len (l : List Int) : (downOf l).1.length ≤ 3 := by
  match l with
  | [x, y, z] =>
    show (if _ then _ else _ : List Int × Bool).1.length ≤ 3
    split
    · show (mv x y z 2).length ≤ 3
      rw [mv_length]
      exact Nat.le_refl _
    · simp
  | [] => simp [downOf]
  | [_] => simp [downOf]
  | [_, _] => simp [downOf]
  | _ :: _ :: _ :: _ :: _ => simp [downOf]
theorem moveOf_true {l : List Int} {i : Int} (h : (moveOf l i).2 = true) : ∃ x y z n, l = [x, y, z] ∧ i = ((n : Nat) : Int) ∧ n ≤ 2 ∧ isMk [x, y, z] = true ∧ mvN x y z n ≤ 1000000000 ∧ moveOf l i = (mv x y z n, true) := by
  cases hq : isMk l && inB 0 2 i with
  | false => rw [moveOf_no hq] at h; simp at h
  | true =>
    rw [Bool.and_eq_true] at hq
    obtain ⟨x, y, z, rfl⟩ := isMk_three hq.1
    obtain ⟨n, rfl, hn⟩ := index_in hq.2
    have hmo : moveOf [x, y, z] (n : Int) = mvOf x y z n := by
      show (if _ then _ else _) = _
      rw [hq.1, hq.2]
      rfl
    rw [hmo] at h ⊢
    unfold mvOf at h ⊢
    by_cases h3 : mvN x y z n > 1000000000
    · rw [if_pos h3] at h; simp at h
    · rw [if_neg h3]
      exact ⟨x, y, z, n, rfl, rfl, hn, hq.1, by omega, rfl⟩
theorem srt_id {x y z : Int} (h1 : x ≤ y) (h2 : y ≤ z) : srt x y z = [x, y, z] := by
  rcases srt_cases x y z with ⟨c1, c2, e⟩ | ⟨c1, c2, e⟩ | ⟨c1, c2, e⟩ | ⟨c1, c2, e⟩ | ⟨c1, c2, e⟩ | ⟨c1, c2, e⟩ <;> rw [e] <;> first | rfl | (simp only [List.cons.injEq, and_true, true_and]; omega) | (obtain rfl : x = y := by omega; obtain rfl : x = z := by omega; rfl)
theorem moveOf_at {p q r : Int} (h : isMk [p, q, r] = true) (k : Nat) (hk : k ≤ 2) (hn : mvN p q r k ≤ 1000000000) : moveOf [p, q, r] (k : Int) = (mv p q r k, true) := by
  show (if _ then _ else _) = _
  have hi : inB 0 2 (k : Int) = true := by simp [inB]; omega
  rw [h, hi]
  show mvOf p q r (k : Int).toNat = _
  rw [Int.toNat_natCast]
  unfold mvOf
  rw [if_neg (by omega)]
/-- A move leads back by a move. -/
theorem move_back {x y z : Int} (h : isMk [x, y, z] = true) (n : Nat) (hn : n ≤ 2) (hm : mvN x y z n ≤ 1000000000) : ∃ k : Nat, k ≤ 2 ∧ moveOf (mv x y z n) (k : Int) = ([x, y, z], true) := by
  obtain ⟨h1, h2, h3, h4, h5, h6⟩ := isMk_iff.1 h
  obtain ⟨a, b, c, hR, hcase⟩ := roots_of h n hn
  have hu := mv_is h n hn hm
  have hs : srt a b c = [x, y, z] := by
    rw [← srt_id h4 h5]
    rcases hcase with ⟨_, rfl, rfl, rfl⟩ | ⟨_, rfl, rfl, rfl⟩ | ⟨_, rfl, rfl, rfl⟩
    · exact (srt_rot _ _ _).symm
    · exact srt_rot _ _ _
    · rfl
  have hs2 : srt b a c = [x, y, z] := by rw [← srt_ex]; exact hs
  have hab : 3 * b * a = 3 * a * b := by grind
  rw [hR.mv] at hu ⊢
  have hc := hR.hc
  rcases srt_cases a b (3 * a * b - c) with ⟨c1, c2, e⟩ | ⟨c1, c2, e⟩ | ⟨c1, c2, e⟩ | ⟨c1, c2, e⟩ | ⟨c1, c2, e⟩ | ⟨c1, c2, e⟩ <;> rw [e] at hu ⊢
  · refine ⟨2, by omega, ?_⟩
    rw [moveOf_at hu 2 (by omega) (by show 3 * a * b - (3 * a * b - c) ≤ _; omega)]
    show (srt a b (3 * a * b - (3 * a * b - c)), true) = _
    rw [show 3 * a * b - (3 * a * b - c) = c by omega, hs]
  · refine ⟨1, by omega, ?_⟩
    rw [moveOf_at hu 1 (by omega) (by show 3 * b * a - (3 * a * b - c) ≤ _; omega)]
    show (srt b a (3 * b * a - (3 * a * b - c)), true) = _
    rw [show 3 * b * a - (3 * a * b - c) = c by omega, hs2]
  · refine ⟨2, by omega, ?_⟩
    rw [moveOf_at hu 2 (by omega) (by show 3 * b * a - (3 * a * b - c) ≤ _; omega)]
    show (srt b a (3 * b * a - (3 * a * b - c)), true) = _
    rw [show 3 * b * a - (3 * a * b - c) = c by omega, hs2]
  · refine ⟨1, by omega, ?_⟩
    rw [moveOf_at hu 1 (by omega) (by show 3 * a * b - (3 * a * b - c) ≤ _; omega)]
    show (srt a b (3 * a * b - (3 * a * b - c)), true) = _
    rw [show 3 * a * b - (3 * a * b - c) = c by omega, hs]
  · refine ⟨0, by omega, ?_⟩
    rw [moveOf_at hu 0 (by omega) (by show 3 * a * b - (3 * a * b - c) ≤ _; omega)]
    show (srt a b (3 * a * b - (3 * a * b - c)), true) = _
    rw [show 3 * a * b - (3 * a * b - c) = c by omega, hs]
  · refine ⟨0, by omega, ?_⟩
    rw [moveOf_at hu 0 (by omega) (by show 3 * b * a - (3 * a * b - c) ≤ _; omega)]
    show (srt b a (3 * b * a - (3 * a * b - c)), true) = _
    rw [show 3 * b * a - (3 * a * b - c) = c by omega, hs2]
/-- A triple above comes down again. -/
theorem up_back {most : Int} (hm : most ≤ 1000000000) {l u : List Int} (h : isMk l = true) (hu : u ∈ upsL most l) : downOf u = (l, true) ∧ rd l 2 < rd u 2 := by
  have hmk := upsL_mk hm h hu
  obtain ⟨x, y, z, rfl⟩ := isMk_three h
  obtain ⟨h1, h2, h3, h4, h5, h6⟩ := isMk_iff.1 h
  obtain ⟨b1, b2, b3⟩ := up_big h
  replace hu : u ∈ (if 3 * x * z - y ≤ most then [[x, z, 3 * x * z - y]] else []) ++ (if 3 * y * z - x ≤ most ∧ x ≠ y then [[y, z, 3 * y * z - x]] else []) := hu
  have hgo : ∀ a b n : Int, isMk [a, b, n] = true → n ≠ 1 → srt a b (3 * a * b - n) = [x, y, z] → downOf [a, b, n] = ([x, y, z], true) := by
    intro a b n hk hn hs
    show (if _ then _ else _) = _
    rw [hk, decide_eq_false hn]
    show (srt a b (3 * a * b - n), true) = _
    rw [hs]
  have hsid := srt_id h4 h5
  rcases List.mem_append.1 hu with hu | hu
  · split at hu
    · obtain rfl := List.mem_singleton.1 hu
      refine ⟨hgo _ _ _ hmk.1 (by omega) ?_, by show z < 3 * x * z - y; omega⟩
      rw [show 3 * x * z - (3 * x * z - y) = y by omega, ← hsid, srt_rot x y z, srt_rot y z x, srt_ex]
    · simp at hu
  · split at hu
    · obtain rfl := List.mem_singleton.1 hu
      refine ⟨hgo _ _ _ hmk.1 (by omega) ?_, by show z < 3 * y * z - x; omega⟩
      rw [show 3 * y * z - (3 * y * z - x) = x by omega, ← hsid, srt_rot x y z]
    · simp at hu
/-- .. and below one other than 1 1 1 lies a triple with a less greatest number. -/
theorem down_below {l : List Int} (h : isMk l = true) (hz : 1 < rd l 2) : (downOf l).2 = true ∧ rd (downOf l).1 2 < rd l 2 ∧ isMk (downOf l).1 = true ∧ (downOf l).1.length = 3 := by
  obtain ⟨x, y, z, rfl⟩ := isMk_three h
  obtain ⟨h1, h2, h3, h4, h5, h6⟩ := isMk_iff.1 h
  have hz2 : 1 < z := hz
  have hb := below h hz2
  have hdo : downOf [x, y, z] = (mv x y z 2, true) := by
    show (if _ then _ else _) = _
    rw [h, decide_eq_false (by omega)]
    rfl
  rw [hdo]
  refine ⟨rfl, ?_, mv_is h 2 (Nat.le_refl _) (by show 3 * x * y - z ≤ _; omega), mv_length x y z 2⟩
  show rd (srt x y (3 * x * y - z)) 2 < z
  rw [srt_two]
  unfold hi2
  split <;> split <;> omega
theorem down_top {l : List Int} (h : isMk l = true) : (downOf l).2 = decide (rd l 2 > 1) := by
  obtain ⟨x, y, z, rfl⟩ := isMk_three h
  obtain ⟨h1, h2, h3, h4, h5, h6⟩ := isMk_iff.1 h
  show (if isMk [x, y, z] && !decide (z = 1) then _ else _ : List Int × Bool).2 = decide (z > 1)
  rw [h]
  by_cases hz : z = 1
  · rw [decide_eq_true hz, decide_eq_false (by omega)]
    rfl
  · rw [decide_eq_false hz, decide_eq_true (by omega)]
    rfl
/-- dSame tells equality. -/
theorem dSame_from (a b : List Int) (hl : a.length = b.length) (hn : a.length ≤ 4611686018427387904) (d : Nat) : ∀ i : Nat, i + d = a.length → a.take i = b.take i → Ev (fun k => laws_dSame.l0 k a b (a.length : Int) (i : Int)) (decide (a = b)) := by
  induction d with
  | zero =>
    intro i hi ht
    rw [List.take_of_length_le (by omega), List.take_of_length_le (by omega)] at ht
    refine Ev.step (fun k => by simp only [laws_dSame.l0]; rw [if_neg (by omega)]) ?_
    exact Ev.is (by rw [decide_eq_true ht])
  | succ d ih =>
    intro i hi ht
    by_cases h : rd a (i : Int) = rd b (i : Int)
    · have hr := ih (i + 1) (by omega) (by rw [List.take_succ_eq_append_getElem (by omega), List.take_succ_eq_append_getElem (by omega), ht, ← rd_lt a i (by omega), ← rd_lt b i (by omega), h])
      exact Ev.step (fun k => by simp only [laws_dSame.l0]; rw [if_pos (by omega), if_pos (by omega), if_pos (by omega), if_pos (by omega), if_pos h, w64_succ (n := a.length) (by omega) hn]) hr
    · have hd : decide (a = b) = false := decide_eq_false (fun e => h (by rw [e]))
      exact Ev.step (f := fun _ => some false) (fun k => by simp only [laws_dSame.l0]; rw [if_pos (by omega), if_pos (by omega), if_pos (by omega), if_pos (by omega), if_neg h]) (Ev.is (by rw [hd]))
theorem dSame_ev (a b : List Int) (hn : a.length ≤ 4611686018427387904) : Ev (fun k => laws_dSame.f k a b) (decide (a = b)) := by
  unfold laws_dSame.f
  by_cases hl : a.length = b.length
  · simp only [hl, if_true]
    have := dSame_from a b hl hn a.length 0 (by omega) rfl
    rw [hl] at this
    exact this
  · have h : ¬ (a.length : Int) = (b.length : Int) := by omega
    simp only [h, if_false]
    have hd : decide (a = b) = false := decide_eq_false (fun e => hl (by rw [e]))
    exact Ev.is (by rw [hd])
end Go.Proofs.Ythkmbkibceojlaa.P

-- UdLists
namespace Go.Proofs.Ythkmbkibceojlaa.P
set_option linter.unusedVariables false
set_option linter.unusedSimpArgs false
open Go.RowKit Go.Proofs.YthkmbkibceojlaaW.PrintWords Go.Proofs.YthkmbkibceojlaaW.PrintLast Go.Proofs.YthkmbkibceojlaaW.PrintMore
theorem rdL1_get (L : List (List Int)) (i : Nat) (hi : i < L.length) : rd_L1 L (i : Int) = L[i] := by
  unfold rd_L1
  rw [Int.toNat_natCast, List.getD_eq_getElem?_getD, List.getElem?_eq_getElem hi]
  rfl
theorem dLists_from (W : List (List Int)) (hn : W.length ≤ 5000000000) (hs : ∀ x ∈ W, x.length ≤ 1000000) (d : Nat) : ∀ i : Nat, i + d = W.length → Ev (fun k => laws_dLists.l0 k W W (W.length : Int) (i : Int)) true := by
  induction d with
  | zero =>
    intro i hi
    exact Ev.step (f := fun _ => some true) (fun k => by simp only [laws_dLists.l0]; rw [if_neg (by omega)]) (Ev.is rfl)
  | succ d ih =>
    intro i hi
    have hil : i < W.length := by omega
    have hv := dSame_ev W[i] W[i] (by have := hs _ (List.getElem_mem hil); omega)
    rw [decide_eq_true rfl] at hv
    refine Ev.step (f := fun k => (laws_dSame.f k W[i] W[i]).bind fun t => if t = true then laws_dLists.l0 k W W (W.length : Int) ((i + 1 : Nat) : Int) else some false) (fun k => ?_) (Ev.bind hv ?_)
    · simp only [laws_dLists.l0]
      rw [if_pos (by omega), if_pos (by omega), if_pos (by omega), if_pos (by omega), rdL1_get W i hil, w64_succ (n := W.length) (by omega) (by omega)]
    · simp only [if_true]
      exact ih (i + 1) (by omega)
theorem dLists_ev (W : List (List Int)) (hn : W.length ≤ 5000000000) (hs : ∀ x ∈ W, x.length ≤ 1000000) : Ev (fun k => laws_dLists.f k W W) true := by
  unfold laws_dLists.f
  simp only [if_true]
  exact dLists_from W hn hs W.length 0 (by omega)
end Go.Proofs.Ythkmbkibceojlaa.P

-- PureFnMarkovMoves
namespace Go.Proofs.Ythkmbkibceojlaa.Pure
set_option linter.unusedVariables false
set_option linter.unusedSimpArgs false
open Go.RowKit Go.Proofs.Ythkmbkibceojlaa.P Go.Proofs.YthkmbkibceojlaaW.PrintWords Go.Proofs.YthkmbkibceojlaaW.PrintLast Go.Proofs.YthkmbkibceojlaaW.PrintMore
def upAll (l : List Int) : List (List Int) × Bool := if isMk l then (upsL 1000000000 l, true) else ([], false)
theorem spec_MarkovUp_ev (l : List Int) : Ev (fun k => spec_MarkovUp.f k l) (upAll l) := by
  unfold spec_MarkovUp.f upAll
  refine Ev.bind0 (mkGood_is l) ?_
  cases h : isMk l with
  | false =>
    simp only [Bool.false_eq_true, if_false]
    exact Ev.is rfl
  | true =>
    simp only [if_true]
    exact Ev.bind (mkUp_ev h) (Ev.is rfl)
theorem MarkovUp_ev (l : List Int) : Ev (fun k => impl_MarkovUp.f k l) (upAll l) := by
  unfold impl_MarkovUp.f upAll
  refine Ev.bind (IsMarkov_ev l) ?_
  cases h : isMk l with
  | false =>
    simp only [Bool.false_eq_true, if_false]
    exact Ev.is rfl
  | true =>
    simp only [if_true]
    exact Ev.bind (ups_ev (Int.le_refl _) h) (Ev.is rfl)
theorem ups_two (most : Int) (l : List Int) : (upsL most l).length ≤ 2 := by
  match l with
  | [x, y, z] =>
    have h : ∀ (p q : Prop) [Decidable p] [Decidable q] (a b : List Int), ((if p then [a] else []) ++ (if q then [b] else [])).length ≤ 2 := by
      intro p q _ _ a b
      by_cases hp : p <;> by_cases hq : q <;> simp [hp, hq]
    exact h _ _ _ _
  | [] => simp [upsL]
  | [_] => simp [upsL]
  | [_, _] => simp [upsL]
  | _ :: _ :: _ :: _ :: _ => simp [upsL]
theorem mk_len3 {l : List Int} (h : isMk l = true) : l.length = 3 := by
  obtain ⟨x, y, z, rfl⟩ := isMk_three h
  rfl
/-- The search for the move back. -/
theorem back_loop (l1 t u : List Int) (hend : Ev (fun k => laws_FnMarkovMoves.j2 k l1) true) (d : Nat) : ∀ (i : Nat) (f : Bool), i + d = 3 → (f = true ∨ ∃ k : Nat, i ≤ k ∧ k ≤ 2 ∧ moveOf u (k : Int) = (t, true)) → Ev (fun k => laws_FnMarkovMoves.l0 k l1 t u f (i : Int)) true := by
  induction d with
  | zero =>
    intro i f hi hf
    have hft : f = true := by
      rcases hf with h | ⟨k, h1, h2, _⟩
      · exact h
      · omega
    subst hft
    refine Ev.step (fun k => ?_) hend
    simp only [laws_FnMarkovMoves.l0]
    rw [if_neg (by omega)]
    simp only [if_true]
  | succ d ih =>
    intro i f hi hf
    have hM := (Move_law u (i : Int)).2
    have hml := moveOf_len u (i : Int)
    have hw : wrap64 ((i : Int) + 1) = ((i + 1 : Nat) : Int) := w64_succ (n := 10) (by omega) (by omega)
    refine Ev.step (f := fun k => (impl_MarkovMove.f k u (i : Int)).bind fun bt859 => (if f = true then (laws_FnMarkovMoves.l0 k l1 t u true ((i + 1 : Nat) : Int)) else (if bt859.2 = true then ((laws_dSame.f k bt859.1 t).bind fun t863 => (laws_FnMarkovMoves.l0 k l1 t u t863 ((i + 1 : Nat) : Int))) else (laws_FnMarkovMoves.l0 k l1 t u false ((i + 1 : Nat) : Int))))) (fun k => ?_) (Ev.bind hM ?_)
    · simp only [laws_FnMarkovMoves.l0]
      rw [if_pos (by omega), hw]
    · cases f with
      | true =>
        simp only [if_true]
        exact ih (i + 1) true (by omega) (.inl rfl)
      | false =>
        simp only [Bool.false_eq_true, if_false]
        rcases hf with h | ⟨k, h1, h2, h3⟩
        · simp at h
        · by_cases hik : k = i
          · subst hik
            rw [h3]
            simp only [if_true]
            have hs := dSame_ev t t (by rw [h3] at hml; exact Nat.le_trans hml (by omega))
            rw [decide_eq_true rfl] at hs
            exact Ev.bind hs (ih (k + 1) true (by omega) (.inl rfl))
          · have hr := fun g => ih (i + 1) g (by omega) (.inr ⟨k, by omega, h2, h3⟩)
            cases hb : (moveOf u (i : Int)).2 with
            | false =>
              simp only [Bool.false_eq_true, if_false]
              exact hr false
            | true =>
              simp only [if_true]
              exact Ev.bind (dSame_ev _ t (by omega)) (hr _)
theorem up_loop (l1 v dn : List Int) (ok : Bool) (hv : isMk v = true) (hend : Ev (fun k => (if ok = true then (if 2 < (dn.length : Int) then (if 2 < (v.length : Int) then (if (rd dn 2) ≥ (rd v 2) then (laws_FnMarkovMoves.j6 k l1 true) else ((impl_IsMarkov.f k dn).bind fun t897 => (laws_FnMarkovMoves.j6 k l1 (!t897)))) else (none)) else (none)) else (laws_FnMarkovMoves.j6 k l1 false))) true) (d : Nat) : ∀ i : Nat, i + d = (upsL 1000000000 v).length → Ev (fun k => laws_FnMarkovMoves.l1 k l1 v dn ok (upsL 1000000000 v) ((upsL 1000000000 v).length : Int) (i : Int)) true := by
  have h2 := ups_two 1000000000 v
  have hvl := mk_len3 hv
  induction d with
  | zero =>
    intro i hi
    refine Ev.step (fun k => ?_) hend
    simp only [laws_FnMarkovMoves.l1]
    rw [if_neg (by omega)]
  | succ d ih =>
    intro i hi
    have hil : i < (upsL 1000000000 v).length := by omega
    have hm := List.getElem_mem hil
    have hb := up_back (Int.le_refl _) hv hm
    have hmk := (upsL_mk (Int.le_refl _) hv hm).1
    have hD := (Down_law (upsL 1000000000 v)[i]).2
    rw [hb.1] at hD
    have hs := dSame_ev v v (by omega)
    rw [decide_eq_true rfl] at hs
    have hul := mk_len3 hmk
    have hc : (2 : Int) < ((upsL 1000000000 v)[i].length : Int) := by omega
    have hc2 : (2 : Int) < (v.length : Int) := by omega
    have hc3 : ¬ (rd (upsL 1000000000 v)[i] 2 ≤ rd v 2) := by omega
    refine Ev.step (f := fun k => (impl_MarkovDown.f k (upsL 1000000000 v)[i]).bind fun bt891 => (if bt891.2 = true then ((laws_dSame.f k bt891.1 v).bind fun t895 => (if t895 = true then (laws_FnMarkovMoves.j5 k l1 v dn ok (upsL 1000000000 v) ((upsL 1000000000 v).length : Int) (i : Int) false) else (laws_FnMarkovMoves.j5 k l1 v dn ok (upsL 1000000000 v) ((upsL 1000000000 v).length : Int) (i : Int) true))) else (laws_FnMarkovMoves.j5 k l1 v dn ok (upsL 1000000000 v) ((upsL 1000000000 v).length : Int) (i : Int) true))) (fun k => ?_) (Ev.bind hD ?_)
    · simp only [laws_FnMarkovMoves.l1]
      rw [if_pos (by omega), if_pos (by omega), if_pos (by omega), rdL1_get _ i hil]
      simp only [hc, hc2, decide_eq_false hc3, if_true]
    · simp only [if_true]
      refine Ev.bind hs ?_
      simp only [if_true]
      refine Ev.step (fun k => ?_) (ih (i + 1) (by omega))
      simp only [laws_FnMarkovMoves.j5, Bool.false_eq_true, if_false]
      rw [w64_succ hil (by omega)]
theorem last_part (l1 : List Int) (hc : Bytes l1) : Ev (fun k => laws_FnMarkovMoves.j7 k l1) true := by
  obtain ⟨t, a1, s1, e1, ht, h1, h2⟩ := markov_ok l1 hc 0 0 (by decide) (by decide)
  obtain ⟨l, hl⟩ : ∃ l, Ev (fun k => spec_DrawSolvesMarkov.f k l1) l := by
    unfold spec_DrawSolvesMarkov.f
    obtain ⟨v, a2, s2, e2, _, _⟩ := one_ok l1 hc a1 s1 2 h1 (by omega) (by decide)
    by_cases c : (t.length : Int) = 3
    · cases v with
      | true =>
        refine ⟨_, Ev.bind e1 (Ev.is (r := [rd t 1, rd t 2, rd t 0]) ?_)⟩
        have c1 : (1 : Int) < (t.length : Int) := by omega
        have c2 : (2 : Int) < (t.length : Int) := by omega
        have c3 : (0 : Int) < (t.length : Int) := by omega
        show (if (t.length : Int) = 3 then _ else _) = _
        rw [if_pos c, e2]
        simp only [Option.bind_some, if_true]
        rw [if_pos c1, if_pos c2, if_pos c3]
      | false =>
        refine ⟨t, Ev.bind e1 (Ev.is ?_)⟩
        show (if (t.length : Int) = 3 then _ else _) = _
        rw [if_pos c, e2]
        rfl
    · refine ⟨t, Ev.bind e1 (Ev.is ?_)⟩
      show (if (t.length : Int) = 3 then _ else _) = _
      rw [if_neg c]
  obtain ⟨p1, p2⟩ := SolvesMarkov_both l
  refine Ev.step (fun k => by simp only [laws_FnMarkovMoves.j7]; rfl) (Ev.bind hl (Ev.bind0 p2 (Ev.bind p1 ?_)))
  simp only [bne_self_eq_false, Bool.false_eq_true, if_false]
  cases hs : (solvesOf l).1 with
  | false =>
    exact Ev.step (f := fun _ => some true) (fun k => by simp only [laws_FnMarkovMoves.j8, Bool.false_eq_true, if_false]) (Ev.is rfl)
  | true =>
    have h3 : l.length = 3 := by
      rcases Nat.decEq l.length 3 with h | h
      · rw [solvesOf_no l h] at hs; simp at hs
      · exact h
    obtain ⟨x, y, z, rfl⟩ := three_of l h3
    have he : solvesOf [x, y, z] = if [x, y, z].all (inB 1 1000000000) = true then (mkEq x y z, true) else (false, false) := rfl
    have hall : [x, y, z].all (inB 1 1000000000) = true := by
      cases h : [x, y, z].all (inB 1 1000000000) with
      | false => rw [he, h] at hs; simp at hs
      | true => rfl
    rw [he, hall] at hs
    have hq : mkEq x y z = true := hs
    have hall2 : [z, x, y].all (inB 1 1000000000) = true := by
      simp only [List.all_cons, List.all_nil, Bool.and_true, Bool.and_eq_true] at hall ⊢
      exact ⟨hall.2.2, hall.1, hall.2.1⟩
    have he2 : solvesOf [z, x, y] = (true, true) := by
      show (if [z, x, y].all (inB 1 1000000000) = true then (mkEq z x y, true) else (false, false)) = _
      rw [hall2, mkEq_rot z x y, hq]
      rfl
    have hS := (SolvesMarkov_both [z, x, y]).2
    rw [he2] at hS
    refine Ev.step (f := fun _ => some true) (fun k => ?_) (Ev.is rfl)
    have r0 : rd [x, y, z] 0 = x := rfl
    have r1 : rd [x, y, z] 1 = y := rfl
    have r2 : rd [x, y, z] 2 = z := rfl
    have hl3 : (([x, y, z] : List Int).length : Int) = 3 := rfl
    simp only [laws_FnMarkovMoves.j8, Bool.false_eq_true, if_false, if_true, hl3, r0, r1, r2]
    rw [if_pos (by decide), if_pos (by decide), if_pos (by decide), hS]
    rfl
theorem second_part (l1 : List Int) (hc : Bytes l1) : Ev (fun k => laws_FnMarkovMoves.j2 k l1) true := by
  obtain ⟨v, a1, s1, e1, ht, h1, h2⟩ := markov_ok l1 hc 0 0 (by decide) (by decide)
  have hD : Ev (fun k => spec_DrawMarkovUp.f k l1) v := by
    unfold spec_DrawMarkovUp.f spec_DrawIsMarkov.f
    exact Ev.bind (a := v) (Ev.bind e1 (Ev.is rfl)) (Ev.is rfl)
  have hj5 := last_part l1 hc
  have hj6 : Ev (fun k => laws_FnMarkovMoves.j6 k l1 false) true := Ev.step (fun k => by simp only [laws_FnMarkovMoves.j6, Bool.false_eq_true, if_false]) hj5
  have hdl := downOf_len v
  have hun : (upAll v).1.length ≤ 5000000000 ∧ ∀ x ∈ (upAll v).1, x.length ≤ 1000000 := by
    unfold upAll
    cases h : isMk v with
    | false => simp
    | true =>
      simp only [if_true]
      refine ⟨by have := ups_two 1000000000 v; omega, fun x hx => ?_⟩
      rw [mk_len3 (upsL_mk (Int.le_refl _) h hx).1]
      decide
  have hs := dSame_ev (downOf v).1 (downOf v).1 (by omega)
  rw [decide_eq_true rfl] at hs
  refine Ev.step (fun k => by simp only [laws_FnMarkovMoves.j2]; rfl) (Ev.bind hD (Ev.bind (MarkovUp_ev v) (Ev.bind (spec_MarkovUp_ev v) (Ev.bind (Down_law v).2 (Ev.bind (Down_law v).1 ?_)))))
  simp only [bne_self_eq_false, Bool.false_eq_true, if_false]
  refine Ev.bind (dLists_ev _ hun.1 hun.2) ?_
  simp only [if_true]
  refine Ev.bind hs ?_
  simp only [if_true]
  refine Ev.bind (IsMarkov_ev v) ?_
  have hu2 : (upAll v).2 = isMk v := by unfold upAll; cases isMk v <;> rfl
  rw [hu2, bne_self_eq_false]
  cases h : isMk v with
  | false =>
    refine Ev.step (f := fun k => laws_FnMarkovMoves.j7 k l1) (fun k => ?_) hj5
    simp only [laws_FnMarkovMoves.j3, Bool.false_eq_true, if_false]
  | true =>
    have hvl := mk_len3 h
    have hu1 : (upAll v).1 = upsL 1000000000 v := by unfold upAll; rw [h]; rfl
    have hc2 : (2 : Int) < (v.length : Int) := by omega
    have hdt := down_top h
    rw [hu1, hdt]
    refine Ev.step (f := fun k => laws_FnMarkovMoves.l1 k l1 v (downOf v).1 (decide (rd v 2 > 1)) (upsL 1000000000 v) ((upsL 1000000000 v).length : Int) ((0 : Nat) : Int)) (fun k => ?_) (up_loop l1 v _ _ h ?_ (upsL 1000000000 v).length 0 (by omega))
    · simp only [laws_FnMarkovMoves.j3, Bool.false_eq_true, if_false, if_true, hc2, bne_self_eq_false]
      rfl
    · by_cases hz : rd v 2 > 1
      · obtain ⟨d1, d2, d3, d4⟩ := down_below h hz
        have c1 : (2 : Int) < ((downOf v).1.length : Int) := by omega
        have c2 : ¬ (rd (downOf v).1 2 ≥ rd v 2) := by omega
        simp only [decide_eq_true hz, if_true, c1, hc2, c2, if_false]
        refine Ev.bind (IsMarkov_ev _) ?_
        rw [d3]
        exact hj6
      · simp only [decide_eq_false hz, Bool.false_eq_true, if_false]
        exact hj6
theorem FnMarkovMoves : laws_FnMarkovMoves.Pure := by
  intro l0 l1 _ _ hb _ _ hb1
  refine Ev.rounds ?_
  unfold laws_FnMarkovMoves.f
  cases hbig : laws_big.f l0 l1 with
  | none => exact absurd hbig (by unfold laws_big.f; split <;> simp)
  | some t =>
    cases t with
    | true =>
      simp only [Option.bind_some, if_true]
      exact Ev.is rfl
    | false =>
      simp only [Option.bind_some, Bool.false_eq_true, if_false]
      have hc := bytes_of_u8 hb
      have hj2 := second_part l1 (bytes_of_u8 hb1)
      obtain ⟨t, a1, s1, e1, ht, h1, h2⟩ := markov_ok l0 hc 0 0 (by decide) (by decide)
      obtain ⟨i, a2, s2, e2, _, _, _⟩ := among_ok l0 hc a1 s1 [0, 1, 2, 3, (-1)] h1 (by omega) (by decide) (by decide)
      have hD : Ev (fun k => spec_DrawMarkovMove.f k l0) (t, i) := by
        unfold spec_DrawMarkovMove.f
        refine Ev.bind (a := (t, a1, s1)) e1 (Ev.is ?_)
        show (spec_l1Cur_among.f l0 a1 s1 [0, 1, 2, 3, (-1)]).bind _ = _
        rw [e2]
        rfl
      obtain ⟨m1, m2⟩ := Move_law t i
      have hml := moveOf_len t i
      have hs := dSame_ev (moveOf t i).1 (moveOf t i).1 (by omega)
      rw [decide_eq_true rfl] at hs
      refine Ev.bind hD (Ev.bind m2 (Ev.bind m1 ?_))
      simp only [bne_self_eq_false, Bool.false_eq_true, if_false]
      refine Ev.bind hs ?_
      cases hok : (moveOf t i).2 with
      | false =>
        refine Ev.step (fun k => ?_) hj2
        simp only [laws_FnMarkovMoves.j0, Bool.not_true, Bool.false_eq_true, if_false]
      | true =>
        obtain ⟨x, y, z, n, rfl, rfl, hn, hk, hm, he⟩ := moveOf_true hok
        have hu := mv_is hk n hn hm
        obtain ⟨k, hk2, hbk⟩ := move_back hk n hn hm
        have hI := IsMarkov_ev (mv x y z n)
        rw [hu] at hI
        rw [he]
        refine Ev.step (f := fun k => (impl_IsMarkov.f k (mv x y z n)).bind fun t858 => (if t858 = true then (laws_FnMarkovMoves.l0 k l1 [x, y, z] (mv x y z n) false ((0 : Nat) : Int)) else (some false))) (fun k => ?_) (Ev.bind hI ?_)
        · simp only [laws_FnMarkovMoves.j0, Bool.not_true, Bool.false_eq_true, if_false, if_true]
          rfl
        · simp only [if_true]
          exact back_loop l1 [x, y, z] (mv x y z n) hj2 3 0 false (by omega) (.inr ⟨k, by omega, hk2, hbk⟩)
end Go.Proofs.Ythkmbkibceojlaa.Pure
