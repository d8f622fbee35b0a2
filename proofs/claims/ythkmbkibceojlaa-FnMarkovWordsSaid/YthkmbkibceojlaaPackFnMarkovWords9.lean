/- The path leads down to 1 1 1, the word and the triple undo each other, the root is a root. No condition. -/
import Derived.Test.YthkmbkibceojlaaPackFnMarkovWords8
import Derived.Sort.Statements
import Derived.Shelf.RegionOpenPlain
import Derived.WalkKit
import Derived.Deep.LoopGhost
import Derived.Deep.Draws
import Derived.Lib.Walk
import Derived.Sort.WalkB12
import Derived.Lib.SliceRun
import Derived.Lib.SlKept
import Derived.Shelf.SlicesE.Kit
import Derived.Sort.WalkA
import Derived.Test.YthkmbkibceojlaaLib
import Derived.Shelf.SlSortCmp.NoneTotal
-- Ucmp
namespace Go.Proofs.Ythkmbkibceojlaa.P
open Go.RowKit Go.Proofs.YthkmbkibceojlaaW.PrintWords Go.Proofs.YthkmbkibceojlaaW.PrintLast
set_option linter.unusedVariables false
set_option linter.unusedSimpArgs false

end Go.Proofs.Ythkmbkibceojlaa.P

-- UsortDedup
namespace Go.Proofs.Ythkmbkibceojlaa.P
set_option linter.unusedVariables false
set_option linter.unusedSimpArgs false

end Go.Proofs.Ythkmbkibceojlaa.P

-- UrowsCompact
namespace Go.Proofs.Ythkmbkibceojlaa.P
set_option linter.unusedVariables false
set_option linter.unusedSimpArgs false
open Go.Shelf Go.Lib Go.Sort Go.RowKit Go.Proofs.YthkmbkibceojlaaW.PrintWords Go.Proofs.YthkmbkibceojlaaW.PrintLast

end Go.Proofs.Ythkmbkibceojlaa.P

-- UrowsSort
namespace Go.Proofs.Ythkmbkibceojlaa.P
set_option linter.unusedVariables false
set_option linter.unusedSimpArgs false
open Go.RowKit Go.Proofs.YthkmbkibceojlaaW.PrintWords Go.Proofs.YthkmbkibceojlaaW.PrintLast

/-- A row's inner row: its value, and what it holds. -/
structure RowAt (w : World) (base : Nat) (ok : Nat → Prop) (Pr : List Int → Prop) where
  l : List Int
  v : Value
  hR : Kd.R (Kd.int .i64) 3 w base ok v l
  hP : Pr l
theorem RowAt.one {w : World} {base : Nat} {ok : Nat → Prop} {Pr : List Int → Prop} (x : RowAt w base ok Pr) : x.v.oneCell' = true := by
  obtain ⟨A, c, e⟩ := Kd.R_slice x.hR
  rw [e]
  rfl
end Go.Proofs.Ythkmbkibceojlaa.P

-- Gups
namespace Go.Proofs.Ythkmbkibceojlaa.P
open Go.Shelf Go.RowKit Go.Proofs.YthkmbkibceojlaaW.PrintWords Go.Proofs.YthkmbkibceojlaaW.PrintLast
set_option linter.unusedVariables false
set_option linter.unusedSimpArgs false

end Go.Proofs.Ythkmbkibceojlaa.P

-- UmkUp
namespace Go.Proofs.Ythkmbkibceojlaa.P
set_option linter.unusedVariables false
set_option linter.unusedSimpArgs false
open Go.RowKit Go.Proofs.YthkmbkibceojlaaW.PrintWords Go.Proofs.YthkmbkibceojlaaW.PrintLast Go.Proofs.YthkmbkibceojlaaW.PrintMore

/-- The triples above, up to a bound. -/
def upsL (most : Int) : List Int → List (List Int)
  | [x, y, z] => (if 3 * x * z - y ≤ most then [[x, z, 3 * x * z - y]] else []) ++ (if 3 * y * z - x ≤ most ∧ x ≠ y then [[y, z, 3 * y * z - x]] else [])
  | _ => []
theorem up_big {x y z : Int} (h : isMk [x, y, z] = true) : 2 * z ≤ 3 * x * z - y ∧ 3 * x * z - y ≤ 3 * y * z - x ∧ 3 * z * x = 3 * x * z := by
  obtain ⟨h1, h2, h3, h4, h5, h6⟩ := isMk_iff.1 h
  have e0 : 3 * z * x = 3 * x * z := by grind
  have e1 : 3 * x * z = 3 * (x * z) := Int.mul_assoc _ _ _
  have e2 : z ≤ x * z := by
    have := Int.mul_le_mul_of_nonneg_right (show 1 ≤ x by omega) (show 0 ≤ z by omega)
    omega
  have e3 : 3 * y * z = 3 * (y * z) := Int.mul_assoc _ _ _
  have e4 : x * z ≤ y * z := Int.mul_le_mul_of_nonneg_right h4 (by omega)
  refine ⟨?_, ?_, e0⟩ <;> omega
theorem mv_one {x y z : Int} (h : isMk [x, y, z] = true) : mv x y z 1 = [x, z, 3 * x * z - y] := by
  obtain ⟨b1, b2, b3⟩ := up_big h
  obtain ⟨h1, h2, h3, h4, h5, h6⟩ := isMk_iff.1 h
  show srt z x (3 * z * x - y) = _
  rw [b3]
  generalize 3 * x * z - y = n at b1
  rcases srt_cases z x n with ⟨c1, c2, e⟩ | ⟨c1, c2, e⟩ | ⟨c1, c2, e⟩ | ⟨c1, c2, e⟩ | ⟨c1, c2, e⟩ | ⟨c1, c2, e⟩ <;> rw [e] <;> first | rfl | (exfalso; omega) | (simp only [List.cons.injEq, and_true, true_and]; omega)
theorem mv_zero {x y z : Int} (h : isMk [x, y, z] = true) : mv x y z 0 = [y, z, 3 * y * z - x] := by
  obtain ⟨b1, b2, b3⟩ := up_big h
  obtain ⟨h1, h2, h3, h4, h5, h6⟩ := isMk_iff.1 h
  show srt y z (3 * y * z - x) = _
  generalize 3 * y * z - x = n at b2
  have hn : 2 * z ≤ n := by omega
  rcases srt_cases y z n with ⟨c1, c2, e⟩ | ⟨c1, c2, e⟩ | ⟨c1, c2, e⟩ | ⟨c1, c2, e⟩ | ⟨c1, c2, e⟩ | ⟨c1, c2, e⟩ <;> rw [e] <;> first | rfl | (exfalso; omega) | (simp only [List.cons.injEq, and_true, true_and]; omega)
theorem upsL_mk {most : Int} (hm : most ≤ 1000000000) {l u : List Int} (h : isMk l = true) (hu : u ∈ upsL most l) : isMk u = true ∧ 2 * rd l 2 ≤ rd u 2 ∧ rd u 2 ≤ most := by
  obtain ⟨x, y, z, rfl⟩ := mk_three h
  obtain ⟨b1, b2, b3⟩ := up_big h
  replace hu : u ∈ (if 3 * x * z - y ≤ most then [[x, z, 3 * x * z - y]] else []) ++ (if 3 * y * z - x ≤ most ∧ x ≠ y then [[y, z, 3 * y * z - x]] else []) := hu
  rcases List.mem_append.1 hu with hu | hu
  · split at hu
    · obtain rfl := List.mem_singleton.1 hu
      have := mv_is h 1 (by omega) (by show 3 * z * x - y ≤ _; omega)
      rw [mv_one h] at this
      exact ⟨this, b1, by assumption⟩
    · simp at hu
  · split at hu
    · rename_i c
      obtain rfl := List.mem_singleton.1 hu
      have := mv_is h 0 (by omega) (by show 3 * y * z - x ≤ _; omega)
      rw [mv_zero h] at this
      exact ⟨this, by show 2 * z ≤ 3 * y * z - x; omega, c.1⟩
    · simp at hu

theorem sameS_from (a b : List Int) (hl : a.length = b.length) (hn : a.length ≤ 4611686018427387904) (d : Nat) : ∀ i : Nat, i + d = a.length → a.take i = b.take i → Ev (fun k => spec_l1Same.l0 k a b (a.length : Int) (i : Int)) (decide (a = b)) := by
  induction d with
  | zero =>
    intro i hi ht
    rw [List.take_of_length_le (by omega), List.take_of_length_le (by omega)] at ht
    refine Ev.step (fun k => by simp only [spec_l1Same.l0]; rw [if_neg (by omega)]) ?_
    exact Ev.is (by rw [decide_eq_true ht])
  | succ d ih =>
    intro i hi ht
    by_cases h : rd a (i : Int) = rd b (i : Int)
    · have hr := ih (i + 1) (by omega) (by rw [List.take_succ_eq_append_getElem (by omega), List.take_succ_eq_append_getElem (by omega), ht, ← rd_lt a i (by omega), ← rd_lt b i (by omega), h])
      exact Ev.step (fun k => by simp only [spec_l1Same.l0]; rw [if_pos (by omega), if_pos (by omega), if_pos (by omega), if_pos (by omega), if_pos h, w64_succ (n := a.length) (by omega) hn]) hr
    · have hd : decide (a = b) = false := decide_eq_false (fun e => h (by rw [e]))
      exact Ev.step (f := fun _ => some false) (fun k => by simp only [spec_l1Same.l0]; rw [if_pos (by omega), if_pos (by omega), if_pos (by omega), if_pos (by omega), if_neg h]) (Ev.is (by rw [hd]))
theorem sameS_ev (a b : List Int) (hn : a.length ≤ 4611686018427387904) : Ev (fun k => spec_l1Same.f k a b) (decide (a = b)) := by
  unfold spec_l1Same.f
  by_cases hl : a.length = b.length
  · simp only [hl, if_true]
    have := sameS_from a b hl hn a.length 0 (by omega) rfl
    rw [hl] at this
    exact this
  · have h : ¬ (a.length : Int) = (b.length : Int) := by omega
    simp only [h, if_false]
    have hd : decide (a = b) = false := decide_eq_false (fun e => hl (by rw [e]))
    exact Ev.is (by rw [hd])
theorem mkUp_ev {l : List Int} (h : isMk l = true) : Ev (fun k => spec_mkUp.f k l) (upsL 1000000000 l) := by
  obtain ⟨x, y, z, rfl⟩ := mk_three h
  obtain ⟨b1, b2, b3⟩ := up_big h
  obtain ⟨h1, h2, h3, h4, h5, h6⟩ := isMk_iff.1 h
  have m1 := mkMove_is h 1 (by omega)
  have m0 := mkMove_is h 0 (by omega)
  have e1 : mvOf x y z 1 = if 3 * x * z - y > 1000000000 then ([], false) else ([x, z, 3 * x * z - y], true) := by
    unfold mvOf
    rw [mv_one h]
    show (if 3 * z * x - y > 1000000000 then _ else _) = _
    rw [b3]
  have e0 : mvOf x y z 0 = if 3 * y * z - x > 1000000000 then ([], false) else ([y, z, 3 * y * z - x], true) := by
    unfold mvOf
    rw [mv_zero h]
    rfl
  have w1 : wrap64 (1 - 1) = 0 := by decide +kernel
  have w0 : wrap64 (0 - 1) = -1 := by decide +kernel
  have hend : ∀ o : List (List Int), Ev (fun k => spec_mkUp.l0 k [x, y, z] o (-1)) o := fun o => by
    refine Ev.step (f := fun _ => some o) (fun k => by simp only [spec_mkUp.l0]; rw [if_neg (by omega)]) (Ev.is rfl)
  have hg : ∀ n : Int, 2 * z ≤ n → n > z := fun n hn => by omega
  have hl3 : ∀ a b c : Int, (([a, b, c] : List Int).length : Int) = 3 := fun _ _ _ => rfl
  have hr2 : ∀ a b c : Int, rd [a, b, c] 2 = c := fun _ _ _ => rfl
  have hq : (2 : Int) < 3 := by decide
  unfold spec_mkUp.f
  show Ev _ ((if 3 * x * z - y ≤ 1000000000 then [[x, z, 3 * x * z - y]] else []) ++ (if 3 * y * z - x ≤ 1000000000 ∧ x ≠ y then [[y, z, 3 * y * z - x]] else []))
  have hnn : x = y → 3 * x * z - y = 3 * y * z - x := fun e => by rw [e]
  generalize 3 * x * z - y = n1 at *
  generalize 3 * y * z - x = n0 at *
  have step0 : ∀ o : List (List Int), (o = [] ∧ ¬ n0 ≤ 1000000000) ∨ o = [[x, z, n1]] → Ev (fun k => spec_mkUp.l0 k [x, y, z] o 0) (o ++ (if n0 ≤ 1000000000 ∧ x ≠ y then [[y, z, n0]] else [])) := by
    intro o ho
    by_cases c0 : n0 > 1000000000
    · rw [if_neg (by omega)]
      rw [if_pos c0] at e0
      rw [List.append_nil]
      refine Ev.step (fun k => ?_) (hend o)
      simp only [spec_mkUp.l0]
      rw [if_pos (by omega), show spec_mkMove.f [x, y, z] 0 = _ from m0, e0]
      simp only [Option.bind_some, Bool.false_eq_true, if_false, w0]
    · rw [if_neg c0] at e0
      rcases ho with ⟨rfl, h0⟩ | rfl
      · omega
      · have c2 : n0 > z := hg _ (by omega)
        have hsm := sameS_ev [x, z, n1] [y, z, n0] (show 3 ≤ 4611686018427387904 by decide)
        have hrd : rd_L1 [[x, z, n1]] 0 = [x, z, n1] := rfl
        have hne : ¬ ((([[x, z, n1]] : List (List Int)).length : Int) = 0) := by simp
        have hp : 0 < ((([[x, z, n1]] : List (List Int)).length : Int)) := by simp
        have hlim : ([[x, z, n1]] : List (List Int)).length < 5864062014805 := by simp
        have hst : ∀ r, Ev (fun k => (spec_l1Same.f k [x, z, n1] [y, z, n0]).bind fun t => if t = true then spec_mkUp.l0 k [x, y, z] [[x, z, n1]] (-1) else spec_mkUp.l0 k [x, y, z] ([[x, z, n1]] ++ [[y, z, n0]]) (-1)) r → Ev (fun k => spec_mkUp.l0 k [x, y, z] [[x, z, n1]] 0) r := fun r hr => by
          refine Ev.step (fun k => ?_) hr
          simp only [spec_mkUp.l0]
          rw [if_pos (by omega), show spec_mkMove.f [x, y, z] 0 = _ from m0, e0]
          simp only [Option.bind_some, if_true, hl3, hr2, hq, c2, hne, if_false, hrd, hp, hlim, w0]
        refine hst _ (Ev.bind hsm ?_)
        by_cases hxy : x = y
        · have hd : decide ([x, z, n1] = [y, z, n0]) = true := by
            have hn : n1 = n0 := hnn hxy
            rw [hxy, hn]; exact decide_eq_true rfl
          rw [hd, if_neg (by intro hh; exact hh.2 hxy), List.append_nil]
          simp only [if_true]
          exact hend _
        · have hd : decide ([x, z, n1] = [y, z, n0]) = false := decide_eq_false (fun hh => hxy (List.cons.inj hh).1)
          rw [hd, if_pos ⟨by omega, hxy⟩]
          simp only [Bool.false_eq_true, if_false]
          exact hend _
  by_cases c1 : n1 > 1000000000
  · rw [if_pos c1] at e1
    rw [if_neg (show ¬ n1 ≤ 1000000000 by omega), List.nil_append]
    refine Ev.step (fun k => ?_) (step0 [] (.inl ⟨rfl, by omega⟩))
    simp only [spec_mkUp.l0]
    rw [if_pos (by omega), show spec_mkMove.f [x, y, z] 1 = _ from m1, e1]
    simp only [Option.bind_some, Bool.false_eq_true, if_false, w1]
  · rw [if_neg c1] at e1
    rw [if_pos (show n1 ≤ 1000000000 by omega)]
    refine Ev.step (fun k => ?_) (step0 [[x, z, n1]] (.inr rfl))
    have c2 : n1 > z := hg _ b1
    simp only [spec_mkUp.l0]
    rw [if_pos (by omega), show spec_mkMove.f [x, y, z] 1 = _ from m1, e1]
    simp only [Option.bind_some, if_true, hl3, hr2, hq, c2, w1, List.length_nil, List.nil_append]
    rfl

end Go.Proofs.Ythkmbkibceojlaa.P

-- UdrawMk
namespace Go.Proofs.Ythkmbkibceojlaa.P
set_option linter.unusedVariables false
set_option linter.unusedSimpArgs false
open Go.RowKit Go.Proofs.YthkmbkibceojlaaW.PrintWords Go.Proofs.YthkmbkibceojlaaW.PrintLast Go.Proofs.YthkmbkibceojlaaW.PrintMore
theorem own_mk (l : List Int) (h : l.length ≤ 1000) : spec_l1Own.f l = some l := by
  unfold spec_l1Own.f
  simp only [Option.bind_some, List.length_nil, Nat.zero_add, List.nil_append]
  rw [if_pos (by omega)]
def Tri (l : List Int) : Prop := 3 ≤ l.length ∧ l.length ≤ 4
theorem markov_loop (code : List Int) (hc : Bytes code) (d : Nat) : ∀ (l : List Int) (at_ seed : Int), isMk l = true → d ≤ 100 → 0 ≤ at_ → at_ ≤ 1000 - 2 * (d : Int) →
    ∃ l' at' seed', Ev (fun k => spec_l1Cur_markov.l0 k l (d : Int) code at_ seed) (l', at', seed') ∧ Tri l' ∧ 0 ≤ at' ∧ at' ≤ 2000 := by
  induction d with
  | zero =>
    intro l at_ seed h hd h0 h1
    have h3 : l.length = 3 := by obtain ⟨x, y, z, rfl⟩ := mk_three h; rfl
    have ho := own_mk l (by omega)
    obtain ⟨v1, a1, s1, e1, _, _, _, _⟩ := pick_ok code hc at_ seed 20 h0 (by omega) (by decide)
    by_cases c1 : v1 = 0
    · obtain ⟨v2, a2, s2, e2, p2, q2, _, _⟩ := pick_ok code hc a1 s1 3 (by omega) (by omega) (by decide)
      have q3 := q2 (by decide)
      have q4 : v2 < (l.length : Int) := by omega
      obtain ⟨v3, a3, s3, e3, _, _, _⟩ := among_ok code hc a2 s2 [1, (-1), 1000000000] (by omega) (by omega) (by decide) (by decide)
      refine ⟨_, a3, s3, Ev.step (f := fun _ => some (l.set v2.toNat (wrap64 (rd l v2 + v3)), a3, s3)) (fun k => ?_) (Ev.is rfl), by unfold Tri; rw [List.length_set]; omega, by omega, by omega⟩
      simp only [spec_l1Cur_markov.l0]
      rw [if_neg (by omega), ho]
      simp only [Option.bind_some]
      rw [e1]
      simp only [Option.bind_some]
      rw [if_pos c1, e2]
      simp only [Option.bind_some]
      rw [if_pos p2, if_pos q4, e3]
      rfl
    · by_cases c2 : v1 = 1
      · refine ⟨l ++ [1], a1, s1, Ev.step (f := fun _ => some (l ++ [1], a1, s1)) (fun k => ?_) (Ev.is rfl), by unfold Tri; rw [List.length_append, List.length_singleton]; omega, by omega, by omega⟩
        simp only [spec_l1Cur_markov.l0]
        rw [if_neg (by omega), ho]
        simp only [Option.bind_some]
        rw [e1]
        simp only [Option.bind_some]
        rw [if_neg c1, if_pos c2, if_pos (by omega)]
      · by_cases c3 : v1 = 2
        · refine ⟨_, a1, s1, Ev.step (f := fun _ => some ((l.set (0 : Int).toNat (rd l 2)).set (2 : Int).toNat (rd l 0), a1, s1)) (fun k => ?_) (Ev.is rfl), by unfold Tri; rw [List.length_set, List.length_set]; omega, by omega, by omega⟩
          simp only [spec_l1Cur_markov.l0]
          rw [if_neg (by omega), ho]
          simp only [Option.bind_some]
          rw [e1]
          simp only [Option.bind_some]
          rw [if_neg c1, if_neg c2, if_pos c3, if_pos (by omega), if_pos (by omega)]
        · refine ⟨l, a1, s1, Ev.step (f := fun _ => some (l, a1, s1)) (fun k => ?_) (Ev.is rfl), by unfold Tri; omega, by omega, by omega⟩
          simp only [spec_l1Cur_markov.l0]
          rw [if_neg (by omega), ho]
          simp only [Option.bind_some]
          rw [e1]
          simp only [Option.bind_some]
          rw [if_neg c1, if_neg c2, if_neg c3]
  | succ d ih =>
    intro l at_ seed h hd h0 h1
    have hu := mkUp_ev h
    have w1 : wrap64 (((d + 1 : Nat) : Int) - 1) = (d : Int) := by rw [w64 (by omega) (by omega)]; omega
    have hl2 : (upsL 1000000000 l).length ≤ 2 := by
      obtain ⟨x, y, z, rfl⟩ := mk_three h
      have hh : ∀ (p q : Prop) [Decidable p] [Decidable q] (a b : List Int), ((if p then [a] else []) ++ (if q then [b] else [])).length ≤ 2 := by
        intro p q _ _ a b
        by_cases hp : p <;> by_cases hq : q <;> simp [hp, hq]
      exact hh _ _ _ _
    by_cases hc2 : ((upsL 1000000000 l).length : Int) > 0
    · obtain ⟨v1, a1, s1, e1, p1, q1, _, _⟩ := pick_ok code hc at_ seed ((upsL 1000000000 l).length : Int) h0 (by omega) (by omega)
      have q2 := q1 (by omega)
      have hm : rd_L1 (upsL 1000000000 l) v1 ∈ upsL 1000000000 l := by
        unfold rd_L1
        rw [List.getD_eq_getElem?_getD, List.getElem?_eq_getElem (show v1.toNat < (upsL 1000000000 l).length by omega)]
        exact List.getElem_mem _
      obtain ⟨l', at', seed', e, h3⟩ := ih (rd_L1 (upsL 1000000000 l) v1) a1 s1 (upsL_mk (Int.le_refl _) h hm).1 (by omega) (by omega) (by omega)
      refine ⟨l', at', seed', Ev.step (f := fun k => (spec_mkUp.f k l).bind fun t657 => (if (t657.length : Int) > 0 then ((spec_l1Cur_pick.f code at_ seed (t657.length : Int)).bind fun bt660 => (if 0 ≤ bt660.1 then (if bt660.1 < (t657.length : Int) then (spec_l1Cur_markov.l0 k (rd_L1 t657 bt660.1) (d : Int) code bt660.2.1 bt660.2.2) else (none)) else (none))) else (spec_l1Cur_markov.l0 k l (d : Int) code at_ seed))) (fun k => ?_) (Ev.bind hu ?_), h3⟩
      · simp only [spec_l1Cur_markov.l0]
        rw [if_pos (by omega), w1]
      · simp only [hc2, if_true, e1, Option.bind_some, p1, q2]
        exact e
    · obtain ⟨l', at', seed', e, h3⟩ := ih l at_ seed h (by omega) (by omega) (by omega)
      refine ⟨l', at', seed', Ev.step (f := fun k => (spec_mkUp.f k l).bind fun t657 => (if (t657.length : Int) > 0 then ((spec_l1Cur_pick.f code at_ seed (t657.length : Int)).bind fun bt660 => (if 0 ≤ bt660.1 then (if bt660.1 < (t657.length : Int) then (spec_l1Cur_markov.l0 k (rd_L1 t657 bt660.1) (d : Int) code bt660.2.1 bt660.2.2) else (none)) else (none))) else (spec_l1Cur_markov.l0 k l (d : Int) code at_ seed))) (fun k => ?_) (Ev.bind hu ?_), h3⟩
      · simp only [spec_l1Cur_markov.l0]
        rw [if_pos (by omega), w1]
      · simp only [hc2, if_false]
        exact e
theorem markov_ok (code : List Int) (hc : Bytes code) (at_ seed : Int) (h0 : 0 ≤ at_) (h1 : at_ ≤ 500) : ∃ l' at' seed', Ev (fun k => spec_l1Cur_markov.f k code at_ seed) (l', at', seed') ∧ Tri l' ∧ 0 ≤ at' ∧ at' ≤ 2000 := by
  unfold spec_l1Cur_markov.f
  obtain ⟨v1, a1, s1, e1, hm, _, _⟩ := among_ok code hc at_ seed [0, 1, 2, 3, 4, 6, 9, 14] h0 (by omega) (by decide) (by decide)
  have hv : 0 ≤ v1 ∧ v1 ≤ 14 := by
    simp only [List.mem_cons, List.not_mem_nil, or_false] at hm
    omega
  obtain ⟨n, rfl⟩ := Int.eq_ofNat_of_zero_le hv.1
  obtain ⟨l', at', seed', e, h3⟩ := markov_loop code hc n [1, 1, 1] a1 s1 (by decide) (by omega) (by omega) (by omega)
  exact ⟨l', at', seed', Ev.bind0 e1 e, h3⟩
end Go.Proofs.Ythkmbkibceojlaa.P

-- UmkLaw
namespace Go.Proofs.Ythkmbkibceojlaa.P
set_option linter.unusedVariables false
set_option linter.unusedSimpArgs false
open Go.RowKit Go.Proofs.YthkmbkibceojlaaW.PrintWords Go.Proofs.YthkmbkibceojlaaW.PrintLast Go.Proofs.YthkmbkibceojlaaW.PrintMore
theorem srt_id {x y z : Int} (h1 : x ≤ y) (h2 : y ≤ z) : srt x y z = [x, y, z] := by
  rcases srt_cases x y z with ⟨c1, c2, e⟩ | ⟨c1, c2, e⟩ | ⟨c1, c2, e⟩ | ⟨c1, c2, e⟩ | ⟨c1, c2, e⟩ | ⟨c1, c2, e⟩ <;> rw [e] <;> first | rfl | (simp only [List.cons.injEq, and_true, true_and]; omega) | (obtain rfl : x = y := by omega; obtain rfl : x = z := by omega; rfl)
/-- dSame tells equality. -/
theorem dSame_from (a b : List Int) (hl : a.length = b.length) (hn : a.length ≤ 4611686018427387904) (d : Nat) : ∀ i : Nat, i + d = a.length → a.take i = b.take i → Ev (fun k => laws_dSame.l0 k a b (a.length : Int) (i : Int)) (decide (a = b)) := by
  induction d with
  | zero =>
    intro i hi ht
    rw [List.take_of_length_le (by omega), List.take_of_length_le (by omega)] at ht
    refine Ev.step (fun k => by simp only [laws_dSame.l0]; rw [if_neg (by omega)]) ?_
    exact Ev.is (by rw [decide_eq_true ht])
  | succ d ih =>
    intro i hi ht
    by_cases h : rd a (i : Int) = rd b (i : Int)
    · have hr := ih (i + 1) (by omega) (by rw [List.take_succ_eq_append_getElem (by omega), List.take_succ_eq_append_getElem (by omega), ht, ← rd_lt a i (by omega), ← rd_lt b i (by omega), h])
      exact Ev.step (fun k => by simp only [laws_dSame.l0]; rw [if_pos (by omega), if_pos (by omega), if_pos (by omega), if_pos (by omega), if_pos h, w64_succ (n := a.length) (by omega) hn]) hr
    · have hd : decide (a = b) = false := decide_eq_false (fun e => h (by rw [e]))
      exact Ev.step (f := fun _ => some false) (fun k => by simp only [laws_dSame.l0]; rw [if_pos (by omega), if_pos (by omega), if_pos (by omega), if_pos (by omega), if_neg h]) (Ev.is (by rw [hd]))
theorem dSame_ev (a b : List Int) (hn : a.length ≤ 4611686018427387904) : Ev (fun k => laws_dSame.f k a b) (decide (a = b)) := by
  unfold laws_dSame.f
  by_cases hl : a.length = b.length
  · simp only [hl, if_true]
    have := dSame_from a b hl hn a.length 0 (by omega) rfl
    rw [hl] at this
    exact this
  · have h : ¬ (a.length : Int) = (b.length : Int) := by omega
    simp only [h, if_false]
    have hd : decide (a = b) = false := decide_eq_false (fun e => hl (by rw [e]))
    exact Ev.is (by rw [hd])
end Go.Proofs.Ythkmbkibceojlaa.P

-- UdLists
namespace Go.Proofs.Ythkmbkibceojlaa.P
set_option linter.unusedVariables false
set_option linter.unusedSimpArgs false
open Go.RowKit Go.Proofs.YthkmbkibceojlaaW.PrintWords Go.Proofs.YthkmbkibceojlaaW.PrintLast Go.Proofs.YthkmbkibceojlaaW.PrintMore
theorem rdL1_get (L : List (List Int)) (i : Nat) (hi : i < L.length) : rd_L1 L (i : Int) = L[i] := by
  unfold rd_L1
  rw [Int.toNat_natCast, List.getD_eq_getElem?_getD, List.getElem?_eq_getElem hi]
  rfl
theorem dLists_from (W : List (List Int)) (hn : W.length ≤ 5000000000) (hs : ∀ x ∈ W, x.length ≤ 1000000) (d : Nat) : ∀ i : Nat, i + d = W.length → Ev (fun k => laws_dLists.l0 k W W (W.length : Int) (i : Int)) true := by
  induction d with
  | zero =>
    intro i hi
    exact Ev.step (f := fun _ => some true) (fun k => by simp only [laws_dLists.l0]; rw [if_neg (by omega)]) (Ev.is rfl)
  | succ d ih =>
    intro i hi
    have hil : i < W.length := by omega
    have hv := dSame_ev W[i] W[i] (by have := hs _ (List.getElem_mem hil); omega)
    rw [decide_eq_true rfl] at hv
    refine Ev.step (f := fun k => (laws_dSame.f k W[i] W[i]).bind fun t => if t = true then laws_dLists.l0 k W W (W.length : Int) ((i + 1 : Nat) : Int) else some false) (fun k => ?_) (Ev.bind hv ?_)
    · simp only [laws_dLists.l0]
      rw [if_pos (by omega), if_pos (by omega), if_pos (by omega), if_pos (by omega), rdL1_get W i hil, w64_succ (n := W.length) (by omega) (by omega)]
    · simp only [if_true]
      exact ih (i + 1) (by omega)
theorem dLists_ev (W : List (List Int)) (hn : W.length ≤ 5000000000) (hs : ∀ x ∈ W, x.length ≤ 1000000) : Ev (fun k => laws_dLists.f k W W) true := by
  unfold laws_dLists.f
  simp only [if_true]
  exact dLists_from W hn hs W.length 0 (by omega)
end Go.Proofs.Ythkmbkibceojlaa.P

-- UmkWords
namespace Go.Proofs.Ythkmbkibceojlaa.P
set_option linter.unusedVariables false
set_option linter.unusedSimpArgs false
open Go.RowKit Go.Proofs.YthkmbkibceojlaaW.PrintWords Go.Proofs.YthkmbkibceojlaaW.PrintLast Go.Proofs.YthkmbkibceojlaaW.PrintMore
/-- Which move a letter is. -/
def lm (c : Int) : Nat := if c = 108 then 1 else 0
/-- What a word tells. -/
def wd : List Int → List Int → List Int × Bool
  | [], t => (t, true)
  | c :: cs, [x, y, z] => if mvN x y z (lm c) > 1000000000 then ([], false) else wd cs (mv x y z (lm c))
  | _ :: _, _ => ([], false)
theorem lm_two (c : Int) : lm c ≤ 2 := by unfold lm; split <;> omega
theorem wd_len (cs : List Int) : ∀ t, t.length ≤ 3 → (wd cs t).1.length ≤ 3 := by
  induction cs with
  | nil => intro t h; exact h
  | cons c cs ih =>
    intro t h
    match t, h with
    | [x, y, z], _ =>
      rw [wd]
      split
      · simp
      · obtain ⟨p, q, r, e⟩ := mv_three x y z (lm c)
        rw [e]
        exact ih _ (by simp)
    | [], _ => simp [wd]
    | [_], _ => simp [wd]
    | [_, _], _ => simp [wd]
theorem wd_step (c x y z : Int) (h : isMk [x, y, z] = true) (g1 g2 : Nat → List Int → Option (List Int × Bool)) (cs : List Int)
    (ih : mvN x y z (lm c) ≤ 1000000000 → Ev (fun k => g1 k (mv x y z (lm c))) (wd cs (mv x y z (lm c))) ∧ Ev (fun k => g2 k (mv x y z (lm c))) (wd cs (mv x y z (lm c)))) :
    Ev (fun k => (impl_moved.f [x, y, z] (lm c : Int)).bind fun t => if 2 < (t.length : Int) then (if rd t 2 > 1000000000 then some ([], false) else g1 k t) else none) (wd (c :: cs) [x, y, z]) ∧ Ev (fun k => (spec_mkMove.f [x, y, z] (lm c : Int)).bind fun bt => if bt.2 = true then g2 k bt.1 else some ([], false)) (wd (c :: cs) [x, y, z]) := by
  have hn := lm_two c
  have hv := moved_is h (lm c) hn
  have hm := mkMove_is h (lm c) hn
  have h2 := mv_two h (lm c) hn
  obtain ⟨a, b, d, e⟩ := mv_three x y z (lm c)
  have hlen : (2 : Int) < ((mv x y z (lm c)).length : Int) := by rw [e]; exact (show (2 : Int) < 3 by decide)
  rw [hv, hm, wd]
  unfold mvOf
  by_cases h3 : mvN x y z (lm c) > 1000000000
  · have h4 := h2.2 h3
    constructor
    · simp only [Option.bind_some, hlen, if_true, h4, h3]
      exact Ev.is rfl
    · simp only [Option.bind_some, h3, if_true, Bool.false_eq_true, if_false]
      exact Ev.is rfl
  · have h4 : ¬ rd (mv x y z (lm c)) 2 > 1000000000 := fun h5 => h3 (h2.1 h5)
    obtain ⟨e1, e2⟩ := ih (by omega)
    constructor
    · simp only [Option.bind_some, hlen, if_true, h4, h3, if_false]
      exact e1
    · simp only [Option.bind_some, h3, if_true, if_false]
      exact e2
theorem wd_from (s : ByteArray) (hn : s.size ≤ 40) (d : Nat) : ∀ (i : Nat) (x y z : Int), i + d = s.size → isMk [x, y, z] = true → Ev (fun k => impl_MarkovOfWord.l0 k s [x, y, z] (s.size : Int) (i : Int)) (wd ((bytesOf s).drop i) [x, y, z]) ∧ Ev (fun k => spec_MarkovOfWord.l0 k s [x, y, z] (i : Int)) (wd ((bytesOf s).drop i) [x, y, z]) := by
  induction d with
  | zero =>
    intro i x y z hi h
    rw [List.drop_eq_nil_of_le (by rw [bytesOf_length]; omega), wd]
    exact ⟨Ev.step (f := fun _ => some ([x, y, z], true)) (fun k => by simp only [impl_MarkovOfWord.l0]; rw [if_neg (by omega)]) (Ev.is rfl), Ev.step (f := fun _ => some ([x, y, z], true)) (fun k => by simp only [spec_MarkovOfWord.l0]; rw [if_neg (by omega)]) (Ev.is rfl)⟩
  | succ d ih =>
    intro i x y z hi h
    have e1 : wrap64 ((i : Int) + 1) = ((i + 1 : Nat) : Int) := w64_succ (n := s.size) (by omega) (by omega)
    have hc1 : (i : Int) < (s.size : Int) := by omega
    have hc2 : (0 : Int) ≤ (i : Int) := by omega
    rw [byte_drop s i (by omega)]
    obtain ⟨a1, a2⟩ := wd_step (bt s (i : Int)) x y z h (fun k t => impl_MarkovOfWord.l0 k s t (s.size : Int) ((i + 1 : Nat) : Int)) (fun k t => spec_MarkovOfWord.l0 k s t ((i + 1 : Nat) : Int)) ((bytesOf s).drop (i + 1)) (fun hle => by
      have hm := mv_is h _ (lm_two (bt s (i : Int))) hle
      obtain ⟨a, b, c, e⟩ := mv_three x y z (lm (bt s (i : Int)))
      rw [e] at hm ⊢
      exact ih (i + 1) a b c (by omega) hm)
    by_cases hb : bt s (i : Int) = 108
    · have hlm : ((lm (bt s (i : Int)) : Nat) : Int) = 1 := by unfold lm; rw [if_pos hb]; rfl
      rw [hlm] at a1 a2
      refine ⟨Ev.step (fun k => ?_) a1, Ev.step (fun k => ?_) a2⟩
      · simp only [impl_MarkovOfWord.l0]
        rw [if_pos hc1, if_pos hc2, if_pos hc1, if_pos hb, e1]
      · simp only [spec_MarkovOfWord.l0]
        rw [if_pos hc1, if_pos hc2, if_pos hb, e1]
    · have hlm : ((lm (bt s (i : Int)) : Nat) : Int) = 0 := by unfold lm; rw [if_neg hb]; rfl
      rw [hlm] at a1 a2
      refine ⟨Ev.step (fun k => ?_) a1, Ev.step (fun k => ?_) a2⟩
      · simp only [impl_MarkovOfWord.l0]
        rw [if_pos hc1, if_pos hc2, if_pos hc1, if_neg hb, e1]
      · simp only [spec_MarkovOfWord.l0]
        rw [if_pos hc1, if_pos hc2, if_neg hb, e1]
def ofWord (s : ByteArray) : List Int × Bool := if isLR s then wd (bytesOf s) [1, 2, 5] else ([], false)
theorem ofWord_both (s : ByteArray) : Ev (fun k => spec_MarkovOfWord.f k s) (ofWord s) ∧ Ev (fun k => impl_MarkovOfWord.f k s) (ofWord s) := by
  unfold spec_MarkovOfWord.f impl_MarkovOfWord.f ofWord
  have e1 := mkLetters_ev s
  have e2 : impl_isWord.f s 108 114 = some (isLR s) := rfl
  rw [e2]
  cases h : isLR s with
  | false =>
    rw [h] at e1
    constructor
    · refine Ev.bind e1 ?_
      simp only [Bool.false_eq_true, if_false]
      exact Ev.is rfl
    · simp only [Option.bind_some, Bool.false_eq_true, if_false]
      exact Ev.is rfl
  | true =>
    rw [h] at e1
    unfold isLR at h
    rw [Bool.and_eq_true, decide_eq_true_eq] at h
    obtain ⟨a1, a2⟩ := wd_from s (by omega) s.size 0 1 2 5 (by omega) first_is
    rw [List.drop_zero] at a1 a2
    constructor
    · refine Ev.bind e1 ?_
      simp only [if_true]
      exact a2
    · simp only [Option.bind_some, if_true]
      exact a1
theorem ofWord_len (s : ByteArray) : (ofWord s).1.length ≤ 3 := by
  unfold ofWord
  split
  · exact wd_len _ _ (by simp)
  · simp
theorem wd_append (A B : List Int) : ∀ t u, wd A t = (u, true) → wd (A ++ B) t = wd B u := by
  induction A with
  | nil => intro t u h; simp only [wd, Prod.mk.injEq, and_true] at h; rw [List.nil_append, h]
  | cons c A ih =>
    intro t u h
    match t with
    | [x, y, z] =>
      rw [List.cons_append]
      rw [wd] at h ⊢
      split at h
      · simp at h
      · rename_i hn
        rw [if_neg hn]
        exact ih _ _ h
    | [] => simp [wd] at h
    | [_] => simp [wd] at h
    | [_, _] => simp [wd] at h
    | _ :: _ :: _ :: _ :: _ => simp [wd] at h
/-- The triple below, in its parts. -/
theorem dn_parts {x y z : Int} (h : isMk [x, y, z] = true) (hz : 1 < z) : (x ≤ 3 * x * y - z ∧ dn [x, y, z] = [x, 3 * x * y - z, y]) ∨ (3 * x * y - z ≤ x ∧ dn [x, y, z] = [3 * x * y - z, x, y]) := by
  obtain ⟨h1, h2, h3, h4, h5, h6⟩ := isMk_iff.1 h
  have hb := below h hz
  have he : dn [x, y, z] = srt x y (3 * x * y - z) := rfl
  rw [he, srt_ex, srt_rot]
  by_cases hc : x ≤ 3 * x * y - z
  · left
    exact ⟨hc, srt_id hc hb.2⟩
  · right
    refine ⟨by omega, ?_⟩
    rw [srt_ex]
    exact srt_id (by omega) (by omega)
/-- A triple is the move of its letter from the one below. -/
theorem back_up {l : List Int} (h : isMk l = true) (hz : 1 < rd l 2) : ∃ p q r, dn l = [p, q, r] ∧ mvN p q r (lm (letter (dn l) l)) = rd l 2 ∧ mv p q r (lm (letter (dn l) l)) = l := by
  obtain ⟨g1, g2⟩ := dn_good h hz
  obtain ⟨x, y, z, rfl⟩ := mk_three h
  have hz1 : 1 < z := hz
  have r2 : rd [x, y, z] 2 = z := rfl
  have r0 : rd [x, y, z] 0 = x := rfl
  rcases dn_parts h hz1 with ⟨hc, e⟩ | ⟨hc, e⟩
  · refine ⟨x, 3 * x * y - z, y, e, ?_⟩
    rw [e] at g1 ⊢
    have hl : letter [x, 3 * x * y - z, y] [x, y, z] = 108 := by
      unfold letter
      exact if_pos rfl
    have hlm : lm 108 = 1 := rfl
    have hyx : 3 * y * x = 3 * x * y := by grind
    rw [hl, hlm, mv_one g1, r2]
    constructor
    · show 3 * y * x - (3 * x * y - z) = z
      omega
    · have : 3 * x * y - (3 * x * y - z) = z := by omega
      rw [this]
  · refine ⟨3 * x * y - z, x, y, e, ?_⟩
    rw [e] at g1 ⊢
    by_cases hw : 3 * x * y - z = x
    · have hl : letter [3 * x * y - z, x, y] [x, y, z] = 108 := by
        unfold letter
        exact if_pos hw
      have hlm : lm 108 = 1 := rfl
      have hyx : 3 * y * x = 3 * x * y := by grind
      rw [hl, hlm, mv_one g1, r2]
      rw [hw]
      constructor
      · show 3 * y * x - x = z
        omega
      · have : 3 * x * y - x = z := by omega
        rw [this]
    · have hl : letter [3 * x * y - z, x, y] [x, y, z] = 114 := by
        unfold letter
        exact if_neg hw
      have hlm : lm 114 = 0 := rfl
      rw [hl, hlm, mv_zero g1, r2]
      have : 3 * x * y - (3 * x * y - z) = z := by omega
      constructor
      · show 3 * x * y - (3 * x * y - z) = z
        exact this
      · rw [this]
theorem wd_bits (d : Nat) : ∀ l, isMk l = true → 5 ≤ rd l 2 → rd l 2 ≤ d → wd (bits d l).reverse [1, 2, 5] = (l, true) := by
  induction d with
  | zero => intro l h h5 hd; omega
  | succ d ih =>
    intro l h h5 hd
    rw [bits]
    by_cases hz : rd l 2 > 5
    · rw [if_pos hz, List.reverse_cons]
      obtain ⟨g1, g2⟩ := dn_good h (by omega)
      rw [wd_append _ _ _ _ (ih (dn l) g1 (dn_five h hz) (by omega))]
      obtain ⟨p, q, r, e1, e2, e3⟩ := back_up h (by omega)
      have hp := mk_pos h
      have key : ∀ c, mvN p q r (lm c) = rd l 2 → mv p q r (lm c) = l → wd [c] [p, q, r] = (l, true) := by
        intro c k1 k2
        rw [wd, k1, if_neg (by omega), k2, wd]
      have k3 := key _ e2 e3
      rw [← e1] at k3
      exact k3
    · rw [if_neg hz]
      rcases small h (by omega) with rfl | rfl | rfl
      · exact absurd h5 (by decide)
      · exact absurd h5 (by decide)
      · rfl
theorem bits_fuel (d : Nat) : ∀ (e : Nat) l, isMk l = true → rd l 2 ≤ d → rd l 2 ≤ e → bits d l = bits e l := by
  induction d with
  | zero => intro e l h h1 h2; have := mk_pos h; omega
  | succ d ih =>
    intro e l h h1 h2
    have hp := mk_pos h
    cases e with
    | zero => omega
    | succ e =>
      rw [bits, bits]
      by_cases hz : rd l 2 > 5
      · obtain ⟨g1, g2⟩ := dn_good h (by omega)
        rw [if_pos hz, if_pos hz, ih e (dn l) g1 (by omega) (by omega)]
      · rw [if_neg hz, if_neg hz]
theorem bits_next {l : List Int} (h : isMk l = true) (hz : 5 < rd l 2) : bits 1000000000 l = letter (dn l) l :: bits 1000000000 (dn l) := by
  have hp := mk_pos h
  obtain ⟨g1, g2⟩ := dn_good h (by omega)
  rw [show (1000000000 : Nat) = 999999999 + 1 from rfl, bits, if_pos (by omega), bits_fuel 999999999 (999999999 + 1) (dn l) g1 (by omega) (by omega)]
/-- No two numbers of a triple above 1 1 2 are alike. -/
theorem not_alike {p z : Int} (h : isMk [p, p, z] = true) : z ≤ 2 := by
  have hc := cop_all 1000000000 [p, p, z] h (by have := mk_pos h; omega)
  obtain ⟨h1, h2, h3, h4, h5, h6⟩ := isMk_iff.1 h
  have h7 := hc p (.inl ⟨Int.dvd_refl _, Int.dvd_refl _⟩)
  have h8 := Int.le_of_dvd (by decide) h7
  have hp : p = 1 := by omega
  subst hp
  have he := mkEq_iff.1 h6
  have e2 : (3 : Int) * (1 * 1) * z = 3 * z := by omega
  rcases Int.lt_or_le 2 z with hz | hz
  · have : 3 * z ≤ z * z := Int.mul_le_mul_of_nonneg_right (by omega) (by omega)
    omega
  · exact hz
theorem step_back {p q r : Int} (h : isMk [p, q, r] = true) (h5 : 5 ≤ r) (c : Int) (hc : c = 108 ∨ c = 114) (hn : mvN p q r (lm c) ≤ 1000000000) :
    isMk (mv p q r (lm c)) = true ∧ 5 < rd (mv p q r (lm c)) 2 ∧ dn (mv p q r (lm c)) = [p, q, r] ∧ letter [p, q, r] (mv p q r (lm c)) = c := by
  obtain ⟨h1, h2, h3, h4, h5', h6⟩ := isMk_iff.1 h
  have hm := mv_is h (lm c) (lm_two c) hn
  have hb := up_big h
  rcases hc with rfl | rfl
  · have hlm : lm 108 = 1 := rfl
    rw [hlm] at hm ⊢
    rw [mv_one h] at hm ⊢
    refine ⟨hm, ?_, ?_, if_pos rfl⟩
    · show 5 < 3 * p * r - q
      omega
    · show srt p r (3 * p * r - (3 * p * r - q)) = _
      rw [show 3 * p * r - (3 * p * r - q) = q by omega, srt_ex, srt_rot, srt_id h4 h5']
  · have hlm : lm 114 = 0 := rfl
    rw [hlm] at hm ⊢
    rw [mv_zero h] at hm ⊢
    refine ⟨hm, ?_, ?_, ?_⟩
    · show 5 < 3 * q * r - p
      omega
    · show srt q r (3 * q * r - (3 * q * r - p)) = _
      rw [show 3 * q * r - (3 * q * r - p) = p by omega]
      rw [← srt_rot, srt_id h4 h5']
    · unfold letter
      refine if_neg (fun e => ?_)
      have e2 : p = q := e
      subst e2
      have := not_alike h
      omega
theorem bits_wd (cs : List Int) : ∀ t u, isMk t = true → 5 ≤ rd t 2 → (∀ c ∈ cs, c = 108 ∨ c = 114) → wd cs t = (u, true) → isMk u = true ∧ 5 ≤ rd u 2 ∧ bits 1000000000 u = cs.reverse ++ bits 1000000000 t := by
  induction cs with
  | nil =>
    intro t u h h5 hc hw
    simp only [wd, Prod.mk.injEq, and_true] at hw
    subst hw
    exact ⟨h, h5, rfl⟩
  | cons c cs ih =>
    intro t u h h5 hc hw
    obtain ⟨p, q, r, rfl⟩ := mk_three h
    rw [wd] at hw
    split at hw
    · simp at hw
    · rename_i hn
      obtain ⟨a1, a2, a3, a4⟩ := step_back h h5 c (hc c List.mem_cons_self) (by omega)
      obtain ⟨b1, b2, b3⟩ := ih _ u a1 (by omega) (fun x hx => hc x (List.mem_cons_of_mem _ hx)) hw
      refine ⟨b1, b2, ?_⟩
      rw [b3, bits_next a1 a2, a3, a4, List.reverse_cons, List.append_assoc]
      rfl
end Go.Proofs.Ythkmbkibceojlaa.P

-- PureFnMarkovWords
namespace Go.Proofs.Ythkmbkibceojlaa.Pure
set_option linter.unusedVariables false
set_option linter.unusedSimpArgs false
open Go.RowKit Go.Proofs.Ythkmbkibceojlaa.P Go.Proofs.YthkmbkibceojlaaW.PrintWords Go.Proofs.YthkmbkibceojlaaW.PrintLast Go.Proofs.YthkmbkibceojlaaW.PrintMore
theorem toNums (s : ByteArray) : strOfNums (bytesOf s) = s := by
  unfold strOfNums bytesOf
  apply ByteArray.ext
  apply Array.ext'
  have e : ((fun n : Int => UInt8.ofNat n.toNat) ∘ fun b : UInt8 => (b.toNat : Int)) = id := by
    funext b
    simp
  simp only [List.map_map, e, List.map_id, List.toList_toArray]
theorem word_size {l : List Int} (h : isMk l = true) (h5 : 5 ≤ rd l 2) : wordOf l = (strOfNums (P.bits 1000000000 l).reverse, true) ∧ (P.bits 1000000000 l).length + 3 = (pathOf l).length ∧ (pathOf l).length ≤ 31 := by
  have hp := mk_pos h
  have hs := short 1000000000 30 l h (by rw [show (2 : Int) ^ 30 = 1073741824 by decide]; omega)
  have hb := (path_bits 1000000000 l h h5 (by omega)).1
  have he : (pathOf l).length = (mkp 1000000000 l).length := rfl
  unfold wordOf told
  rw [h, Bool.true_and, if_pos (decide_eq_true h5), List.length_reverse, if_neg (by omega)]
  exact ⟨rfl, by omega, by omega⟩
theorem word_ok (l : List Int) : (wordOf l).2 = (isMk l && decide (5 ≤ rd l 2)) := by
  cases h : isMk l with
  | false => unfold wordOf; rw [h]; rfl
  | true =>
    by_cases h5 : 5 ≤ rd l 2
    · rw [(word_size h h5).1, Bool.true_and, decide_eq_true h5]
    · unfold wordOf
      rw [h, decide_eq_false h5]
      rfl
theorem bits_letters (d : Nat) : ∀ l, ∀ c ∈ P.bits d l, c = 108 ∨ c = 114 := by
  induction d with
  | zero => intro l c hc; simp [P.bits] at hc
  | succ d ih =>
    intro l c hc
    rw [P.bits] at hc
    split at hc
    · rcases List.mem_cons.1 hc with rfl | hc
      · unfold letter; split <;> simp
      · exact ih _ c hc
    · simp at hc
theorem bytes_nums (cs : List Int) (h : ∀ c ∈ cs, c = 108 ∨ c = 114) : bytesOf (strOfNums cs) = cs := by
  induction cs with
  | nil => rfl
  | cons c cs ih =>
    have h1 := ih (fun x hx => h x (List.mem_cons_of_mem _ hx))
    unfold bytesOf strOfNums at h1 ⊢
    simp only [List.map_cons, List.toList_toArray] at h1 ⊢
    rw [h1]
    rcases h c List.mem_cons_self with rfl | rfl <;> rfl
theorem word_back {l : List Int} (h : isMk l = true) (h5 : 5 ≤ rd l 2) : ofWord (wordOf l).1 = (l, true) := by
  obtain ⟨h1, h2, h3⟩ := word_size h h5
  have hb : ∀ c ∈ (P.bits 1000000000 l).reverse, c = 108 ∨ c = 114 := fun c hc => bits_letters _ l c (List.mem_reverse.1 hc)
  have hbytes := bytes_nums _ hb
  have hlr : isLR (strOfNums (P.bits 1000000000 l).reverse) = true := by
    unfold isLR
    rw [hbytes, strOfNums_size, List.length_reverse, Bool.and_eq_true, decide_eq_true_eq, List.all_eq_true]
    refine ⟨by omega, fun c hc => ?_⟩
    rcases hb c hc with rfl | rfl <;> rfl
  rw [h1]
  unfold ofWord
  rw [hlr, if_pos rfl, hbytes]
  exact wd_bits 1000000000 l h h5 (by have := mk_pos h; omega)
theorem of_back {s : ByteArray} {u : List Int} (h : ofWord s = (u, true)) : wordOf u = (s, true) := by
  unfold ofWord at h
  cases hl : isLR s with
  | false => rw [hl] at h; simp at h
  | true =>
    rw [hl, if_pos rfl] at h
    unfold isLR at hl
    rw [Bool.and_eq_true, decide_eq_true_eq, List.all_eq_true] at hl
    have hc : ∀ c ∈ bytesOf s, c = 108 ∨ c = 114 := fun c hc => by
      have := hl.2 c hc
      simpa [oneOf] using this
    obtain ⟨b1, b2, b3⟩ := bits_wd (bytesOf s) [1, 2, 5] u first_is (by decide) hc h
    have hb0 : P.bits 1000000000 [1, 2, 5] = [] := rfl
    rw [hb0, List.append_nil] at b3
    rw [(word_size b1 b2).1, b3, List.reverse_reverse, toNums]
theorem word_end (l1 : List Int) (hc : Bytes l1) : Ev (fun k => laws_FnMarkovWords.j5 k l1) true := by
  obtain ⟨s, hs⟩ := drawWord_ok l1 hc
  obtain ⟨e1, e2⟩ := ofWord_both s
  have hl := ofWord_len s
  have hd := dSame_ev (ofWord s).1 (ofWord s).1 (by omega)
  rw [decide_eq_true rfl] at hd
  refine Ev.step (fun k => by simp only [laws_FnMarkovWords.j5]; rfl) (Ev.bind hs (Ev.bind e2 (Ev.bind e1 ?_)))
  simp only [bne_self_eq_false, Bool.false_eq_true, if_false]
  refine Ev.bind hd ?_
  cases hb : (ofWord s).2 with
  | false => exact Ev.step (f := fun _ => some true) (fun k => by simp only [laws_FnMarkovWords.j6, Bool.not_true, Bool.false_eq_true, if_false]) (Ev.is rfl)
  | true =>
    have hw := of_back (s := s) (u := (ofWord s).1) (by rw [← hb])
    have he := (word_both (ofWord s).1).2
    rw [hw] at he
    refine Ev.step (f := fun k => (impl_MarkovWord.f k (ofWord s).1).bind fun bt789 => (if bt789.2 = true then (some (bt789.1.toList == s.toList)) else (some false))) (fun k => by simp only [laws_FnMarkovWords.j6, Bool.not_true, Bool.false_eq_true, if_false, if_true]) (Ev.bind he ?_)
    simp only [if_true, beq_self_eq_true]
    exact Ev.is rfl
theorem word_same (l1 t : List Int) (hc : Bytes l1) : Ev (fun k => laws_FnMarkovWords.j4 k l1 t (wordOf t).1 (wordOf t).2) true := by
  have hj := word_end l1 hc
  rw [word_ok t]
  cases hb : (isMk t && decide (5 ≤ rd t 2)) with
  | false => exact Ev.step (fun k => by simp only [laws_FnMarkovWords.j4, Bool.false_eq_true, if_false]) hj
  | true =>
    rw [Bool.and_eq_true, decide_eq_true_eq] at hb
    have he := (ofWord_both (wordOf t).1).2
    rw [word_back hb.1 hb.2] at he
    have hl := mk_len hb.1
    have hd := dSame_ev t t (by omega)
    rw [decide_eq_true rfl] at hd
    refine Ev.step (f := fun k => (impl_MarkovOfWord.f k (wordOf t).1).bind fun bt774 => (if bt774.2 = true then ((laws_dSame.f k bt774.1 t).bind fun t778 => (if t778 = true then (laws_FnMarkovWords.j5 k l1) else (some false))) else (some false))) (fun k => by simp only [laws_FnMarkovWords.j4, if_true]) (Ev.bind he ?_)
    simp only [if_true]
    refine Ev.bind hd ?_
    simp only [if_true]
    exact hj
/-- The path, step by step. -/
theorem path_step (d : Nat) : ∀ l, isMk l = true → rd l 2 ≤ d → (∀ i, (h : i + 1 < (mkp d l).length) → rd (mkp d l)[i + 1] 2 < rd ((mkp d l)[i]'(by omega)) 2) ∧ (mkp d l)[(mkp d l).length - 1]'(by have := (mkp_length d l).1; omega) = [1, 1, 1] := by
  induction d with
  | zero => intro l h hd; have := mk_pos h; omega
  | succ d ih =>
    intro l h hd
    by_cases hz : rd l 2 > 1
    · obtain ⟨g1, g2⟩ := dn_good h hz
      obtain ⟨r1, r2⟩ := ih (dn l) g1 (by omega)
      have hp : mkp (d + 1) l = l :: mkp d (dn l) := by rw [mkp, if_pos hz]
      have hh := mkp_head d (dn l)
      have hlen := (mkp_length d (dn l)).1
      rw [List.getElem?_eq_getElem (by omega)] at hh
      have hh2 := Option.some.inj hh
      simp only [hp]
      constructor
      · intro i hi
        cases i with
        | zero =>
          simp only [List.getElem_cons_succ, List.getElem_cons_zero]
          rw [hh2]
          exact g2
        | succ i =>
          simp only [List.getElem_cons_succ]
          exact r1 i (by simpa using hi)
      · have hn : (l :: mkp d (dn l)).length - 1 = ((mkp d (dn l)).length - 1) + 1 := by rw [List.length_cons]; omega
        simp only [hn, List.getElem_cons_succ]
        exact r2
    · have hp : mkp (d + 1) l = [l] := by rw [mkp, if_neg hz]
      simp only [hp]
      constructor
      · intro i hi; simp at hi
      · obtain ⟨x, y, z, rfl⟩ := mk_three h
        obtain ⟨h1, h2, h3, h4, h5, h6⟩ := isMk_iff.1 h
        have hz1 : ¬ z > 1 := hz
        have : x = 1 := by omega
        have : y = 1 := by omega
        have : z = 1 := by omega
        subst_vars
        rfl
theorem root_tests {x y z root : Int} (h1 : 1 ≤ x ∧ x ≤ 1000000000) (h2 : 1 ≤ y ∧ y ≤ 1000000000) (h3 : 1 ≤ z ∧ z ≤ 1000000000) (q1 : 0 ≤ root) (q2 : root < z) (q3 : z ∣ root * root + 1) (q4 : z ∣ root * x - y) :
    Int.tmod (wrap64 (wrap64 (root * root) + 1)) z = 0 ∧ Int.tmod (wrap64 (wrap64 (root * x) - y)) z = 0 := by
  have t1 : Int.tmod (root * root + 1) z = 0 := Int.tmod_eq_zero_of_dvd q3
  have t2 : Int.tmod (root * x - y) z = 0 := Int.tmod_eq_zero_of_dvd q4
  have hr : root ≤ 1000000000 := by omega
  have m1 := mul_bd (a := root) (b := root) (A := 1000000000) (B := 1000000000) q1 hr q1 hr
  have m2 := mul_bd (a := root) (b := x) (A := 1000000000) (B := 1000000000) q1 hr (by omega) h1.2
  generalize root * root = p at *
  generalize root * x = q at *
  clear q3 q4
  have w1 : wrap64 p = p := w64 (by omega) (by omega)
  have w2 : wrap64 (p + 1) = p + 1 := w64 (by omega) (by omega)
  have w3 : wrap64 q = q := w64 (by omega) (by omega)
  have w4 : wrap64 (q - y) = q - y := w64 (by omega) (by omega)
  rw [w1, w2, w3, w4]
  exact ⟨t1, t2⟩
theorem path_loop (l1 t : List Int) (W : ByteArray) (wok : Bool) (root : Int) (P : List (List Int)) (hP : ∀ x ∈ P, isMk x = true) (hlen : P.length ≤ 31) (st : ∀ i, (h : i + 1 < P.length) → rd P[i + 1] 2 < rd (P[i]'(by omega)) 2)
    (hE : Ev (fun k => laws_FnMarkovWords.l0 k l1 t P W wok root ((P.length : Int) - 1) (P.length : Int)) true) (d : Nat) : ∀ i : Nat, 1 ≤ i → i + d = P.length → Ev (fun k => laws_FnMarkovWords.l0 k l1 t P W wok root ((P.length : Int) - 1) (i : Int)) true := by
  induction d with
  | zero =>
    intro i h1 hi
    have e : i = P.length := by omega
    subst e
    exact hE
  | succ d ih =>
    intro i h1 hi
    have hil : i < P.length := by omega
    obtain ⟨j, rfl⟩ : ∃ j, i = j + 1 := ⟨i - 1, by omega⟩
    have hjl : j < P.length := by omega
    have hst := st j hil
    have g1 := rdL1_get P (j + 1) hil
    have g2 := rdL1_get P j hjl
    have k1 := hP _ (List.getElem_mem hil)
    have k2 := hP _ (List.getElem_mem hjl)
    have hI := IsMarkov_ev P[j + 1]
    rw [k1] at hI
    have n1 : (2 : Int) < (P[j + 1].length : Int) := by rw [mk_len k1]; decide
    have n2 : (2 : Int) < (P[j].length : Int) := by rw [mk_len k2]; decide
    have w1 : wrap64 (((j + 1 : Nat) : Int) - 1) = (j : Int) := by rw [w64 (by omega) (by omega)]; omega
    have w2 : wrap64 (((j + 1 : Nat) : Int) + 1) = ((j + 1 + 1 : Nat) : Int) := w64_succ hil (by omega)
    have c1 : ((j + 1 : Nat) : Int) ≤ (P.length : Int) - 1 := by omega
    have c2 : (0 : Int) ≤ ((j + 1 : Nat) : Int) := by omega
    have c3 : ((j + 1 : Nat) : Int) < (P.length : Int) := by omega
    have c4 : (0 : Int) ≤ (j : Int) := by omega
    have c5 : (j : Int) < (P.length : Int) := by omega
    have c6 : ¬ rd P[j + 1] 2 ≥ rd P[j] 2 := by
      have : rd P[j + 1] 2 < rd P[j] 2 := hst
      omega
    refine Ev.step (f := fun k => (impl_IsMarkov.f k P[j + 1]).bind fun t770 => (if t770 = true then (laws_FnMarkovWords.l0 k l1 t P W wok root ((P.length : Int) - 1) ((j + 1 + 1 : Nat) : Int)) else (some false))) (fun k => ?_) (Ev.bind hI ?_)
    · simp only [laws_FnMarkovWords.l0, c1, c2, c3, w1, w2, c4, c5, g1, g2, n1, n2, c6, if_true, if_false]
    · simp only [if_true]
      exact ih (j + 1 + 1) (by omega) (by omega)
theorem path_last (l1 t : List Int) (P : List (List Int)) (root : Int) (ht : isMk t = true) (hr : IsRoot t root) (hc : Bytes l1) : Ev (fun k => laws_FnMarkovWords.l0 k l1 t P (wordOf t).1 (wordOf t).2 root ((P.length : Int) - 1) (P.length : Int)) true := by
  obtain ⟨q1, q2, q3, q4⟩ := hr
  obtain ⟨x, y, z, rfl⟩ := mk_three ht
  obtain ⟨b1, b2, b3, b4, b5, b6⟩ := isMk_iff.1 ht
  have r0 : rd [x, y, z] 0 = x := rfl
  have r1 : rd [x, y, z] 1 = y := rfl
  have r2 : rd [x, y, z] 2 = z := rfl
  rw [r2] at q2 q3 q4
  rw [r0, r1] at q4
  obtain ⟨t1, t2⟩ := root_tests b1 b2 b3 q1 q2 q3 q4
  have hl : (([x, y, z] : List Int).length : Int) = 3 := rfl
  have c1 : ¬ (P.length : Int) ≤ (P.length : Int) - 1 := by omega
  have c2 : (2 : Int) < 3 := by decide
  have c3 : ¬ root < 0 := by omega
  have c4 : ¬ root ≥ z := by omega
  have c5 : ¬ z = 0 := by omega
  have c6 : (0 : Int) < 3 := by decide
  have c7 : (1 : Int) < 3 := by decide
  refine Ev.step (f := fun k => laws_FnMarkovWords.j3 k l1 [x, y, z] (wordOf [x, y, z]).1 (wordOf [x, y, z]).2 false) (fun k => ?_) ?_
  · simp only [laws_FnMarkovWords.l0, c1, hl, c2, c3, r0, r1, r2, c4, c5, t1, t2, c6, c7, if_true, if_false, bne_self_eq_false]
  · exact Ev.step (fun k => by simp only [laws_FnMarkovWords.j3, Bool.false_eq_true, if_false]) (word_same l1 [x, y, z] hc)
theorem path_facts' (D : Nat) {t : List Int} (ht : isMk t = true) (hd : rd t 2 ≤ D) : (∀ x ∈ mkp D t, isMk x = true) ∧ 1 ≤ (mkp D t).length ∧ (mkp D t).length ≤ 31 ∧ (∀ i, (h : i + 1 < (mkp D t).length) → rd (mkp D t)[i + 1] 2 < rd ((mkp D t)[i]'(by omega)) 2) ∧ rd_L1 (mkp D t) 0 = t ∧ rd_L1 (mkp D t) (((mkp D t).length : Int) - 1) = [1, 1, 1] := by
  have hp := mk_pos ht
  have hs := short D 30 t ht (by rw [show (2 : Int) ^ 30 = 1073741824 by decide]; omega)
  have hlen := (mkp_length D t).1
  obtain ⟨st, lst⟩ := path_step D t ht hd
  have hh := mkp_head D t
  rw [List.getElem?_eq_getElem (by omega)] at hh
  have hh2 := Option.some.inj hh
  refine ⟨mkp_all D t ht, hlen, hs, st, ?_, ?_⟩
  · have := rdL1_get (mkp D t) 0 (by omega)
    rw [show ((0 : Nat) : Int) = 0 from rfl] at this
    rw [this]
    exact hh2
  · have := rdL1_get (mkp D t) ((mkp D t).length - 1) (by omega)
    rw [show (((mkp D t).length - 1 : Nat) : Int) = ((mkp D t).length : Int) - 1 by omega] at this
    rw [this]
    exact lst
theorem path_facts {t : List Int} (ht : isMk t = true) : (∀ x ∈ pathOf t, isMk x = true) ∧ 1 ≤ (pathOf t).length ∧ (pathOf t).length ≤ 31 ∧ (∀ i, (h : i + 1 < (pathOf t).length) → rd (pathOf t)[i + 1] 2 < rd ((pathOf t)[i]'(by omega)) 2) ∧ rd_L1 (pathOf t) 0 = t ∧ rd_L1 (pathOf t) (((pathOf t).length : Int) - 1) = [1, 1, 1] := path_facts' 1000000000 ht (mk_pos ht).2
theorem main_true (l1 t : List Int) (P : List (List Int)) (root : Int) (ht : isMk t = true) (hr : IsRoot t root) (hc : Bytes l1) (hP : ∀ x ∈ P, isMk x = true) (h1 : 1 ≤ P.length) (hlen : P.length ≤ 31) (st : ∀ i, (h : i + 1 < P.length) → rd P[i + 1] 2 < rd (P[i]'(by omega)) 2)
    (g0 : rd_L1 P 0 = t) (g1 : rd_L1 P ((P.length : Int) - 1) = [1, 1, 1]) (W : ByteArray) (wok : Bool) (hW : wordOf t = (W, wok)) (hw : wok = decide (5 ≤ rd t 2)) (hz : wok = true → ((W.size : Int) != (P.length : Int) - 1 - 2) = false) :
    Ev (fun k => laws_FnMarkovWords.j0 k l1 t P true W wok root false) true := by
  have htl := mk_len ht
  have w1 : wrap64 ((P.length : Int) - 1) = (P.length : Int) - 1 := w64 (by omega) (by omega)
  have w2 : wrap64 ((P.length : Int) - 1 - 2) = (P.length : Int) - 1 - 2 := w64 (by omega) (by omega)
  have d1 := dSame_ev t t (by omega)
  rw [decide_eq_true rfl] at d1
  have d2 := dSame_ev [1, 1, 1] [1, 1, 1] (by decide)
  rw [decide_eq_true rfl] at d2
  have c1 : (0 : Int) < (P.length : Int) := by omega
  have c2 : (0 : Int) ≤ (P.length : Int) - 1 := by omega
  have c3 : (P.length : Int) - 1 < (P.length : Int) := by omega
  have c4 : (2 : Int) < (t.length : Int) := by omega
  have hl := path_last l1 t P root ht hr hc
  rw [hW] at hl
  have hend : Ev (fun k => laws_FnMarkovWords.j1 k l1 t P W wok root ((P.length : Int) - 1) false) true := by
    have := path_loop l1 t W wok root P hP hlen st hl (P.length - 1) 1 (Nat.le_refl _) (by omega)
    exact Ev.step (fun k => by simp only [laws_FnMarkovWords.j1, Bool.false_eq_true, if_false]; rfl) this
  have hbne : (wok != decide (rd t 2 ≥ 5)) = false := by rw [hw]; exact bne_self_eq_false _
  refine Ev.step (fun k => by simp only [laws_FnMarkovWords.j0, Bool.false_eq_true, if_false, if_true, c1, g0, w1, w2, c2, c3, g1, c4, hbne]; rfl) (Ev.bind d1 ?_)
  simp only [if_true]
  refine Ev.bind d2 ?_
  simp only [if_true]
  cases wok with
  | true =>
    simp only [if_true, hz rfl]
    exact hend
  | false =>
    simp only [Bool.false_eq_true, if_false]
    exact hend
theorem main_part (l1 t : List Int) (root : Int) (hr : isMk t = true → IsRoot t root) (hc : Bytes l1) : Ev (fun k => laws_FnMarkovWords.j0 k l1 t (pathAll t).1 (pathAll t).2 (wordOf t).1 (wordOf t).2 root false) true := by
  unfold pathAll
  cases ht : isMk t with
  | false =>
    refine Ev.step (fun k => ?_) (word_same l1 t hc)
    simp only [laws_FnMarkovWords.j0, Bool.false_eq_true, if_false]
  | true =>
    obtain ⟨f1, f2, f3, f4, f5, f6⟩ := path_facts ht
    have hw := word_ok t
    rw [ht, Bool.true_and] at hw
    simp only [if_true]
    refine main_true l1 t (pathOf t) root ht (hr ht) hc f1 f2 f3 f4 f5 f6 (wordOf t).1 (wordOf t).2 rfl hw (fun h => ?_)
    rw [hw] at h
    obtain ⟨z1, z2, z3⟩ := word_size ht (of_decide_eq_true h)
    clear f1 f2 f3 f4 f5 f6 hw h
    rw [z1]
    show (((strOfNums (P.bits 1000000000 t).reverse).size : Int) != _) = false
    rw [strOfNums_size, List.length_reverse]
    clear z1 z3
    generalize (P.bits 1000000000 t).length = n at *
    generalize (pathOf t).length = m at *
    have : (n : Int) = (m : Int) - 1 - 2 := by omega
    rw [this]
    exact bne_self_eq_false _
theorem FnMarkovWords : laws_FnMarkovWords.Pure := by
  intro l0 l1 _ _ hb _ _ hb1
  refine Ev.rounds ?_
  unfold laws_FnMarkovWords.f
  cases hbig : laws_big.f l0 l1 with
  | none => exact absurd hbig (by unfold laws_big.f; split <;> simp)
  | some b =>
    cases b with
    | true =>
      simp only [Option.bind_some, if_true]
      exact Ev.is rfl
    | false =>
      simp only [Option.bind_some, Bool.false_eq_true, if_false]
      have hc := bytes_of_u8 hb
      have hc1 := bytes_of_u8 hb1
      obtain ⟨t, a1, s1, e1, htri, _, _⟩ := markov_ok l0 hc 0 0 (by decide) (by decide)
      have hD : Ev (fun k => spec_DrawMarkovPath.f k l0) t := by
        unfold spec_DrawMarkovPath.f spec_DrawIsMarkov.f
        exact Ev.bind (a := t) (Ev.bind e1 (Ev.is rfl)) (Ev.is rfl)
      obtain ⟨v, v1, v2, v3, v4⟩ := root_right t
      obtain ⟨m1, m2⟩ := word_both t
      have hpl : (pathAll t).1.length ≤ 5000000000 ∧ ∀ x ∈ (pathAll t).1, x.length ≤ 1000000 := by
        unfold pathAll
        cases h : isMk t with
        | false => simp
        | true =>
          obtain ⟨f1, f2, f3, _⟩ := path_facts h
          simp only [if_true]
          refine ⟨by omega, fun x hx => ?_⟩
          rw [mk_len (f1 x hx)]
          decide
      have hp2 : (pathAll t).2 = isMk t := by unfold pathAll; cases isMk t <;> rfl
      refine Ev.bind hD (Ev.bind (MarkovPath_ev t) (Ev.bind (spec_MarkovPath_ev t) (Ev.bind m2 (Ev.bind m1 (Ev.bind v2 (Ev.bind v1 ?_))))))
      simp only [bne_self_eq_false, Bool.false_eq_true, if_false]
      refine Ev.bind (dLists_ev _ hpl.1 hpl.2) ?_
      simp only [if_true]
      refine Ev.bind (IsMarkov_ev t) ?_
      rw [v3, hp2]
      simp only [bne_self_eq_false, Bool.false_eq_true, if_false]
      have := main_part l1 t v.1 v4 hc1
      rw [hp2] at this
      exact this
end Go.Proofs.Ythkmbkibceojlaa.Pure
