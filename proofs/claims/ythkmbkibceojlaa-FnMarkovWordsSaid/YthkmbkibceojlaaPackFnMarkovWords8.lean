/- The path leads down to 1 1 1, the word and the triple undo each other, the root is a root. No condition. -/
import Derived.Test.YthkmbkibceojlaaPackFnMarkovWords7
-- Usorted
namespace Go.Proofs.Ythkmbkibceojlaa.P
set_option linter.unusedVariables false
set_option linter.unusedSimpArgs false
open Go.RowKit Go.Proofs.YthkmbkibceojlaaW.PrintWords Go.Proofs.YthkmbkibceojlaaW.PrintLast

def up (l : List Int) : List Int := l.mergeSort fun x y => decide (x ≤ y)
theorem up_perm (l : List Int) : (up l).Perm l := List.mergeSort_perm _ _
theorem up_pairwise (l : List Int) : (up l).Pairwise (· ≤ ·) := by
  have h := List.pairwise_mergeSort (le := fun x y : Int => decide (x ≤ y)) (by intro a b c h1 h2; simp at *; omega) (by intro a b; simp; omega) l
  exact h.imp (by intro a b h; simpa using h)
theorem up_unique {l m : List Int} (hp : m.Perm l) (hs : m.Pairwise (· ≤ ·)) : m = up l :=
  List.Perm.eq_of_pairwise (le := (· ≤ ·)) (fun a b _ _ h1 h2 => by omega) hs (up_pairwise l) (hp.trans (up_perm l).symm)
theorem sort_is (l : List Int) (h : l.length < 4611686018427387904) : slices_Sort_int_int.f l = some (up l) := by
  unfold slices_Sort_int_int.f
  rw [if_pos h]
  rfl
end Go.Proofs.Ythkmbkibceojlaa.P

-- UmkMove
namespace Go.Proofs.Ythkmbkibceojlaa.P
set_option linter.unusedVariables false
set_option linter.unusedSimpArgs false
open Go.RowKit Go.Proofs.YthkmbkibceojlaaW.PrintWords Go.Proofs.YthkmbkibceojlaaW.PrintLast Go.Proofs.YthkmbkibceojlaaW.PrintMore

theorem clone_is (l : List Int) (h : l.length < 17592186044416) : slices_Clone_int_int.f l = some l := by
  unfold slices_Clone_int_int.f
  rw [if_pos h]
theorem srt_up (x y z : Int) : srt x y z = up [x, y, z] := by
  have sw : ∀ a b c : Int, ([a, b, c] : List Int).Perm [a, c, b] := fun a b c => List.Perm.cons a (List.Perm.swap c b [])
  have ex : ∀ a b c : Int, ([a, b, c] : List Int).Perm [b, a, c] := fun a b c => List.Perm.swap b a [c]
  have hs : ∀ a b c : Int, a ≤ b → b ≤ c → ([a, b, c] : List Int).Pairwise (· ≤ ·) := by
    intro a b c h1 h2
    simp
    omega
  rcases srt_cases x y z with ⟨h1, h2, e⟩ | ⟨h1, h2, e⟩ | ⟨h1, h2, e⟩ | ⟨h1, h2, e⟩ | ⟨h1, h2, e⟩ | ⟨h1, h2, e⟩ <;> rw [e]
  · exact up_unique (List.Perm.refl _) (hs _ _ _ h1 h2)
  · exact up_unique (sw _ _ _) (hs _ _ _ h1 h2)
  · exact up_unique (ex _ _ _) (hs _ _ _ h1 h2)
  · exact up_unique ((sw _ _ _).trans (ex _ _ _)) (hs _ _ _ h1 h2)
  · exact up_unique ((ex _ _ _).trans (sw _ _ _)) (hs _ _ _ h1 h2)
  · exact up_unique ((ex _ _ _).trans ((sw _ _ _).trans (ex _ _ _))) (hs _ _ _ h1 h2)
theorem up_same {l m : List Int} (h : l.Perm m) : up l = up m := up_unique ((up_perm l).trans h) (up_pairwise l)
theorem srt_rot (x y z : Int) : srt x y z = srt y z x := by
  rw [srt_up, srt_up]
  exact up_same ((List.Perm.swap y x [z]).trans (List.Perm.cons y (List.Perm.swap z x [])))
theorem srt_ex (x y z : Int) : srt x y z = srt y x z := by
  rw [srt_up, srt_up]
  exact up_same (List.Perm.swap y x [z])
theorem mkEq_rot (x y z : Int) : mkEq x y z = mkEq y z x := by
  unfold mkEq
  rw [Bool.eq_iff_iff]; simp only [beq_iff_eq]; constructor <;> intro h <;> grind
/-- What a Markov triple's numbers are. -/
theorem isMk_iff {x y z : Int} : isMk [x, y, z] = true ↔ (1 ≤ x ∧ x ≤ 1000000000) ∧ (1 ≤ y ∧ y ≤ 1000000000) ∧ (1 ≤ z ∧ z ≤ 1000000000) ∧ x ≤ y ∧ y ≤ z ∧ mkEq x y z = true := by
  have he : isMk [x, y, z] = ([x, y, z].all (inB 1 1000000000) && (decide (x ≤ y) && (decide (y ≤ z) && mkEq x y z))) := rfl
  rw [he]
  simp only [List.all_cons, List.all_nil, Bool.and_true, Bool.and_eq_true, inB, decide_eq_true_eq]
  constructor
  · rintro ⟨⟨h1, h2, h3⟩, h4, h5, h6⟩
    exact ⟨h1, h2, h3, h4, h5, h6⟩
  · rintro ⟨h1, h2, h3, h4, h5, h6⟩
    exact ⟨⟨h1, h2, h3⟩, h4, h5, h6⟩
theorem isMk_srt {x y z : Int} (hx : 1 ≤ x ∧ x ≤ 1000000000) (hy : 1 ≤ y ∧ y ≤ 1000000000) (hz : 1 ≤ z ∧ z ≤ 1000000000) (h : mkEq x y z = true) : isMk (srt x y z) = true := by
  rcases srt_cases x y z with ⟨h1, h2, e⟩ | ⟨h1, h2, e⟩ | ⟨h1, h2, e⟩ | ⟨h1, h2, e⟩ | ⟨h1, h2, e⟩ | ⟨h1, h2, e⟩ <;> (have h6 := mkEq_srt e; rw [e, isMk_iff]; exact ⟨by omega, by omega, by omega, h1, h2, by rw [h6]; exact h⟩)
/-- The other root. -/
theorem other_root {a b c : Int} (ha : 1 ≤ a ∧ a ≤ 1000000000) (hb : 1 ≤ b ∧ b ≤ 1000000000) (hc : 1 ≤ c ∧ c ≤ 1000000000) (h : mkEq a b c = true) :
    1 ≤ 3 * a * b - c ∧ 3 * a * b - c ≤ 3000000000000000000 ∧ c * (3 * a * b - c) = a * a + b * b ∧ mkEq a b (3 * a * b - c) = true ∧ wrap64 (wrap64 (wrap64 (3 * a) * b) - c) = 3 * a * b - c := by
  rw [mkEq_iff] at h
  have h1 : c * (3 * a * b - c) = a * a + b * b := by grind
  have p1 := mul_bd (a := a) (b := b) (A := 1000000000) (B := 1000000000) (by omega) (by omega) (by omega) (by omega)
  have p2 : 1 ≤ a * a := by have := mul_one_le (a := a) (b := a) (by omega) (by omega); omega
  have p3 : 1 ≤ b * b := by have := mul_one_le (a := b) (b := b) (by omega) (by omega); omega
  have e : 3 * a * b = 3 * (a * b) := Int.mul_assoc _ _ _
  have hpos : 1 ≤ 3 * a * b - c := by
    rcases Int.lt_or_le 0 (3 * a * b - c) with h2 | h2
    · omega
    · have h3 := Int.mul_nonneg (show 0 ≤ c by omega) (show 0 ≤ -(3 * a * b - c) by omega)
      rw [Int.mul_neg] at h3
      omega
  refine ⟨hpos, by omega, h1, ?_, ?_⟩
  · rw [mkEq_iff]; grind
  · rw [w64 (x := 3 * a) (by omega) (by omega), w64 (x := 3 * a * b) (by omega) (by omega), w64 (by omega) (by omega)]

/-- The triple behind a move. -/
def mv (x y z : Int) : Nat → List Int
  | 0 => srt y z (3 * y * z - x)
  | 1 => srt z x (3 * z * x - y)
  | _ => srt x y (3 * x * y - z)
def mvN (x y z : Int) : Nat → Int
  | 0 => 3 * y * z - x
  | 1 => 3 * z * x - y
  | _ => 3 * x * y - z
theorem moved_raw (x y z : Int) : impl_moved.f [x, y, z] 0 = some (up [wrap64 (wrap64 (wrap64 (3 * y) * z) - x), y, z]) ∧ impl_moved.f [x, y, z] 1 = some (up [x, wrap64 (wrap64 (wrap64 (3 * z) * x) - y), z]) ∧ impl_moved.f [x, y, z] 2 = some (up [x, y, wrap64 (wrap64 (wrap64 (3 * x) * y) - z)]) := by
  have c : slices_Clone_int_int.f [x, y, z] = some [x, y, z] := clone_is _ (show 3 < 17592186044416 by decide)
  have s : ∀ a b c : Int, slices_Sort_int_int.f [a, b, c] = some (up [a, b, c]) := fun a b c => sort_is _ (show 3 < 4611686018427387904 by decide)
  have hl : (([x, y, z] : List Int).length : Int) = 3 := rfl
  have t1 : Int.tmod (wrap64 (0 + 1)) 3 = 1 := by decide +kernel
  have t2 : Int.tmod (wrap64 (0 + 2)) 3 = 2 := by decide +kernel
  have t3 : Int.tmod (wrap64 (1 + 1)) 3 = 2 := by decide +kernel
  have t4 : Int.tmod (wrap64 (1 + 2)) 3 = 0 := by decide +kernel
  have t5 : Int.tmod (wrap64 (2 + 1)) 3 = 0 := by decide +kernel
  have t6 : Int.tmod (wrap64 (2 + 2)) 3 = 1 := by decide +kernel
  have r0 : rd [x, y, z] 0 = x := rfl
  have r1 : rd [x, y, z] 1 = y := rfl
  have r2 : rd [x, y, z] 2 = z := rfl
  unfold impl_moved.f
  rw [c, t1, t2, t3, t4, t5, t6]
  simp only [Option.bind_some, hl, r0, r1, r2]
  refine ⟨?_, ?_, ?_⟩
  · rw [if_pos (by decide), if_pos (by decide), if_pos (by decide), if_pos (by decide), if_pos (by decide), if_pos (by decide), if_pos (by decide), show (0 : Int).toNat = 0 from rfl, List.set_cons_zero, s]
    rfl
  · rw [if_pos (by decide), if_pos (by decide), if_pos (by decide), if_pos (by decide), if_pos (by decide), if_pos (by decide), if_pos (by decide), show (1 : Int).toNat = 1 from rfl, List.set_cons_succ, List.set_cons_zero, s]
    rfl
  · rw [if_pos (by decide), if_pos (by decide), if_pos (by decide), if_pos (by decide), if_pos (by decide), if_pos (by decide), if_pos (by decide), show (2 : Int).toNat = 2 from rfl, List.set_cons_succ, List.set_cons_succ, List.set_cons_zero, s]
    rfl
/-- The numbers of a move at an index: the two that stay and the one that goes. -/
structure Roots (x y z : Int) (i : Nat) (a b c : Int) : Prop where
  ha : 1 ≤ a ∧ a ≤ 1000000000
  hb : 1 ≤ b ∧ b ≤ 1000000000
  hc : 1 ≤ c ∧ c ≤ 1000000000
  eq : mkEq a b c = true
  mv : mv x y z i = srt a b (3 * a * b - c)
  n : mvN x y z i = 3 * a * b - c
theorem roots_of {x y z : Int} (h : isMk [x, y, z] = true) (i : Nat) (hi : i ≤ 2) : ∃ a b c, Roots x y z i a b c ∧ ((i = 0 ∧ a = y ∧ b = z ∧ c = x) ∨ (i = 1 ∧ a = z ∧ b = x ∧ c = y) ∨ (i = 2 ∧ a = x ∧ b = y ∧ c = z)) := by
  obtain ⟨h1, h2, h3, h4, h5, h6⟩ := isMk_iff.1 h
  have hc : i = 0 ∨ i = 1 ∨ i = 2 := by omega
  rcases hc with rfl | rfl | rfl
  · exact ⟨y, z, x, ⟨h2, h3, h1, by rw [← mkEq_rot]; exact h6, rfl, rfl⟩, .inl ⟨rfl, rfl, rfl, rfl⟩⟩
  · exact ⟨z, x, y, ⟨h3, h1, h2, by rw [mkEq_rot]; exact h6, rfl, rfl⟩, .inr (.inl ⟨rfl, rfl, rfl, rfl⟩)⟩
  · exact ⟨x, y, z, ⟨h1, h2, h3, h6, rfl, rfl⟩, .inr (.inr ⟨rfl, rfl, rfl, rfl⟩)⟩
theorem moved_is {x y z : Int} (h : isMk [x, y, z] = true) (i : Nat) (hi : i ≤ 2) : impl_moved.f [x, y, z] (i : Int) = some (mv x y z i) := by
  obtain ⟨h1, h2, h3, h4, h5, h6⟩ := isMk_iff.1 h
  obtain ⟨m0, m1, m2⟩ := moved_raw x y z
  obtain ⟨a, b, c, hR, hcase⟩ := roots_of h i hi
  have ho := other_root hR.ha hR.hb hR.hc hR.eq
  rw [hR.mv]
  rcases hcase with ⟨rfl, rfl, rfl, rfl⟩ | ⟨rfl, rfl, rfl, rfl⟩ | ⟨rfl, rfl, rfl, rfl⟩
  · rw [ho.2.2.2.2] at m0
    rw [show ((0 : Nat) : Int) = 0 from rfl, m0, ← srt_up, srt_rot]
  · rw [ho.2.2.2.2] at m1
    rw [show ((1 : Nat) : Int) = 1 from rfl, m1, ← srt_up, ← srt_rot]
  · rw [ho.2.2.2.2] at m2
    rw [show ((2 : Nat) : Int) = 2 from rfl, m2, ← srt_up]
theorem srt_two (a b c : Int) : rd (srt a b c) 2 = hi2 a (hi2 b c) := rfl
theorem mv_two {x y z : Int} (h : isMk [x, y, z] = true) (i : Nat) (hi : i ≤ 2) : rd (mv x y z i) 2 > 1000000000 ↔ mvN x y z i > 1000000000 := by
  obtain ⟨a, b, c, hR, _⟩ := roots_of h i hi
  have := hR.ha
  have := hR.hb
  rw [hR.mv, hR.n, srt_two]
  unfold hi2
  split <;> split <;> omega
theorem mv_is {x y z : Int} (h : isMk [x, y, z] = true) (i : Nat) (hi : i ≤ 2) (hn : mvN x y z i ≤ 1000000000) : isMk (mv x y z i) = true := by
  obtain ⟨a, b, c, hR, _⟩ := roots_of h i hi
  have ho := other_root hR.ha hR.hb hR.hc hR.eq
  rw [hR.n] at hn
  rw [hR.mv]
  exact isMk_srt hR.ha hR.hb ⟨ho.1, hn⟩ ho.2.2.2.1
theorem mv_three (x y z : Int) (i : Nat) : ∃ a b c, mv x y z i = [a, b, c] := by
  match i with
  | 0 => exact ⟨_, _, _, rfl⟩
  | 1 => exact ⟨_, _, _, rfl⟩
  | _ + 2 => exact ⟨_, _, _, rfl⟩
def mvOf (x y z : Int) (i : Nat) : List Int × Bool := if mvN x y z i > 1000000000 then ([], false) else (mv x y z i, true)
theorem big_product {a b c : Int} (ha : 1 ≤ a ∧ a ≤ 1000000000) (hb : 1 ≤ b ∧ b ≤ 1000000000) (hc : 1 ≤ c ∧ c ≤ 1000000000) (h : a > 1000000000 / b) : 3 * a * b - c > 1000000000 := by
  have h1 : 1000000000 < a * b := (Int.ediv_lt_iff_lt_mul (by omega)).1 h
  have e : 3 * a * b = 3 * (a * b) := Int.mul_assoc _ _ _
  omega
theorem mkMove_is {x y z : Int} (h : isMk [x, y, z] = true) (i : Nat) (hi : i ≤ 2) : spec_mkMove.f [x, y, z] (i : Int) = some (mvOf x y z i) := by
  obtain ⟨a, b, c, hR, hcase⟩ := roots_of h i hi
  have ho := other_root hR.ha hR.hb hR.hc hR.eq
  have ha := hR.ha
  have hb := hR.hb
  have hc := hR.hc
  have hb0 : ¬ b = 0 := by clear ho; omega
  have hi0 : (0 : Int) ≤ (i : Int) := by clear ho hcase; omega
  have hi3 : (i : Int) < 3 := by clear ho hcase; omega
  have hl : (([x, y, z] : List Int).length : Int) = 3 := rfl
  have q1 : 0 ≤ 1000000000 / b := Int.ediv_nonneg (by omega) (by omega)
  have q2 : 1000000000 / b ≤ 1000000000 := Int.ediv_le_self _ (by omega)
  have wq : wrap64 (1000000000 / b) = 1000000000 / b := w64 (by omega) (by omega)
  have e1 : rd [x, y, z] (Int.tmod (wrap64 ((i : Int) + 1)) 3) = a ∧ rd [x, y, z] (Int.tmod (wrap64 ((i : Int) + 2)) 3) = b ∧ rd [x, y, z] (i : Int) = c ∧ 0 ≤ Int.tmod (wrap64 ((i : Int) + 1)) 3 ∧ Int.tmod (wrap64 ((i : Int) + 1)) 3 < 3 ∧ 0 ≤ Int.tmod (wrap64 ((i : Int) + 2)) 3 ∧ Int.tmod (wrap64 ((i : Int) + 2)) 3 < 3 := by
    rcases hcase with ⟨rfl, rfl, rfl, rfl⟩ | ⟨rfl, rfl, rfl, rfl⟩ | ⟨rfl, rfl, rfl, rfl⟩
    · have t1 : Int.tmod (wrap64 (((0 : Nat) : Int) + 1)) 3 = 1 := by decide +kernel
      have t2 : Int.tmod (wrap64 (((0 : Nat) : Int) + 2)) 3 = 2 := by decide +kernel
      rw [t1, t2]
      exact ⟨rfl, rfl, rfl, by decide, by decide, by decide, by decide⟩
    · have t1 : Int.tmod (wrap64 (((1 : Nat) : Int) + 1)) 3 = 2 := by decide +kernel
      have t2 : Int.tmod (wrap64 (((1 : Nat) : Int) + 2)) 3 = 0 := by decide +kernel
      rw [t1, t2]
      exact ⟨rfl, rfl, rfl, by decide, by decide, by decide, by decide⟩
    · have t1 : Int.tmod (wrap64 (((2 : Nat) : Int) + 1)) 3 = 0 := by decide +kernel
      have t2 : Int.tmod (wrap64 (((2 : Nat) : Int) + 2)) 3 = 1 := by decide +kernel
      rw [t1, t2]
      exact ⟨rfl, rfl, rfl, by decide, by decide, by decide, by decide⟩
  obtain ⟨e1, e2, e3, e4, e5, e6, e7⟩ := e1
  have ho5 := ho.2.2.2.2
  have hbig := big_product ha hb hc
  have hsort : ¬ 3 * a * b - c > 1000000000 → spec_mkSort.f a b (3 * a * b - c) = some (srt a b (3 * a * b - c)) := fun h2 => mkSort_srt a b _ (by clear e1 e2 e3 e4 e5 e6 e7 wq q1 q2 hcase ho5; omega) (by clear e1 e2 e3 e4 e5 e6 e7 wq q1 q2 hcase ho5; omega) (by clear e1 e2 e3 e4 e5 e6 e7 wq q1 q2 hcase ho5; omega)
  have hres : mvOf x y z i = if 3 * a * b - c > 1000000000 then ([], false) else (srt a b (3 * a * b - c), true) := by unfold mvOf; rw [hR.n, hR.mv]
  rw [hres]
  unfold spec_mkMove.f
  simp only [hl, e1, e2, e3, e4, e5, e6, e7, hb0, hi0, hi3, ho5, wq, if_true, if_false]
  by_cases h1 : a > 1000000000 / b
  · have h2 := hbig h1
    simp only [h1, h2, if_true]
  · by_cases h2 : 3 * a * b - c > 1000000000
    · simp only [h1, h2, if_true, if_false]
    · simp only [h1, h2, if_false, hsort h2, Option.bind_some]
theorem mkDown_is {x y z : Int} (h : isMk [x, y, z] = true) : spec_mkDown.f [x, y, z] = some (mv x y z 2) := by
  obtain ⟨h1, h2, h3, h4, h5, h6⟩ := isMk_iff.1 h
  have ho := other_root h1 h2 h3 h6
  have r0 : rd [x, y, z] 0 = x := rfl
  have r1 : rd [x, y, z] 1 = y := rfl
  have r2 : rd [x, y, z] 2 = z := rfl
  have hl : (([x, y, z] : List Int).length : Int) = 3 := rfl
  have bx := mul_bd (a := x) (b := x) (A := 1000000000) (B := z) (by omega) (by omega) (by omega) (by omega)
  have by_ := mul_bd (a := y) (b := y) (A := 1000000000) (B := z) (by omega) (by omega) (by omega) (by omega)
  have w1 : wrap64 (x * x) = x * x := w64 (by omega) (by omega)
  have w2 : wrap64 (y * y) = y * y := w64 (by omega) (by omega)
  have w3 : wrap64 (x * x + y * y) = x * x + y * y := w64 (by omega) (by omega)
  have d1 : Int.tdiv (x * x + y * y) z = 3 * x * y - z := by
    rw [← ho.2.2.1, Int.tdiv_eq_ediv_of_nonneg (by rw [ho.2.2.1]; omega), Int.mul_ediv_cancel_left _ (by omega)]
  have hle : 3 * x * y - z ≤ 2000000000 := by
    rcases Int.lt_or_le 2000000000 (3 * x * y - z) with h7 | h7
    · have h8 := Int.mul_le_mul (Int.le_refl z) (show 2000000001 ≤ 3 * x * y - z by omega) (by omega) (by omega)
      rw [ho.2.2.1] at h8
      omega
    · exact h7
  unfold spec_mkDown.f
  rw [hl, r0, r1, r2, w1, w2, w3, d1, w64 (x := 3 * x * y - z) (by omega) (by omega), if_pos (by decide), if_pos (by decide), if_pos (by decide), if_neg (by omega), mkSort_srt x y _ (by omega) (by omega) (by omega)]
  rfl
end Go.Proofs.Ythkmbkibceojlaa.P

-- UmkBelow
namespace Go.Proofs.Ythkmbkibceojlaa.P
set_option linter.unusedVariables false
set_option linter.unusedSimpArgs false
open Go.RowKit Go.Proofs.YthkmbkibceojlaaW.PrintWords Go.Proofs.YthkmbkibceojlaaW.PrintLast Go.Proofs.YthkmbkibceojlaaW.PrintMore

theorem mk_three {l : List Int} (h : isMk l = true) : ∃ x y z, l = [x, y, z] := by
  match l, h with
  | [x, y, z], _ => exact ⟨x, y, z, rfl⟩
/-- Above 1 1 1 the greatest number stands alone, and the other root is at most the middle one. -/
theorem below {x y z : Int} (h : isMk [x, y, z] = true) (hz : 1 < z) : y < z ∧ 3 * x * y - z ≤ y := by
  obtain ⟨h1, h2, h3, h4, h5, h6⟩ := isMk_iff.1 h
  have ho := other_root h1 h2 h3 h6
  have h7 := mkEq_iff.1 h6
  have hyz : y < z := by
    rcases Int.lt_or_le y z with h8 | h8
    · exact h8
    · obtain rfl : y = z := by omega
      -- x x + 2 y y = 3 x y y
      have e1 : x * x + 2 * (y * y) = 3 * (x * (y * y)) := by grind
      have e2 : x * x ≤ y * y := Int.mul_le_mul h4 h4 (by omega) (by omega)
      rcases Int.lt_or_le 1 x with h9 | h9
      · have e3 : 2 * (y * y) ≤ x * (y * y) := Int.mul_le_mul_of_nonneg_right (by omega) (by have := mul_one_le (a := y) (b := y) (by omega) (by omega); omega)
        have e4 := mul_one_le (a := y) (b := y) (by omega) (by omega)
        omega
      · obtain rfl : x = 1 := by omega
        have e4 : y * y = 1 := by omega
        have e5 : 2 * y ≤ y * y := Int.mul_le_mul_of_nonneg_right (show (2 : Int) ≤ y by omega) (by omega)
        omega
  refine ⟨hyz, ?_⟩
  rcases Int.lt_or_le y (3 * x * y - z) with h8 | h8
  · have e1 : (z - y) * (3 * x * y - z - y) = x * x + 2 * (y * y) - 3 * (x * (y * y)) := by grind
    have e2 : 0 < (z - y) * (3 * x * y - z - y) := Int.mul_pos (by omega) (by omega)
    have e3 : x * x ≤ y * y := Int.mul_le_mul h4 h4 (by omega) (by omega)
    have e4 : y * y ≤ x * (y * y) := by
      have := Int.mul_le_mul_of_nonneg_right (show 1 ≤ x by omega) (show 0 ≤ y * y by have := mul_one_le (a := y) (b := y) (by omega) (by omega); omega)
      omega
    omega
  · exact h8
end Go.Proofs.Ythkmbkibceojlaa.P

-- PFimplMarkovMove
namespace Go.Proofs.Ythkmbkibceojlaa.P
open Go.RowKit Go.Proofs.YthkmbkibceojlaaW.PrintWords Go.Proofs.YthkmbkibceojlaaW.PrintLast
set_option linter.unusedVariables false
set_option linter.unusedSimpArgs false

/-! ### impl_MarkovMove: function 28 -/
end Go.Proofs.Ythkmbkibceojlaa.P

-- PFimplMarkovDown
namespace Go.Proofs.Ythkmbkibceojlaa.P
open Go.RowKit Go.Proofs.YthkmbkibceojlaaW.PrintWords Go.Proofs.YthkmbkibceojlaaW.PrintLast
set_option linter.unusedVariables false
set_option linter.unusedSimpArgs false

/-! ### impl_MarkovDown: function 24 -/
end Go.Proofs.Ythkmbkibceojlaa.P

-- UmkOf
namespace Go.Proofs.Ythkmbkibceojlaa.P
set_option linter.unusedVariables false
set_option linter.unusedSimpArgs false
open Go.RowKit Go.Proofs.YthkmbkibceojlaaW.PrintWords Go.Proofs.YthkmbkibceojlaaW.PrintLast Go.Proofs.YthkmbkibceojlaaW.PrintMore
end Go.Proofs.Ythkmbkibceojlaa.P

-- UmkPath
namespace Go.Proofs.Ythkmbkibceojlaa.P
set_option linter.unusedVariables false
set_option linter.unusedSimpArgs false
open Go.RowKit Go.Proofs.YthkmbkibceojlaaW.PrintWords Go.Proofs.YthkmbkibceojlaaW.PrintLast Go.Proofs.YthkmbkibceojlaaW.PrintMore

/-- The triple below. -/
def dn (l : List Int) : List Int := match l with
  | [x, y, z] => mv x y z 2
  | _ => l
theorem dn_is {x y z : Int} (h : isMk [x, y, z] = true) (hz : 1 < z) : isMk (dn [x, y, z]) = true ∧ rd (dn [x, y, z]) 2 < z := by
  obtain ⟨h1, h2, h3, h4, h5, h6⟩ := isMk_iff.1 h
  obtain ⟨b1, b2⟩ := below h hz
  have hn : mvN x y z 2 ≤ 1000000000 := by
    show 3 * x * y - z ≤ _
    omega
  refine ⟨mv_is h 2 (by omega) hn, ?_⟩
  show rd (srt x y (3 * x * y - z)) 2 < z
  rw [srt_two]
  unfold hi2
  split <;> split <;> omega
theorem mk_pos {l : List Int} (h : isMk l = true) : 1 ≤ rd l 2 ∧ rd l 2 ≤ 1000000000 := by
  obtain ⟨x, y, z, rfl⟩ := mk_three h
  obtain ⟨h1, h2, h3, h4, h5, h6⟩ := isMk_iff.1 h
  exact h3
theorem dn_good {l : List Int} (h : isMk l = true) (hz : 1 < rd l 2) : isMk (dn l) = true ∧ rd (dn l) 2 < rd l 2 := by
  obtain ⟨x, y, z, rfl⟩ := mk_three h
  exact dn_is h hz
theorem moved_dn {l : List Int} (h : isMk l = true) : impl_moved.f l 2 = some (dn l) := by
  obtain ⟨x, y, z, rfl⟩ := mk_three h
  exact moved_is h 2 (by omega)
theorem down_dn {l : List Int} (h : isMk l = true) : spec_mkDown.f l = some (dn l) := by
  obtain ⟨x, y, z, rfl⟩ := mk_three h
  exact mkDown_is h
theorem mk_len {l : List Int} (h : isMk l = true) : l.length = 3 := by
  obtain ⟨x, y, z, rfl⟩ := mk_three h
  rfl
def mkp : Nat → List Int → List (List Int)
  | 0, l => [l]
  | d + 1, l => if rd l 2 > 1 then l :: mkp d (dn l) else [l]
theorem mkp_both (d : Nat) : ∀ (l : List Int) (o : List (List Int)), isMk l = true → rd l 2 ≤ d → o.length + d ≤ 3000000000000 →
    Ev (fun k => spec_mkPath.l0 k l (o ++ [l])) (o ++ mkp d l) ∧ Ev (fun k => impl_MarkovPath.l0 k l (o ++ [l])) (o ++ mkp d l, true) := by
  induction d with
  | zero =>
    intro l o h hs ho
    have := (mk_pos h).1
    omega
  | succ d ih =>
    intro l o h hs ho
    have hl : (2 : Int) < (l.length : Int) := by rw [mk_len h]; decide
    rw [mkp]
    by_cases hz : rd l 2 > 1
    · obtain ⟨g1, g2⟩ := dn_good h hz
      obtain ⟨r1, r2⟩ := ih (dn l) (o ++ [l]) g1 (by omega) (by rw [List.length_append, List.length_singleton]; omega)
      have hlen : (o ++ [l]).length < 4000000000000 := by rw [List.length_append, List.length_singleton]; omega
      have happ : o ++ l :: mkp d (dn l) = (o ++ [l]) ++ mkp d (dn l) := by simp
      rw [if_pos hz, happ]
      constructor
      · refine Ev.step (fun k => by simp only [spec_mkPath.l0, hl, hz, down_dn h, if_true, Option.bind_some, hlen]) r1
      · refine Ev.step (fun k => by simp only [impl_MarkovPath.l0, hl, hz, moved_dn h, clone_is _ (show (dn l).length < 17592186044416 by rw [mk_len g1]; decide), if_true, Option.bind_some, hlen]) r2
    · rw [if_neg hz]
      constructor
      · refine Ev.step (f := fun _ => some (o ++ [l])) (fun k => by simp only [spec_mkPath.l0, hl, hz, if_true, if_false]) (Ev.is rfl)
      · refine Ev.step (f := fun _ => some (o ++ [l], true)) (fun k => by simp only [impl_MarkovPath.l0, hl, hz, if_true, if_false]) (Ev.is rfl)
/-- The whole way. -/
def pathOf (l : List Int) : List (List Int) := mkp 1000000000 l
theorem mkPath_ev {l : List Int} (h : isMk l = true) : Ev (fun k => spec_mkPath.f k l) (pathOf l) := by
  have hp := mk_pos h
  have hl := mk_len h
  unfold spec_mkPath.f
  have he : spec_l1Own.f l = some l := by
    unfold spec_l1Own.f
    simp only [List.nil_append, List.length_nil, Option.bind_some]
    rw [if_pos (by omega)]
  refine Ev.bind0 he ?_
  exact (mkp_both 1000000000 l [] h (by omega) (by simp)).1
def pathAll (l : List Int) : List (List Int) × Bool := if isMk l then (pathOf l, true) else ([], false)
theorem MarkovPath_ev (l : List Int) : Ev (fun k => impl_MarkovPath.f k l) (pathAll l) := by
  unfold impl_MarkovPath.f pathAll
  refine Ev.bind (IsMarkov_ev l) ?_
  cases h : isMk l with
  | false =>
    simp only [Bool.false_eq_true, if_false]
    exact Ev.is rfl
  | true =>
    have hp := mk_pos h
    have hl := mk_len h
    simp only [if_true]
    refine Ev.bind0 (clone_is l (by omega)) ?_
    exact (mkp_both 1000000000 l [] h (by omega) (by simp)).2
theorem mkp_length (d : Nat) : ∀ l, 1 ≤ (mkp d l).length ∧ (mkp d l).length ≤ d + 1 := by
  induction d with
  | zero => intro l; simp [mkp]
  | succ d ih =>
    intro l
    rw [mkp]
    have := ih (dn l)
    split
    · simp only [List.length_cons]; omega
    · simp
theorem mkp_head (d : Nat) (l : List Int) : (mkp d l)[0]? = some l := by
  cases d with
  | zero => rfl
  | succ d => rw [mkp]; split <;> rfl
theorem mkp_all (d : Nat) : ∀ l, isMk l = true → ∀ x ∈ mkp d l, isMk x = true := by
  induction d with
  | zero =>
    intro l h x hx
    rw [mkp] at hx
    rw [List.mem_singleton.1 hx]
    exact h
  | succ d ih =>
    intro l h x hx
    rw [mkp] at hx
    split at hx
    · rename_i hz
      rcases List.mem_cons.1 hx with rfl | hx
      · exact h
      · exact ih _ (dn_good h hz).1 x hx
    · rw [List.mem_singleton.1 hx]
      exact h
end Go.Proofs.Ythkmbkibceojlaa.P

-- UmkBits
namespace Go.Proofs.Ythkmbkibceojlaa.P
set_option linter.unusedVariables false
set_option linter.unusedSimpArgs false
open Go.RowKit Go.Proofs.YthkmbkibceojlaaW.PrintWords Go.Proofs.YthkmbkibceojlaaW.PrintLast
theorem strOfNums_append (xs ys : List Int) : strOfNums xs ++ strOfNums ys = strOfNums (xs ++ ys) := by
  unfold strOfNums
  apply ByteArray.ext
  simp
theorem strOfNums_size (xs : List Int) : (strOfNums xs).size = xs.length := by
  unfold strOfNums
  simp [ByteArray.size]
/-- The letter of a step. -/
def letter (u v : List Int) : Int := if rd u 0 = rd v 0 then 108 else 114
def bits : Nat → List Int → List Int
  | 0, _ => []
  | d + 1, l => if rd l 2 > 5 then letter (dn l) l :: bits d (dn l) else []
theorem small_triples : ∀ x y z : Fin 6, isMk [((x.val : Nat) : Int), ((y.val : Nat) : Int), ((z.val : Nat) : Int)] = true → (x.val, y.val, z.val) = (1, 1, 1) ∨ (x.val, y.val, z.val) = (1, 1, 2) ∨ (x.val, y.val, z.val) = (1, 2, 5) := by decide +kernel
theorem small {l : List Int} (h : isMk l = true) (hz : rd l 2 ≤ 5) : l = [1, 1, 1] ∨ l = [1, 1, 2] ∨ l = [1, 2, 5] := by
  obtain ⟨x, y, z, rfl⟩ := mk_three h
  obtain ⟨h1, h2, h3, h4, h5, h6⟩ := isMk_iff.1 h
  have hz2 : z ≤ 5 := hz
  have ex : ((x.toNat : Nat) : Int) = x := by omega
  have ey : ((y.toNat : Nat) : Int) = y := by omega
  have ez : ((z.toNat : Nat) : Int) = z := by omega
  have hs := small_triples ⟨x.toNat, by omega⟩ ⟨y.toNat, by omega⟩ ⟨z.toNat, by omega⟩ (by simp only [ex, ey, ez]; exact h)
  simp only [Prod.mk.injEq] at hs
  rcases hs with ⟨a, b, c⟩ | ⟨a, b, c⟩ | ⟨a, b, c⟩
  · have : x = 1 := by omega
    have : y = 1 := by omega
    have : z = 1 := by omega
    subst_vars; exact .inl rfl
  · have : x = 1 := by omega
    have : y = 1 := by omega
    have : z = 2 := by omega
    subst_vars; exact .inr (.inl rfl)
  · have : x = 1 := by omega
    have : y = 2 := by omega
    have : z = 5 := by omega
    subst_vars; exact .inr (.inr rfl)
theorem srt_mem (a b c : Int) : a ≤ hi2 a (hi2 b c) ∧ b ≤ hi2 a (hi2 b c) ∧ c ≤ hi2 a (hi2 b c) := by
  unfold hi2
  split <;> split <;> omega
theorem srt_sum (a b c : Int) : rd (srt a b c) 0 + rd (srt a b c) 1 + rd (srt a b c) 2 = a + b + c := by
  show lo2 a (lo2 b c) + (a + b + c - lo2 a (lo2 b c) - hi2 a (hi2 b c)) + hi2 a (hi2 b c) = _
  omega
/-- Above 1 2 5 the triple below is at least 1 2 5. -/
theorem dn_five {l : List Int} (h : isMk l = true) (hz : 5 < rd l 2) : 5 ≤ rd (dn l) 2 := by
  obtain ⟨x, y, z, rfl⟩ := mk_three h
  obtain ⟨h1, h2, h3, h4, h5, h6⟩ := isMk_iff.1 h
  have hz2 : 5 < z := hz
  have hg := (dn_good h (by omega)).1
  have ho := other_root h1 h2 h3 h6
  rcases Int.lt_or_le (rd (dn [x, y, z]) 2) 5 with h7 | h7
  · have hm := srt_mem x y (3 * x * y - z)
    have hs := srt_sum x y (3 * x * y - z)
    have he : dn [x, y, z] = srt x y (3 * x * y - z) := rfl
    rw [he] at h7 hg
    have e2 : rd (srt x y (3 * x * y - z)) 2 = hi2 x (hi2 y (3 * x * y - z)) := rfl
    rw [← e2] at hm
    rcases small hg (by omega) with e | e | e
    · rw [e] at hm hs
      have q : rd [1, 1, 1] 2 = 1 := rfl
      rw [q] at hm
      have : x = 1 := by omega
      have : y = 1 := by omega
      subst_vars
      omega
    · rw [e] at hm hs
      have q0 : rd [1, 1, 2] 0 = 1 := rfl
      have q1 : rd [1, 1, 2] 1 = 1 := rfl
      have q : rd [1, 1, 2] 2 = 2 := rfl
      rw [q] at hm
      rw [q0, q1, q] at hs
      have hx : x = 1 ∨ x = 2 := by omega
      have hy : y = 1 ∨ y = 2 := by omega
      rcases hx with rfl | rfl <;> rcases hy with rfl | rfl <;> omega
    · rw [e] at h7
      have q : rd [1, 2, 5] 2 = 5 := rfl
      omega
  · exact h7
theorem path_five (d : Nat) (hd : 2 ≤ d) : mkp d [1, 2, 5] = [[1, 2, 5], [1, 1, 2], [1, 1, 1]] := by
  obtain ⟨e, rfl⟩ : ∃ e, d = e + 2 := ⟨d - 2, by omega⟩
  have d1 : dn [1, 2, 5] = [1, 1, 2] := by decide +kernel
  have d2 : dn [1, 1, 2] = [1, 1, 1] := by decide +kernel
  have r1 : rd [1, 2, 5] 2 > 1 := by decide
  have r2 : rd [1, 1, 2] 2 > 1 := by decide
  have r3 : ¬ rd [1, 1, 1] 2 > 1 := by decide
  rw [mkp, if_pos r1, d1, mkp, if_pos r2, d2]
  cases e with
  | zero => rfl
  | succ e => rw [mkp, if_neg r3]
theorem path_bits (d : Nat) : ∀ l, isMk l = true → 5 ≤ rd l 2 → rd l 2 ≤ d → (mkp d l).length = (bits d l).length + 3 ∧ ∀ k, k < (bits d l).length → (bits d l)[k]? = some (letter (rd_L1 (mkp d l) ((k + 1 : Nat) : Int)) (rd_L1 (mkp d l) (k : Int))) := by
  induction d with
  | zero => intro l h h5 hd; omega
  | succ d ih =>
    intro l h h5 hd
    rw [bits]
    by_cases hz : rd l 2 > 5
    · obtain ⟨g1, g2⟩ := dn_good h (by omega)
      obtain ⟨r1, r2⟩ := ih (dn l) g1 (dn_five h hz) (by omega)
      have hp : mkp (d + 1) l = l :: mkp d (dn l) := by rw [mkp, if_pos (by omega)]
      rw [if_pos hz, hp]
      refine ⟨by simp only [List.length_cons]; omega, fun k hk => ?_⟩
      have hrd : ∀ j : Nat, rd_L1 (l :: mkp d (dn l)) ((j + 1 : Nat) : Int) = rd_L1 (mkp d (dn l)) (j : Int) := by
        intro j
        unfold rd_L1
        rw [Int.toNat_natCast, Int.toNat_natCast, List.getD_cons_succ]
      cases k with
      | zero =>
        have h0 := mkp_head d (dn l)
        rw [hrd 0]
        have e1 : rd_L1 (mkp d (dn l)) ((0 : Nat) : Int) = dn l := by
          unfold rd_L1
          rw [Int.toNat_natCast, List.getD_eq_getElem?_getD, h0]
          rfl
        rw [e1]
        rfl
      | succ k =>
        rw [List.getElem?_cons_succ, hrd (k + 1), hrd k]
        exact r2 k (by simpa using hk)
    · have hs : rd l 2 ≤ 5 := by omega
      rcases small h hs with rfl | rfl | rfl
      · exact absurd h5 (by decide)
      · exact absurd h5 (by decide)
      · have q : rd [1, 2, 5] 2 = 5 := rfl
        rw [if_neg hz, path_five (d + 1) (by omega)]
        exact ⟨rfl, fun k hk => by simp at hk⟩
def told (s : List Int) : ByteArray × Bool := if s.length > 40 then ((⟨#[]⟩ : ByteArray), false) else (strOfNums s, true)
theorem impl_word (d : Nat) : ∀ (l s : List Int), isMk l = true → rd l 2 ≤ d → s.length + d ≤ 100000000000 → Ev (fun k => impl_MarkovWord.l0 k l s) (told (s ++ bits d l).reverse) := by
  induction d with
  | zero =>
    intro l s h hd hs
    have := (mk_pos h).1
    omega
  | succ d ih =>
    intro l s h hd hs
    have hl : (2 : Int) < (l.length : Int) := by rw [mk_len h]; decide
    have hl0 : (0 : Int) < (l.length : Int) := by omega
    rw [bits]
    by_cases hz : rd l 2 > 5
    · obtain ⟨g1, g2⟩ := dn_good h (by omega)
      have hd0 : (0 : Int) < ((dn l).length : Int) := by rw [mk_len g1]; decide
      have hs0 : s.length < 140737488355328 := by omega
      have hr := ih (dn l) (s ++ [letter (dn l) l]) g1 (by omega) (by rw [List.length_append, List.length_singleton]; omega)
      rw [List.append_assoc, List.singleton_append] at hr
      rw [if_pos hz]
      refine Ev.step (fun k => ?_) hr
      simp only [impl_MarkovWord.l0, hl, hl0, hz, moved_dn h, if_true, Option.bind_some, hd0, hs0]
      unfold letter
      split <;> rfl
    · rw [if_neg hz, List.append_nil]
      unfold told
      rw [List.length_reverse]
      by_cases h40 : s.length > 40
      · have h41 : (s.length : Int) > 40 := by omega
        rw [if_pos h40]
        refine Ev.step (f := fun _ => some ((⟨#[]⟩ : ByteArray), false)) (fun k => ?_) (Ev.is rfl)
        simp only [impl_MarkovWord.l0, hl, hz, if_true, if_false, h41]
      · have h41 : ¬ (s.length : Int) > 40 := by omega
        rw [if_neg h40]
        refine Ev.step (f := fun k => (slices_Reverse_byte_byte.f k s).bind fun t => some (strOfNums t, true)) (fun k => ?_) (Ev.bind (reverseB_ev s (by omega)) (Ev.is rfl))
        simp only [impl_MarkovWord.l0, hl, hz, if_true, if_false, h41]
theorem spec_word (W : List (List Int)) (b : List Int) (hW : ∀ x ∈ W, x.length = 3) (hl : W.length = b.length + 3) (hb : ∀ k, k < b.length → b[k]? = some (letter (rd_L1 W ((k + 1 : Nat) : Int)) (rd_L1 W (k : Int)))) (hn : b.length ≤ 2000000000) (i : Nat) : ∀ s : List Int, i ≤ b.length → s.length + i ≤ 4000000000 → Ev (fun k => spec_MarkovWord.l0 k W (strOfNums s) ((i : Int) - 1)) (told (s ++ (b.take i).reverse)) := by
  have hlen : ∀ j : Nat, j < W.length → (0 : Int) < ((rd_L1 W (j : Int)).length : Int) := by
    intro j hj
    unfold rd_L1
    rw [Int.toNat_natCast, List.getD_eq_getElem?_getD, List.getElem?_eq_getElem hj]
    have := hW W[j] (List.getElem_mem hj)
    show (0 : Int) < ((W[j]).length : Int)
    omega
  induction i with
  | zero =>
    intro s hi hs
    rw [List.take_zero, List.reverse_nil, List.append_nil]
    have hneg : ¬ (((0 : Nat) : Int) - 1 ≥ 0) := by omega
    unfold told
    by_cases h40 : s.length > 40
    · have h41 : ((strOfNums s).size : Int) > 40 := by rw [strOfNums_size]; omega
      rw [if_pos h40]
      refine Ev.step (f := fun _ => some ((⟨#[]⟩ : ByteArray), false)) (fun k => ?_) (Ev.is rfl)
      simp only [spec_MarkovWord.l0, hneg, if_false, h41, if_true]
    · have h41 : ¬ ((strOfNums s).size : Int) > 40 := by rw [strOfNums_size]; omega
      rw [if_neg h40]
      refine Ev.step (f := fun _ => some (strOfNums s, true)) (fun k => ?_) (Ev.is rfl)
      simp only [spec_MarkovWord.l0, hneg, if_false, h41]
  | succ i ih =>
    intro s hi hs
    have e0 : ((i + 1 : Nat) : Int) - 1 = (i : Int) := by omega
    rw [e0]
    have hr := ih (s ++ [letter (rd_L1 W ((i + 1 : Nat) : Int)) (rd_L1 W (i : Int))]) (by omega) (by rw [List.length_append, List.length_singleton]; omega)
    have ht : (b.take (i + 1)).reverse = letter (rd_L1 W ((i + 1 : Nat) : Int)) (rd_L1 W (i : Int)) :: (b.take i).reverse := by
      have hbi := hb i (by omega)
      rw [List.getElem?_eq_getElem (by omega)] at hbi
      rw [List.take_succ_eq_append_getElem (by omega), List.reverse_append, Option.some.inj hbi]
      rfl
    rw [List.append_assoc, List.singleton_append, ← ht] at hr
    have w1 : wrap64 ((i : Int) + 1) = ((i + 1 : Nat) : Int) := by rw [w64 (by omega) (by omega)]; omega
    have w2 : wrap64 ((i : Int) - 1) = (i : Int) - 1 := w64 (by omega) (by omega)
    have c1 : (i : Int) ≥ 0 := by omega
    have c2 : (0 : Int) ≤ (i : Int) := by omega
    have c3 : (i : Int) < (W.length : Int) := by omega
    have c4 : (0 : Int) ≤ ((i + 1 : Nat) : Int) := by omega
    have c5 : ((i + 1 : Nat) : Int) < (W.length : Int) := by omega
    have c6 := hlen i (by omega)
    have c7 := hlen (i + 1) (by omega)
    have c8 : (strOfNums s).size + 1 ≤ 9223372036854775807 := by rw [strOfNums_size]; omega
    refine Ev.step (fun k => ?_) hr
    simp only [spec_MarkovWord.l0, w1, w2, c1, c2, c3, c4, c5, c6, c7, c8, if_true]
    rw [← strOfNums_append]
    unfold letter
    by_cases he : rd (rd_L1 W ((i + 1 : Nat) : Int)) 0 = rd (rd_L1 W (i : Int)) 0
    · rw [if_pos he, if_pos he.symm]
      rfl
    · rw [if_neg he, if_neg (fun e => he e.symm)]
      rfl
theorem bits_length (d : Nat) : ∀ l, (bits d l).length ≤ d := by
  induction d with
  | zero => intro l; simp [bits]
  | succ d ih =>
    intro l
    rw [bits]
    have := ih (dn l)
    split
    · simp only [List.length_cons]; omega
    · simp
def wordOf (l : List Int) : ByteArray × Bool := if isMk l && decide (5 ≤ rd l 2) then told (bits 1000000000 l).reverse else ((⟨#[]⟩ : ByteArray), false)
theorem word_both (l : List Int) : Ev (fun k => spec_MarkovWord.f k l) (wordOf l) ∧ Ev (fun k => impl_MarkovWord.f k l) (wordOf l) := by
  unfold spec_MarkovWord.f impl_MarkovWord.f wordOf
  have ns : Ev (fun k => spec_MarkovWord.j0 k l true) ((⟨#[]⟩ : ByteArray), false) := Ev.step (f := fun _ => some ((⟨#[]⟩ : ByteArray), false)) (fun k => by simp only [spec_MarkovWord.j0, if_true]) (Ev.is rfl)
  have ni : Ev (fun k => impl_MarkovWord.j0 k l true) ((⟨#[]⟩ : ByteArray), false) := Ev.step (f := fun _ => some ((⟨#[]⟩ : ByteArray), false)) (fun k => by simp only [impl_MarkovWord.j0, if_true]) (Ev.is rfl)
  cases h : isMk l with
  | false =>
    rw [Bool.false_and, if_neg (by simp)]
    constructor
    · refine Ev.bind0 (mkGood_is l) ?_
      rw [h]
      exact ns
    · refine Ev.bind (IsMarkov_ev l) ?_
      rw [h]
      exact ni
  | true =>
    have hl : (2 : Int) < (l.length : Int) := by rw [mk_len h]; decide
    have hp := mk_pos h
    rw [Bool.true_and]
    by_cases h5 : 5 ≤ rd l 2
    · have d1 : decide (rd l 2 < 5) = false := decide_eq_false (by omega)
      have d2 : decide (rd l 2 ≤ 2) = false := decide_eq_false (by omega)
      rw [if_pos (decide_eq_true h5)]
      obtain ⟨p1, p2⟩ := path_bits 1000000000 l h h5 (by omega)
      have p3 := bits_length 1000000000 l
      constructor
      · refine Ev.bind0 (mkGood_is l) ?_
        rw [h]
        simp only [if_true, hl, d1]
        refine Ev.step (f := fun k => (spec_mkPath.f k l).bind fun t => spec_MarkovWord.l0 k t (⟨#[]⟩ : ByteArray) (wrap64 ((t.length : Int) - 4))) (fun k => by simp only [spec_MarkovWord.j0, Bool.false_eq_true, if_false]) (Ev.bind (mkPath_ev h) ?_)
        have hw : wrap64 (((pathOf l).length : Int) - 4) = ((bits 1000000000 l).length : Int) - 1 := by
          unfold pathOf
          rw [w64 (by omega) (by omega)]
          omega
        rw [hw]
        have hs := spec_word (pathOf l) (bits 1000000000 l) (fun x hx => mk_len (mkp_all 1000000000 l h x hx)) p1 p2 (by omega) (bits 1000000000 l).length [] (Nat.le_refl _) (by simp; omega)
        rw [List.take_length, List.nil_append] at hs
        exact hs
      · refine Ev.bind (IsMarkov_ev l) ?_
        rw [h]
        simp only [if_true, hl, d2]
        refine Ev.step (f := fun k => impl_MarkovWord.l0 k l []) (fun k => by simp only [impl_MarkovWord.j0, Bool.false_eq_true, if_false]) ?_
        have hs := impl_word 1000000000 l [] h (by omega) (by simp)
        rw [List.nil_append] at hs
        exact hs
    · have d1 : decide (rd l 2 < 5) = true := decide_eq_true (by omega)
      have d2 : decide (rd l 2 ≤ 2) = true := decide_eq_true (by
        rcases small h (by omega) with rfl | rfl | rfl
        · decide
        · decide
        · exact absurd (show (5 : Int) ≤ rd [1, 2, 5] 2 by decide) h5)
      rw [if_neg (by simpa using h5)]
      constructor
      · refine Ev.bind0 (mkGood_is l) ?_
        rw [h]
        simp only [if_true, hl, d1]
        exact ns
      · refine Ev.bind (IsMarkov_ev l) ?_
        rw [h]
        simp only [if_true, hl, d2]
        exact ni
theorem spec_MarkovPath_ev (l : List Int) : Ev (fun k => spec_MarkovPath.f k l) (pathAll l) := by
  unfold spec_MarkovPath.f pathAll
  refine Ev.bind0 (mkGood_is l) ?_
  cases h : isMk l with
  | false =>
    simp only [Bool.false_eq_true, if_false]
    exact Ev.is rfl
  | true =>
    simp only [if_true]
    exact Ev.bind (mkPath_ev h) (Ev.is rfl)
/-- The middle number falls by half at least, at each step: a short way. -/
theorem short (d : Nat) : ∀ (e : Nat) (l : List Int), isMk l = true → rd l 2 < 2 ^ e → (mkp d l).length ≤ e + 1 := by
  induction d with
  | zero => intro e l h hz; simp [mkp]
  | succ d ih =>
    intro e l h hz
    rw [mkp]
    by_cases hz1 : rd l 2 > 1
    · rw [if_pos hz1]
      have hp := mk_pos h
      cases e with
      | zero =>
        have : rd l 2 < 1 := by simpa using hz
        omega
      | succ e =>
        have hg := (dn_good h hz1).1
        have h2 : 2 * rd (dn l) 2 ≤ rd l 2 := by
          obtain ⟨x, y, z, rfl⟩ := mk_three h
          obtain ⟨h1, h2, h3, h4, h5, h6⟩ := isMk_iff.1 h
          have hb := below h hz1
          have e2 : rd (dn [x, y, z]) 2 = y := by
            show rd (srt x y (3 * x * y - z)) 2 = y
            rw [srt_two]
            unfold hi2
            split <;> split <;> omega
          have e3 : rd [x, y, z] 2 = z := rfl
          rw [e2, e3]
          -- z ≥ 3 x y - y ≥ 2 y
          have e4 : y ≤ x * y := by
            have := Int.mul_le_mul_of_nonneg_right (show 1 ≤ x by omega) (show 0 ≤ y by omega)
            omega
          have e5 : 3 * x * y = 3 * (x * y) := Int.mul_assoc _ _ _
          omega
        have := ih e (dn l) hg (by rw [Int.pow_succ] at hz; omega)
        simp only [List.length_cons]
        omega
    · rw [if_neg hz1]
      simp
end Go.Proofs.Ythkmbkibceojlaa.P

-- UmkInv
namespace Go.Proofs.Ythkmbkibceojlaa.P
set_option linter.unusedVariables false
set_option linter.unusedSimpArgs false
open Go.RowKit Go.Proofs.YthkmbkibceojlaaW.PrintWords Go.Proofs.YthkmbkibceojlaaW.PrintLast Go.Proofs.YthkmbkibceojlaaW.PrintMore
/-- No two of three numbers have a divisor. -/
def Cop (x y z : Int) : Prop := ∀ g : Int, ((g ∣ x ∧ g ∣ y) ∨ (g ∣ y ∧ g ∣ z) ∨ (g ∣ x ∧ g ∣ z)) → g ∣ 1
theorem Cop.up {x y w : Int} (h : Cop x y w) : Cop x y (3 * x * y - w) := by
  intro g hg
  rcases hg with ⟨a, b⟩ | ⟨a, b⟩ | ⟨a, b⟩
  · exact h g (.inl ⟨a, b⟩)
  · refine h g (.inr (.inl ⟨a, ?_⟩))
    have h1 : g ∣ 3 * x * y := Int.dvd_trans a ⟨3 * x, by rw [Int.mul_comm]⟩
    have := Int.dvd_sub h1 b
    rwa [show 3 * x * y - (3 * x * y - w) = w by omega] at this
  · refine h g (.inr (.inr ⟨a, ?_⟩))
    have h1 : g ∣ 3 * x * y := Int.dvd_trans a ⟨3 * y, by grind⟩
    have := Int.dvd_sub h1 b
    rwa [show 3 * x * y - (3 * x * y - w) = w by omega] at this
theorem Cop.swap {x y z : Int} (h : Cop x y z) : Cop y x z := by
  intro g hg
  rcases hg with ⟨a, b⟩ | ⟨a, b⟩ | ⟨a, b⟩
  · exact h g (.inl ⟨b, a⟩)
  · exact h g (.inr (.inr ⟨a, b⟩))
  · exact h g (.inr (.inl ⟨a, b⟩))
theorem Cop.rot {x y z : Int} (h : Cop x y z) : Cop y z x := by
  intro g hg
  rcases hg with ⟨a, b⟩ | ⟨a, b⟩ | ⟨a, b⟩
  · exact h g (.inr (.inl ⟨a, b⟩))
  · exact h g (.inr (.inr ⟨b, a⟩))
  · exact h g (.inl ⟨b, a⟩)
def CopL (l : List Int) : Prop := Cop (rd l 0) (rd l 1) (rd l 2)
theorem cop_srt {x y z : Int} : CopL (srt x y z) → Cop x y z := by
  intro h
  rcases srt_cases x y z with ⟨_, _, e⟩ | ⟨_, _, e⟩ | ⟨_, _, e⟩ | ⟨_, _, e⟩ | ⟨_, _, e⟩ | ⟨_, _, e⟩ <;> rw [e] at h
  · exact h
  · exact Cop.swap (Cop.rot (Cop.rot (show Cop x z y from h)))
  · exact Cop.swap (show Cop y x z from h)
  · exact Cop.rot (Cop.rot (show Cop y z x from h))
  · exact Cop.rot (show Cop z x y from h)
  · exact Cop.rot (Cop.rot (Cop.swap (show Cop z y x from h)))
theorem cop_all (d : Nat) : ∀ l, isMk l = true → rd l 2 ≤ d → CopL l := by
  induction d with
  | zero => intro l h hd; have := mk_pos h; omega
  | succ d ih =>
    intro l h hd
    by_cases hz : 1 < rd l 2
    · obtain ⟨g1, g2⟩ := dn_good h hz
      obtain ⟨x, y, z, rfl⟩ := mk_three h
      have h1 : Cop x y (3 * x * y - z) := cop_srt (ih (dn [x, y, z]) g1 (by omega))
      have h2 := h1.up
      rw [show 3 * x * y - (3 * x * y - z) = z by omega] at h2
      exact h2
    · obtain ⟨x, y, z, rfl⟩ := mk_three h
      obtain ⟨h1, h2, h3, h4, h5, h6⟩ := isMk_iff.1 h
      have hz1 : ¬ 1 < z := hz
      have e1 : x = 1 := by omega
      have e2 : y = 1 := by omega
      intro g hg
      show g ∣ 1
      have c0 : rd [x, y, z] 0 = x := rfl
      have c1 : rd [x, y, z] 1 = y := rfl
      rw [c0, c1, e1, e2] at hg
      rcases hg with ⟨a, _⟩ | ⟨a, _⟩ | ⟨a, _⟩ <;> exact a
theorem inverse_right (a m : Int) (hm : 1 ≤ m ∧ m ≤ 1000000000) (d : Nat) : ∀ (x y r s : Int), 0 ≤ s → s.toNat ≤ d → s < r → r ≤ 1000000000 →
    ((x ≤ 0 ∧ 0 ≤ y ∧ r * y - s * x = m) ∨ (0 ≤ x ∧ y ≤ 0 ∧ s * x - r * y = m)) → (-m ≤ x ∧ x ≤ m) → m ∣ a * x - r → m ∣ a * y - s → (∀ g : Int, g ∣ r → g ∣ s → g ∣ 1) →
    ∃ v, Ev (fun k => impl_inverse.l0 k m x y r s) v ∧ Ev (fun k => spec_mkInverse.l0 k m r s x y) v ∧ 0 ≤ v ∧ v < m ∧ m ∣ a * v - 1 := by
  have hm0 : ¬ m = 0 := by omega
  induction d with
  | zero =>
    intro x y r s h0 h1 h2 h3 hxy hx ha1 ha2 hg
    have hs : s = 0 := by omega
    subst hs
    have hr1 : r = 1 := by
      have := hg r (Int.dvd_refl r) (Int.dvd_zero r)
      have := Int.le_of_dvd (by decide) this
      omega
    subst hr1
    have e1 : Int.tmod x m = if 0 ≤ x then x % m else -((-x) % m) := by
      split
      · exact Int.tmod_eq_emod_of_nonneg (by assumption)
      · rename_i h
        have : Int.tmod (-(-x)) m = -Int.tmod (-x) m := Int.neg_tmod ..
        rw [Int.neg_neg] at this
        rw [this, Int.tmod_eq_emod_of_nonneg (by omega)]
    have q1 := Int.emod_nonneg x hm0
    have q2 := Int.emod_lt_of_pos x (show 0 < m by omega)
    have q3 := Int.emod_nonneg (-x) hm0
    have q4 := Int.emod_lt_of_pos (-x) (show 0 < m by omega)
    have b1 : -m < Int.tmod x m ∧ Int.tmod x m < m := by rw [e1]; split <;> omega
    have w1 : wrap64 (Int.tmod x m + m) = Int.tmod x m + m := w64 (by omega) (by omega)
    have t2 : Int.tmod (Int.tmod x m + m) m = (Int.tmod x m + m) % m := Int.tmod_eq_emod_of_nonneg (by omega)
    have p1 := Int.emod_nonneg (Int.tmod x m + m) hm0
    have p2 := Int.emod_lt_of_pos (Int.tmod x m + m) (show 0 < m by omega)
    have k1 := Int.mul_tdiv_add_tmod x m
    have k2 := Int.mul_ediv_add_emod (Int.tmod x m + m) m
    refine ⟨Int.tmod (wrap64 (Int.tmod x m + m)) m, Ev.step (f := fun _ => some (Int.tmod (wrap64 (Int.tmod x m + m)) m)) (fun k => by simp only [impl_inverse.l0, if_true]; rw [if_neg hm0]) (Ev.is rfl), Ev.step (f := fun _ => some (Int.tmod (wrap64 (Int.tmod x m + m)) m)) (fun k => by simp only [spec_mkInverse.l0]; rw [if_neg (by omega), if_neg hm0]) (Ev.is rfl), ?_⟩
    rw [w1, t2]
    refine ⟨p1, p2, ?_⟩
    obtain ⟨c, hc⟩ := ha1
    generalize (Int.tmod x m + m) % m = v at *
    generalize (Int.tmod x m + m) / m = e at *
    generalize Int.tmod x m = t at *
    generalize Int.tdiv x m = f at *
    refine ⟨c - a * f + a - a * e, ?_⟩
    have hv : v = x - m * f + m - m * e := by omega
    rw [hv]
    grind
  | succ d ih =>
    intro x y r s h0 h1 h2 h3 hxy hx ha1 ha2 hg
    by_cases hs : s = 0
    · exact ih x y r s h0 (by omega) h2 h3 hxy hx ha1 ha2 hg
    · have q0 : 0 ≤ r / s := Int.ediv_nonneg (by omega) h0
      have q1 : r / s ≤ r := Int.ediv_le_self _ (by omega)
      have q2 : r / s * s + r % s = r := Int.ediv_mul_add_emod r s
      have q3 : 0 ≤ r % s := Int.emod_nonneg r hs
      have q4 : r % s < s := Int.emod_lt_of_pos r (by omega)
      have q5 : 0 ≤ r / s * s := Int.mul_nonneg q0 h0
      have t1 : Int.tdiv r s = r / s := Int.tdiv_eq_ediv_of_nonneg (by omega)
      have w1 : wrap64 (r / s) = r / s := w64 (by omega) (by omega)
      have w2 : wrap64 (r / s * s) = r / s * s := w64 (by omega) (by omega)
      have w3 : wrap64 (r - r / s * s) = r % s := by rw [w64 (by omega) (by omega)]; omega
      -- the bounds
      have hy : -m ≤ y ∧ y ≤ m := by
        rcases hxy with ⟨a1, a2, a3⟩ | ⟨a1, a2, a3⟩
        · have n1 : 0 ≤ s * (-x) := Int.mul_nonneg h0 (by omega)
          have n2 : s * (-x) = -(s * x) := by grind
          have n3 : y ≤ r * y := by
            have := Int.mul_le_mul_of_nonneg_right (show 1 ≤ r by omega) a2
            omega
          omega
        · have n1 : 0 ≤ s * x := Int.mul_nonneg h0 a1
          have n3 : (-y) ≤ r * (-y) := by
            have := Int.mul_le_mul_of_nonneg_right (show 1 ≤ r by omega) (show 0 ≤ -y by omega)
            omega
          have n4 : r * (-y) = -(r * y) := by grind
          omega
      have hxy2 : (y ≤ 0 ∧ 0 ≤ x - r / s * y ∧ s * (x - r / s * y) - r % s * y = m) ∨ (0 ≤ y ∧ x - r / s * y ≤ 0 ∧ r % s * y - s * (x - r / s * y) = m) := by
        generalize r / s = q at *
        generalize r % s = p at *
        have hp : p = r - q * s := by omega
        rcases hxy with ⟨a1, a2, a3⟩ | ⟨a1, a2, a3⟩
        · right
          have n1 : 0 ≤ q * y := Int.mul_nonneg q0 a2
          refine ⟨a2, by omega, ?_⟩
          rw [hp, ← a3]
          grind
        · left
          have n1 : 0 ≤ q * (-y) := Int.mul_nonneg q0 (by omega)
          have n2 : q * (-y) = -(q * y) := by grind
          refine ⟨a2, by omega, ?_⟩
          rw [hp, ← a3]
          grind
      have hy2 : -m ≤ x - r / s * y ∧ x - r / s * y ≤ m := by
        generalize x - r / s * y = y2 at *
        generalize r % s = p at *
        rcases hxy2 with ⟨a1, a2, a3⟩ | ⟨a1, a2, a3⟩
        · have n1 : 0 ≤ p * (-y) := Int.mul_nonneg q3 (by omega)
          have n2 : p * (-y) = -(p * y) := by grind
          have n3 : y2 ≤ s * y2 := by
            have := Int.mul_le_mul_of_nonneg_right (show 1 ≤ s by omega) a2
            omega
          omega
        · have n1 : 0 ≤ p * y := Int.mul_nonneg q3 a1
          have n3 : (-y2) ≤ s * (-y2) := by
            have := Int.mul_le_mul_of_nonneg_right (show 1 ≤ s by omega) (show 0 ≤ -y2 by omega)
            omega
          have n4 : s * (-y2) = -(s * y2) := by grind
          omega
      have w4 : wrap64 (r / s * y) = r / s * y := w64 (by omega) (by omega)
      have w5 : wrap64 (x - r / s * y) = x - r / s * y := w64 (by omega) (by omega)
      obtain ⟨v, e1, e2, e3⟩ := ih y (x - r / s * y) s (r % s) q3 (by omega) q4 (by omega) (by
        rcases hxy2 with ⟨a1, a2, a3⟩ | ⟨a1, a2, a3⟩
        · exact .inl ⟨a1, a2, a3⟩
        · exact .inr ⟨a1, a2, a3⟩) hy ha2 (by
        obtain ⟨c1, hc1⟩ := ha1
        obtain ⟨c2, hc2⟩ := ha2
        refine ⟨c1 - r / s * c2, ?_⟩
        generalize r / s = q at *
        generalize r % s = p at *
        have hp : p = r - q * s := by omega
        rw [hp]
        grind) (fun g g1 g2 => by
        refine hg g ?_ g1
        have := Int.dvd_add (Int.dvd_trans g1 ⟨r / s, Int.mul_comm _ _⟩ : g ∣ r / s * s) g2
        rwa [q2] at this)
      refine ⟨v, Ev.step (fun k => ?_) e1, Ev.step (fun k => ?_) e2, e3⟩
      · simp only [impl_inverse.l0]
        rw [if_neg hs, t1, w1, w2, w3, w4, w5]
      · simp only [spec_mkInverse.l0]
        rw [if_pos (by omega), if_neg hs, t1, w1, w2, w3, w4, w5]
theorem inverse_is (a m : Int) (ha : 0 ≤ a) (hm : 1 ≤ m ∧ m ≤ 1000000000) (hg : ∀ g : Int, g ∣ a → g ∣ m → g ∣ 1) : ∃ v, Ev (fun k => impl_inverse.f k a m) v ∧ Ev (fun k => spec_mkInverse.f k a m) v ∧ 0 ≤ v ∧ v < m ∧ m ∣ a * v - 1 := by
  have hm0 : ¬ m = 0 := by omega
  have t0 : Int.tmod a m = a % m := Int.tmod_eq_emod_of_nonneg ha
  have q2 := Int.mul_ediv_add_emod a m
  have q3 : 0 ≤ a % m := Int.emod_nonneg a hm0
  have q4 : a % m < m := Int.emod_lt_of_pos a (by omega)
  obtain ⟨v, e1, e2, e3⟩ := inverse_right a m hm (a % m).toNat 0 1 m (a % m) q3 (Nat.le_refl _) q4 hm.2 (.inl ⟨by omega, by omega, by omega⟩) (by omega) ⟨-1, by omega⟩ ⟨a / m, by omega⟩ (fun g g1 g2 => hg g (by
    have := Int.dvd_add (Int.dvd_trans g1 ⟨a / m, rfl⟩ : g ∣ m * (a / m)) g2
    rwa [q2] at this) g1)
  have t1 : Int.tdiv (a % m) m = 0 := by rw [Int.tdiv_eq_ediv_of_nonneg q3]; exact Int.ediv_eq_zero_of_lt q3 q4
  unfold impl_inverse.f spec_mkInverse.f
  simp only [hm0, if_false, t0]
  refine ⟨v, Ev.step (fun k => ?_) e1, e2, e3⟩
  simp only [impl_inverse.l0, t1]
  rw [if_neg hm0, show wrap64 0 = 0 by decide +kernel, Int.zero_mul, Int.zero_mul, show wrap64 0 = 0 by decide +kernel, show wrap64 (1 - 0) = 1 by decide +kernel, Int.sub_zero, w64 (x := a % m) (by omega) (by omega)]
theorem root_sq {x y z v c t : Int} (heq : x * x + y * y + z * z = 3 * (x * y) * z) (hc : x * v - 1 = z * c) : (v * y - z * t) * (v * y - z * t) + 1 = z * (v * v * (3 * (x * y) - z) - 2 * c - z * c * c - 2 * v * y * t + z * t * t) := by
  have e1 : y * y = 3 * (x * y) * z - x * x - z * z := by omega
  have h1 : v * v * (y * y) = v * v * (3 * (x * y) * z - x * x - z * z) := by rw [e1]
  have e2 : x * v = 1 + z * c := by omega
  have h2 : x * v * (x * v) = (1 + z * c) * (1 + z * c) := by rw [e2]
  clear e1 e2 hc heq
  grind
theorem root_lin {x y z v c t : Int} (hc : x * v - 1 = z * c) : (v * y - z * t) * x - y = z * (c * y - t * x) := by
  have e2 : x * v = 1 + z * c := by omega
  have h2 : x * v * y = (1 + z * c) * y := by rw [e2]
  clear e2 hc
  grind
/-- A root of minus one. -/
def IsRoot (l : List Int) (v : Int) : Prop := 0 ≤ v ∧ v < rd l 2 ∧ rd l 2 ∣ v * v + 1 ∧ rd l 2 ∣ v * rd l 0 - rd l 1
theorem root_right (l : List Int) : ∃ v : Int × Bool, Ev (fun k => spec_MinusOneRoot.f k l) v ∧ Ev (fun k => impl_MinusOneRoot.f k l) v ∧ v.2 = isMk l ∧ (isMk l = true → IsRoot l v.1) := by
  unfold spec_MinusOneRoot.f impl_MinusOneRoot.f
  rw [mkGood_is l]
  have hI := IsMarkov_ev l
  cases h : isMk l with
  | false =>
    rw [h] at hI
    refine ⟨(0, false), ?_, Ev.bind hI ?_, rfl, by simp⟩
    · simp only [Option.bind_some, Bool.false_eq_true, if_false]
      exact Ev.is rfl
    · simp only [Bool.false_eq_true, if_false]
      exact Ev.is rfl
  | true =>
    rw [h] at hI
    have hp := mk_pos h
    have hcop := cop_all 1000000000 l h (by omega)
    obtain ⟨x, y, z, rfl⟩ := mk_three h
    obtain ⟨b1, b2, b3, b4, b5, b6⟩ := isMk_iff.1 h
    have heq := mkEq_iff.1 b6
    have hl : (([x, y, z] : List Int).length : Int) = 3 := rfl
    have r0 : rd [x, y, z] 0 = x := rfl
    have r1 : rd [x, y, z] 1 = y := rfl
    have r2 : rd [x, y, z] 2 = z := rfl
    have c0 : ¬ z = 0 := by omega
    have c1 : (0 : Int) < 3 := by decide
    have c2 : (1 : Int) < 3 := by decide
    have c3 : (2 : Int) < 3 := by decide
    obtain ⟨v, e1, e2, e3, e4, e5⟩ := inverse_is x z (by omega) b3 (fun g g1 g2 => hcop g (.inr (.inr ⟨g1, g2⟩)))
    refine ⟨(Int.tmod (wrap64 (v * Int.tmod y z)) z, true), ?_, Ev.bind hI ?_, rfl, fun _ => ?_⟩
    · simp only [Option.bind_some, if_true, hl, r0, r1, r2, c0, c1, c2, c3, if_false]
      exact Ev.bind e2 (Ev.is rfl)
    · simp only [if_true, hl, r0, r1, r2, c0, c1, c2, c3, if_false]
      exact Ev.bind e1 (Ev.is (by rw [Int.mul_comm]))
    · have t1 : Int.tmod y z = y % z := Int.tmod_eq_emod_of_nonneg (by omega)
      have p1 := Int.emod_nonneg y c0
      have p2 := Int.emod_lt_of_pos y (show 0 < z by omega)
      have m1 := mul_bd (a := v) (b := y % z) (A := 1000000000) (B := 1000000000) e3 (by omega) p1 (by omega)
      have w1 : wrap64 (v * (y % z)) = v * (y % z) := w64 (by omega) (by omega)
      have t2 : Int.tmod (v * (y % z)) z = (v * (y % z)) % z := Int.tmod_eq_emod_of_nonneg m1.1
      have k1 := Int.mul_ediv_add_emod y z
      have k2 := Int.mul_ediv_add_emod (v * (y % z)) z
      have n1 := Int.emod_nonneg (v * (y % z)) c0
      have n2 := Int.emod_lt_of_pos (v * (y % z)) (show 0 < z by omega)
      show IsRoot [x, y, z] (Int.tmod (wrap64 (v * Int.tmod y z)) z)
      rw [t1, w1, t2]
      unfold IsRoot
      rw [r0, r1, r2]
      refine ⟨n1, n2, ?_⟩
      obtain ⟨c, hc⟩ := e5
      generalize hR : (v * (y % z)) % z = R at *
      generalize (v * (y % z)) / z = e at *
      generalize y % z = y1 at *
      generalize y / z = f at *
      have hy1 : y1 = y - z * f := by omega
      have hRR : R = v * y - z * (v * f + e) := by
        rw [hy1] at k2
        grind
      generalize v * f + e = t at *
      clear k1 k2 w1 t1 t2 m1 hR n1 n2 p1 p2 hI e1 e2 b6 h hcop hp
      constructor
      · refine ⟨v * v * (3 * (x * y) - z) - 2 * c - z * c * c - 2 * v * y * t + z * t * t, ?_⟩
        rw [hRR]
        exact root_sq heq hc
      · refine ⟨c * y - t * x, ?_⟩
        rw [hRR]
        exact root_lin hc
end Go.Proofs.Ythkmbkibceojlaa.P

-- UmkWord
namespace Go.Proofs.Ythkmbkibceojlaa.P
set_option linter.unusedVariables false
set_option linter.unusedSimpArgs false
open Go.RowKit Go.Proofs.YthkmbkibceojlaaW.PrintWords Go.Proofs.YthkmbkibceojlaaW.PrintLast Go.Proofs.YthkmbkibceojlaaW.PrintMore
theorem byte_drop (s : ByteArray) (i : Nat) (h : i < s.size) : (bytesOf s).drop i = bt s (i : Int) :: (bytesOf s).drop (i + 1) := by
  rw [rd_drop _ i (by rw [bytesOf_length]; exact h), rd_bytesOf]
theorem mkLetters_from (s : ByteArray) (hn : s.size ≤ 4611686018427387904) (d : Nat) : ∀ i : Nat, i + d = s.size → Ev (fun k => spec_mkLetters.l0 k s (i : Int)) (((bytesOf s).drop i).all (oneOf 108 114)) := by
  induction d with
  | zero =>
    intro i hi
    refine Ev.step (f := fun _ => some true) (fun k => by simp only [spec_mkLetters.l0]; rw [if_neg (by omega)]) ?_
    rw [List.drop_eq_nil_of_le (by rw [bytesOf_length]; omega)]
    exact Ev.is rfl
  | succ d ih =>
    intro i hi
    refine Ev.step (f := fun k => if bt s (i : Int) = 108 then spec_mkLetters.l0 k s ((i + 1 : Nat) : Int) else if bt s (i : Int) = 114 then spec_mkLetters.l0 k s ((i + 1 : Nat) : Int) else some false) (fun k => by simp only [spec_mkLetters.l0]; rw [if_pos (by omega), if_pos (by omega), w64_succ (n := s.size) (by omega) hn]) ?_
    rw [byte_drop s i (by omega), List.all_cons]
    by_cases h1 : bt s (i : Int) = 108
    · have e : oneOf 108 114 (bt s (i : Int)) = true := by simp [oneOf, h1]
      rw [e, Bool.true_and]
      simp only [h1, if_true]
      exact ih (i + 1) (by omega)
    · by_cases h2 : bt s (i : Int) = 114
      · have e : oneOf 108 114 (bt s (i : Int)) = true := by simp [oneOf, h2]
        rw [e, Bool.true_and]
        simp only [h1, if_false, h2, if_true]
        exact ih (i + 1) (by omega)
      · have e : oneOf 108 114 (bt s (i : Int)) = false := by simp [oneOf, h1, h2]
        rw [e, Bool.false_and]
        simp only [h1, h2, if_false]
        exact Ev.is rfl
def isLR (s : ByteArray) : Bool := decide ((s.size : Int) ≤ 40) && (bytesOf s).all (oneOf 108 114)
theorem mkLetters_ev (s : ByteArray) : Ev (fun k => spec_mkLetters.f k s) (isLR s) := by
  unfold spec_mkLetters.f isLR
  by_cases h : (s.size : Int) > 40
  · simp only [h, if_true]
    rw [decide_eq_false (by omega), Bool.false_and]
    exact Ev.is rfl
  · simp only [h, if_false]
    rw [decide_eq_true (by omega), Bool.true_and]
    exact mkLetters_from s (by omega) s.size 0 (by omega)
theorem first_is : isMk [1, 2, 5] = true := by decide +kernel
end Go.Proofs.Ythkmbkibceojlaa.P
