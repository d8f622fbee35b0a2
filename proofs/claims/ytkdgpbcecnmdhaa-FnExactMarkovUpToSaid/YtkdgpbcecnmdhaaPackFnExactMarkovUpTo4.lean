/- MarkovUpTo answers what the reference answers, for every bound; what it hands back is its own. No condition. -/
import Derived.Test.YtkdgpbcecnmdhaaPackFnExactMarkovUpTo3
-- UmkMove
namespace Go.Proofs.Ytkdgpbcecnmdhaa.P
set_option linter.unusedVariables false
set_option linter.unusedSimpArgs false
open Go.RowKit Go.Proofs.YtkdgpbcecnmdhaaW.PrintWords Go.Proofs.YtkdgpbcecnmdhaaW.PrintLast Go.Proofs.YtkdgpbcecnmdhaaW.PrintMore

theorem clone_is (l : List Int) (h : l.length < 17592186044416) : slices_Clone_int_int.f l = some l := by
  unfold slices_Clone_int_int.f
  rw [if_pos h]
theorem srt_up (x y z : Int) : srt x y z = up [x, y, z] := by
  have sw : ∀ a b c : Int, ([a, b, c] : List Int).Perm [a, c, b] := fun a b c => List.Perm.cons a (List.Perm.swap c b [])
  have ex : ∀ a b c : Int, ([a, b, c] : List Int).Perm [b, a, c] := fun a b c => List.Perm.swap b a [c]
  have hs : ∀ a b c : Int, a ≤ b → b ≤ c → ([a, b, c] : List Int).Pairwise (· ≤ ·) := by
    intro a b c h1 h2
    simp
    omega
  rcases srt_cases x y z with ⟨h1, h2, e⟩ | ⟨h1, h2, e⟩ | ⟨h1, h2, e⟩ | ⟨h1, h2, e⟩ | ⟨h1, h2, e⟩ | ⟨h1, h2, e⟩ <;> rw [e]
  · exact up_unique (List.Perm.refl _) (hs _ _ _ h1 h2)
  · exact up_unique (sw _ _ _) (hs _ _ _ h1 h2)
  · exact up_unique (ex _ _ _) (hs _ _ _ h1 h2)
  · exact up_unique ((sw _ _ _).trans (ex _ _ _)) (hs _ _ _ h1 h2)
  · exact up_unique ((ex _ _ _).trans (sw _ _ _)) (hs _ _ _ h1 h2)
  · exact up_unique ((ex _ _ _).trans ((sw _ _ _).trans (ex _ _ _))) (hs _ _ _ h1 h2)
theorem up_same {l m : List Int} (h : l.Perm m) : up l = up m := up_unique ((up_perm l).trans h) (up_pairwise l)
theorem srt_rot (x y z : Int) : srt x y z = srt y z x := by
  rw [srt_up, srt_up]
  exact up_same ((List.Perm.swap y x [z]).trans (List.Perm.cons y (List.Perm.swap z x [])))
theorem srt_ex (x y z : Int) : srt x y z = srt y x z := by
  rw [srt_up, srt_up]
  exact up_same (List.Perm.swap y x [z])
theorem mkEq_rot (x y z : Int) : mkEq x y z = mkEq y z x := by
  unfold mkEq
  rw [Bool.eq_iff_iff]; simp only [beq_iff_eq]; constructor <;> intro h <;> grind
theorem mkEq_ex (x y z : Int) : mkEq x y z = mkEq y x z := by
  unfold mkEq
  rw [Bool.eq_iff_iff]; simp only [beq_iff_eq]; constructor <;> intro h <;> grind

/-- What a Markov triple's numbers are. -/
theorem isMk_iff {x y z : Int} : isMk [x, y, z] = true ↔ (1 ≤ x ∧ x ≤ 1000000000) ∧ (1 ≤ y ∧ y ≤ 1000000000) ∧ (1 ≤ z ∧ z ≤ 1000000000) ∧ x ≤ y ∧ y ≤ z ∧ mkEq x y z = true := by
  have he : isMk [x, y, z] = ([x, y, z].all (inB 1 1000000000) && (decide (x ≤ y) && (decide (y ≤ z) && mkEq x y z))) := rfl
  rw [he]
  simp only [List.all_cons, List.all_nil, Bool.and_true, Bool.and_eq_true, inB, decide_eq_true_eq]
  constructor
  · rintro ⟨⟨h1, h2, h3⟩, h4, h5, h6⟩
    exact ⟨h1, h2, h3, h4, h5, h6⟩
  · rintro ⟨h1, h2, h3, h4, h5, h6⟩
    exact ⟨⟨h1, h2, h3⟩, h4, h5, h6⟩
theorem isMk_srt {x y z : Int} (hx : 1 ≤ x ∧ x ≤ 1000000000) (hy : 1 ≤ y ∧ y ≤ 1000000000) (hz : 1 ≤ z ∧ z ≤ 1000000000) (h : mkEq x y z = true) : isMk (srt x y z) = true := by
  rcases srt_cases x y z with ⟨h1, h2, e⟩ | ⟨h1, h2, e⟩ | ⟨h1, h2, e⟩ | ⟨h1, h2, e⟩ | ⟨h1, h2, e⟩ | ⟨h1, h2, e⟩ <;> (have h6 := mkEq_srt e; rw [e, isMk_iff]; exact ⟨by omega, by omega, by omega, h1, h2, by rw [h6]; exact h⟩)
/-- The other root. -/
theorem other_root {a b c : Int} (ha : 1 ≤ a ∧ a ≤ 1000000000) (hb : 1 ≤ b ∧ b ≤ 1000000000) (hc : 1 ≤ c ∧ c ≤ 1000000000) (h : mkEq a b c = true) :
    1 ≤ 3 * a * b - c ∧ 3 * a * b - c ≤ 3000000000000000000 ∧ c * (3 * a * b - c) = a * a + b * b ∧ mkEq a b (3 * a * b - c) = true ∧ wrap64 (wrap64 (wrap64 (3 * a) * b) - c) = 3 * a * b - c := by
  rw [mkEq_iff] at h
  have h1 : c * (3 * a * b - c) = a * a + b * b := by grind
  have p1 := mul_bd (a := a) (b := b) (A := 1000000000) (B := 1000000000) (by omega) (by omega) (by omega) (by omega)
  have p2 : 1 ≤ a * a := by have := mul_one_le (a := a) (b := a) (by omega) (by omega); omega
  have p3 : 1 ≤ b * b := by have := mul_one_le (a := b) (b := b) (by omega) (by omega); omega
  have e : 3 * a * b = 3 * (a * b) := Int.mul_assoc _ _ _
  have hpos : 1 ≤ 3 * a * b - c := by
    rcases Int.lt_or_le 0 (3 * a * b - c) with h2 | h2
    · omega
    · have h3 := Int.mul_nonneg (show 0 ≤ c by omega) (show 0 ≤ -(3 * a * b - c) by omega)
      rw [Int.mul_neg] at h3
      omega
  refine ⟨hpos, by omega, h1, ?_, ?_⟩
  · rw [mkEq_iff]; grind
  · rw [w64 (x := 3 * a) (by omega) (by omega), w64 (x := 3 * a * b) (by omega) (by omega), w64 (by omega) (by omega)]

/-- The triple behind a move. -/
def mv (x y z : Int) : Nat → List Int
  | 0 => srt y z (3 * y * z - x)
  | 1 => srt z x (3 * z * x - y)
  | _ => srt x y (3 * x * y - z)
def mvN (x y z : Int) : Nat → Int
  | 0 => 3 * y * z - x
  | 1 => 3 * z * x - y
  | _ => 3 * x * y - z
theorem moved_raw (x y z : Int) : impl_moved.f [x, y, z] 0 = some (up [wrap64 (wrap64 (wrap64 (3 * y) * z) - x), y, z]) ∧ impl_moved.f [x, y, z] 1 = some (up [x, wrap64 (wrap64 (wrap64 (3 * z) * x) - y), z]) ∧ impl_moved.f [x, y, z] 2 = some (up [x, y, wrap64 (wrap64 (wrap64 (3 * x) * y) - z)]) := by
  have c : slices_Clone_int_int.f [x, y, z] = some [x, y, z] := clone_is _ (show 3 < 17592186044416 by decide)
  have s : ∀ a b c : Int, slices_Sort_int_int.f [a, b, c] = some (up [a, b, c]) := fun a b c => sort_is _ (show 3 < 4611686018427387904 by decide)
  have hl : (([x, y, z] : List Int).length : Int) = 3 := rfl
  have t1 : Int.tmod (wrap64 (0 + 1)) 3 = 1 := by decide +kernel
  have t2 : Int.tmod (wrap64 (0 + 2)) 3 = 2 := by decide +kernel
  have t3 : Int.tmod (wrap64 (1 + 1)) 3 = 2 := by decide +kernel
  have t4 : Int.tmod (wrap64 (1 + 2)) 3 = 0 := by decide +kernel
  have t5 : Int.tmod (wrap64 (2 + 1)) 3 = 0 := by decide +kernel
  have t6 : Int.tmod (wrap64 (2 + 2)) 3 = 1 := by decide +kernel
  have r0 : rd [x, y, z] 0 = x := rfl
  have r1 : rd [x, y, z] 1 = y := rfl
  have r2 : rd [x, y, z] 2 = z := rfl
  unfold impl_moved.f
  rw [c, t1, t2, t3, t4, t5, t6]
  simp only [Option.bind_some, hl, r0, r1, r2]
  refine ⟨?_, ?_, ?_⟩
  · rw [if_pos (by decide), if_pos (by decide), if_pos (by decide), if_pos (by decide), if_pos (by decide), if_pos (by decide), if_pos (by decide), show (0 : Int).toNat = 0 from rfl, List.set_cons_zero, s]
    rfl
  · rw [if_pos (by decide), if_pos (by decide), if_pos (by decide), if_pos (by decide), if_pos (by decide), if_pos (by decide), if_pos (by decide), show (1 : Int).toNat = 1 from rfl, List.set_cons_succ, List.set_cons_zero, s]
    rfl
  · rw [if_pos (by decide), if_pos (by decide), if_pos (by decide), if_pos (by decide), if_pos (by decide), if_pos (by decide), if_pos (by decide), show (2 : Int).toNat = 2 from rfl, List.set_cons_succ, List.set_cons_succ, List.set_cons_zero, s]
    rfl
/-- The numbers of a move at an index: the two that stay and the one that goes. -/
structure Roots (x y z : Int) (i : Nat) (a b c : Int) : Prop where
  ha : 1 ≤ a ∧ a ≤ 1000000000
  hb : 1 ≤ b ∧ b ≤ 1000000000
  hc : 1 ≤ c ∧ c ≤ 1000000000
  eq : mkEq a b c = true
  mv : mv x y z i = srt a b (3 * a * b - c)
  n : mvN x y z i = 3 * a * b - c
theorem roots_of {x y z : Int} (h : isMk [x, y, z] = true) (i : Nat) (hi : i ≤ 2) : ∃ a b c, Roots x y z i a b c ∧ ((i = 0 ∧ a = y ∧ b = z ∧ c = x) ∨ (i = 1 ∧ a = z ∧ b = x ∧ c = y) ∨ (i = 2 ∧ a = x ∧ b = y ∧ c = z)) := by
  obtain ⟨h1, h2, h3, h4, h5, h6⟩ := isMk_iff.1 h
  have hc : i = 0 ∨ i = 1 ∨ i = 2 := by omega
  rcases hc with rfl | rfl | rfl
  · exact ⟨y, z, x, ⟨h2, h3, h1, by rw [← mkEq_rot]; exact h6, rfl, rfl⟩, .inl ⟨rfl, rfl, rfl, rfl⟩⟩
  · exact ⟨z, x, y, ⟨h3, h1, h2, by rw [mkEq_rot]; exact h6, rfl, rfl⟩, .inr (.inl ⟨rfl, rfl, rfl, rfl⟩)⟩
  · exact ⟨x, y, z, ⟨h1, h2, h3, h6, rfl, rfl⟩, .inr (.inr ⟨rfl, rfl, rfl, rfl⟩)⟩
theorem moved_is {x y z : Int} (h : isMk [x, y, z] = true) (i : Nat) (hi : i ≤ 2) : impl_moved.f [x, y, z] (i : Int) = some (mv x y z i) := by
  obtain ⟨h1, h2, h3, h4, h5, h6⟩ := isMk_iff.1 h
  obtain ⟨m0, m1, m2⟩ := moved_raw x y z
  obtain ⟨a, b, c, hR, hcase⟩ := roots_of h i hi
  have ho := other_root hR.ha hR.hb hR.hc hR.eq
  rw [hR.mv]
  rcases hcase with ⟨rfl, rfl, rfl, rfl⟩ | ⟨rfl, rfl, rfl, rfl⟩ | ⟨rfl, rfl, rfl, rfl⟩
  · rw [ho.2.2.2.2] at m0
    rw [show ((0 : Nat) : Int) = 0 from rfl, m0, ← srt_up, srt_rot]
  · rw [ho.2.2.2.2] at m1
    rw [show ((1 : Nat) : Int) = 1 from rfl, m1, ← srt_up, ← srt_rot]
  · rw [ho.2.2.2.2] at m2
    rw [show ((2 : Nat) : Int) = 2 from rfl, m2, ← srt_up]
theorem srt_two (a b c : Int) : rd (srt a b c) 2 = hi2 a (hi2 b c) := rfl
theorem mv_two {x y z : Int} (h : isMk [x, y, z] = true) (i : Nat) (hi : i ≤ 2) : rd (mv x y z i) 2 > 1000000000 ↔ mvN x y z i > 1000000000 := by
  obtain ⟨a, b, c, hR, _⟩ := roots_of h i hi
  have := hR.ha
  have := hR.hb
  rw [hR.mv, hR.n, srt_two]
  unfold hi2
  split <;> split <;> omega
theorem mv_is {x y z : Int} (h : isMk [x, y, z] = true) (i : Nat) (hi : i ≤ 2) (hn : mvN x y z i ≤ 1000000000) : isMk (mv x y z i) = true := by
  obtain ⟨a, b, c, hR, _⟩ := roots_of h i hi
  have ho := other_root hR.ha hR.hb hR.hc hR.eq
  rw [hR.n] at hn
  rw [hR.mv]
  exact isMk_srt hR.ha hR.hb ⟨ho.1, hn⟩ ho.2.2.2.1
theorem mv_three (x y z : Int) (i : Nat) : ∃ a b c, mv x y z i = [a, b, c] := by
  match i with
  | 0 => exact ⟨_, _, _, rfl⟩
  | 1 => exact ⟨_, _, _, rfl⟩
  | _ + 2 => exact ⟨_, _, _, rfl⟩
def mvOf (x y z : Int) (i : Nat) : List Int × Bool := if mvN x y z i > 1000000000 then ([], false) else (mv x y z i, true)
theorem big_product {a b c : Int} (ha : 1 ≤ a ∧ a ≤ 1000000000) (hb : 1 ≤ b ∧ b ≤ 1000000000) (hc : 1 ≤ c ∧ c ≤ 1000000000) (h : a > 1000000000 / b) : 3 * a * b - c > 1000000000 := by
  have h1 : 1000000000 < a * b := (Int.ediv_lt_iff_lt_mul (by omega)).1 h
  have e : 3 * a * b = 3 * (a * b) := Int.mul_assoc _ _ _
  omega
theorem mkMove_is {x y z : Int} (h : isMk [x, y, z] = true) (i : Nat) (hi : i ≤ 2) : spec_mkMove.f [x, y, z] (i : Int) = some (mvOf x y z i) := by
  obtain ⟨a, b, c, hR, hcase⟩ := roots_of h i hi
  have ho := other_root hR.ha hR.hb hR.hc hR.eq
  have ha := hR.ha
  have hb := hR.hb
  have hc := hR.hc
  have hb0 : ¬ b = 0 := by clear ho; omega
  have hi0 : (0 : Int) ≤ (i : Int) := by clear ho hcase; omega
  have hi3 : (i : Int) < 3 := by clear ho hcase; omega
  have hl : (([x, y, z] : List Int).length : Int) = 3 := rfl
  have q1 : 0 ≤ 1000000000 / b := Int.ediv_nonneg (by omega) (by omega)
  have q2 : 1000000000 / b ≤ 1000000000 := Int.ediv_le_self _ (by omega)
  have wq : wrap64 (1000000000 / b) = 1000000000 / b := w64 (by omega) (by omega)
  have e1 : rd [x, y, z] (Int.tmod (wrap64 ((i : Int) + 1)) 3) = a ∧ rd [x, y, z] (Int.tmod (wrap64 ((i : Int) + 2)) 3) = b ∧ rd [x, y, z] (i : Int) = c ∧ 0 ≤ Int.tmod (wrap64 ((i : Int) + 1)) 3 ∧ Int.tmod (wrap64 ((i : Int) + 1)) 3 < 3 ∧ 0 ≤ Int.tmod (wrap64 ((i : Int) + 2)) 3 ∧ Int.tmod (wrap64 ((i : Int) + 2)) 3 < 3 := by
    rcases hcase with ⟨rfl, rfl, rfl, rfl⟩ | ⟨rfl, rfl, rfl, rfl⟩ | ⟨rfl, rfl, rfl, rfl⟩
    · have t1 : Int.tmod (wrap64 (((0 : Nat) : Int) + 1)) 3 = 1 := by decide +kernel
      have t2 : Int.tmod (wrap64 (((0 : Nat) : Int) + 2)) 3 = 2 := by decide +kernel
      rw [t1, t2]
      exact ⟨rfl, rfl, rfl, by decide, by decide, by decide, by decide⟩
    · have t1 : Int.tmod (wrap64 (((1 : Nat) : Int) + 1)) 3 = 2 := by decide +kernel
      have t2 : Int.tmod (wrap64 (((1 : Nat) : Int) + 2)) 3 = 0 := by decide +kernel
      rw [t1, t2]
      exact ⟨rfl, rfl, rfl, by decide, by decide, by decide, by decide⟩
    · have t1 : Int.tmod (wrap64 (((2 : Nat) : Int) + 1)) 3 = 0 := by decide +kernel
      have t2 : Int.tmod (wrap64 (((2 : Nat) : Int) + 2)) 3 = 1 := by decide +kernel
      rw [t1, t2]
      exact ⟨rfl, rfl, rfl, by decide, by decide, by decide, by decide⟩
  obtain ⟨e1, e2, e3, e4, e5, e6, e7⟩ := e1
  have ho5 := ho.2.2.2.2
  have hbig := big_product ha hb hc
  have hsort : ¬ 3 * a * b - c > 1000000000 → spec_mkSort.f a b (3 * a * b - c) = some (srt a b (3 * a * b - c)) := fun h2 => mkSort_srt a b _ (by clear e1 e2 e3 e4 e5 e6 e7 wq q1 q2 hcase ho5; omega) (by clear e1 e2 e3 e4 e5 e6 e7 wq q1 q2 hcase ho5; omega) (by clear e1 e2 e3 e4 e5 e6 e7 wq q1 q2 hcase ho5; omega)
  have hres : mvOf x y z i = if 3 * a * b - c > 1000000000 then ([], false) else (srt a b (3 * a * b - c), true) := by unfold mvOf; rw [hR.n, hR.mv]
  rw [hres]
  unfold spec_mkMove.f
  simp only [hl, e1, e2, e3, e4, e5, e6, e7, hb0, hi0, hi3, ho5, wq, if_true, if_false]
  by_cases h1 : a > 1000000000 / b
  · have h2 := hbig h1
    simp only [h1, h2, if_true]
  · by_cases h2 : 3 * a * b - c > 1000000000
    · simp only [h1, h2, if_true, if_false]
    · simp only [h1, h2, if_false, hsort h2, Option.bind_some]
end Go.Proofs.Ytkdgpbcecnmdhaa.P

-- UmkBelow
namespace Go.Proofs.Ytkdgpbcecnmdhaa.P
set_option linter.unusedVariables false
set_option linter.unusedSimpArgs false
open Go.RowKit Go.Proofs.YtkdgpbcecnmdhaaW.PrintWords Go.Proofs.YtkdgpbcecnmdhaaW.PrintLast Go.Proofs.YtkdgpbcecnmdhaaW.PrintMore

theorem mk_three {l : List Int} (h : isMk l = true) : ∃ x y z, l = [x, y, z] := by
  match l, h with
  | [x, y, z], _ => exact ⟨x, y, z, rfl⟩
/-- Above 1 1 1 the greatest number stands alone, and the other root is at most the middle one. -/
theorem below {x y z : Int} (h : isMk [x, y, z] = true) (hz : 1 < z) : y < z ∧ 3 * x * y - z ≤ y := by
  obtain ⟨h1, h2, h3, h4, h5, h6⟩ := isMk_iff.1 h
  have ho := other_root h1 h2 h3 h6
  have h7 := mkEq_iff.1 h6
  have hyz : y < z := by
    rcases Int.lt_or_le y z with h8 | h8
    · exact h8
    · obtain rfl : y = z := by omega
      -- x x + 2 y y = 3 x y y
      have e1 : x * x + 2 * (y * y) = 3 * (x * (y * y)) := by grind
      have e2 : x * x ≤ y * y := Int.mul_le_mul h4 h4 (by omega) (by omega)
      rcases Int.lt_or_le 1 x with h9 | h9
      · have e3 : 2 * (y * y) ≤ x * (y * y) := Int.mul_le_mul_of_nonneg_right (by omega) (by have := mul_one_le (a := y) (b := y) (by omega) (by omega); omega)
        have e4 := mul_one_le (a := y) (b := y) (by omega) (by omega)
        omega
      · obtain rfl : x = 1 := by omega
        have e4 : y * y = 1 := by omega
        have e5 : 2 * y ≤ y * y := Int.mul_le_mul_of_nonneg_right (show (2 : Int) ≤ y by omega) (by omega)
        omega
  refine ⟨hyz, ?_⟩
  rcases Int.lt_or_le y (3 * x * y - z) with h8 | h8
  · have e1 : (z - y) * (3 * x * y - z - y) = x * x + 2 * (y * y) - 3 * (x * (y * y)) := by grind
    have e2 : 0 < (z - y) * (3 * x * y - z - y) := Int.mul_pos (by omega) (by omega)
    have e3 : x * x ≤ y * y := Int.mul_le_mul h4 h4 (by omega) (by omega)
    have e4 : y * y ≤ x * (y * y) := by
      have := Int.mul_le_mul_of_nonneg_right (show 1 ≤ x by omega) (show 0 ≤ y * y by have := mul_one_le (a := y) (b := y) (by omega) (by omega); omega)
      omega
    omega
  · exact h8
end Go.Proofs.Ytkdgpbcecnmdhaa.P

-- UmkUp
namespace Go.Proofs.Ytkdgpbcecnmdhaa.P
set_option linter.unusedVariables false
set_option linter.unusedSimpArgs false
open Go.RowKit Go.Proofs.YtkdgpbcecnmdhaaW.PrintWords Go.Proofs.YtkdgpbcecnmdhaaW.PrintLast Go.Proofs.YtkdgpbcecnmdhaaW.PrintMore

/-- The triples above, up to a bound. -/
def upsL (most : Int) : List Int → List (List Int)
  | [x, y, z] => (if 3 * x * z - y ≤ most then [[x, z, 3 * x * z - y]] else []) ++ (if 3 * y * z - x ≤ most ∧ x ≠ y then [[y, z, 3 * y * z - x]] else [])
  | _ => []
theorem up_big {x y z : Int} (h : isMk [x, y, z] = true) : 2 * z ≤ 3 * x * z - y ∧ 3 * x * z - y ≤ 3 * y * z - x ∧ 3 * z * x = 3 * x * z := by
  obtain ⟨h1, h2, h3, h4, h5, h6⟩ := isMk_iff.1 h
  have e0 : 3 * z * x = 3 * x * z := by grind
  have e1 : 3 * x * z = 3 * (x * z) := Int.mul_assoc _ _ _
  have e2 : z ≤ x * z := by
    have := Int.mul_le_mul_of_nonneg_right (show 1 ≤ x by omega) (show 0 ≤ z by omega)
    omega
  have e3 : 3 * y * z = 3 * (y * z) := Int.mul_assoc _ _ _
  have e4 : x * z ≤ y * z := Int.mul_le_mul_of_nonneg_right h4 (by omega)
  refine ⟨?_, ?_, e0⟩ <;> omega
theorem mv_one {x y z : Int} (h : isMk [x, y, z] = true) : mv x y z 1 = [x, z, 3 * x * z - y] := by
  obtain ⟨b1, b2, b3⟩ := up_big h
  obtain ⟨h1, h2, h3, h4, h5, h6⟩ := isMk_iff.1 h
  show srt z x (3 * z * x - y) = _
  rw [b3]
  generalize 3 * x * z - y = n at b1
  rcases srt_cases z x n with ⟨c1, c2, e⟩ | ⟨c1, c2, e⟩ | ⟨c1, c2, e⟩ | ⟨c1, c2, e⟩ | ⟨c1, c2, e⟩ | ⟨c1, c2, e⟩ <;> rw [e] <;> first | rfl | (exfalso; omega) | (simp only [List.cons.injEq, and_true, true_and]; omega)
theorem mv_zero {x y z : Int} (h : isMk [x, y, z] = true) : mv x y z 0 = [y, z, 3 * y * z - x] := by
  obtain ⟨b1, b2, b3⟩ := up_big h
  obtain ⟨h1, h2, h3, h4, h5, h6⟩ := isMk_iff.1 h
  show srt y z (3 * y * z - x) = _
  generalize 3 * y * z - x = n at b2
  have hn : 2 * z ≤ n := by omega
  rcases srt_cases y z n with ⟨c1, c2, e⟩ | ⟨c1, c2, e⟩ | ⟨c1, c2, e⟩ | ⟨c1, c2, e⟩ | ⟨c1, c2, e⟩ | ⟨c1, c2, e⟩ <;> rw [e] <;> first | rfl | (exfalso; omega) | (simp only [List.cons.injEq, and_true, true_and]; omega)
/-- Behind the move of the greatest number none is greater, but for 1 1 1. -/
theorem mv_back {x y z : Int} (h : isMk [x, y, z] = true) : (1 < z ∧ ¬ z < rd (mv x y z 2) 2) ∨ (x = 1 ∧ y = 1 ∧ z = 1) := by
  obtain ⟨h1, h2, h3, h4, h5, h6⟩ := isMk_iff.1 h
  by_cases hz : 1 < z
  · left
    refine ⟨hz, ?_⟩
    obtain ⟨b1, b2⟩ := below h hz
    show ¬ z < rd (srt x y (3 * x * y - z)) 2
    rw [srt_two]
    unfold hi2
    split <;> split <;> omega
  · right
    omega
theorem upsL_sorted (most : Int) {l : List Int} (h : isMk l = true) : (upsL most l).Pairwise fun a b => cmpL a b < 0 := by
  obtain ⟨x, y, z, rfl⟩ := mk_three h
  obtain ⟨h1, h2, h3, h4, h5, h6⟩ := isMk_iff.1 h
  show ((if 3 * x * z - y ≤ most then [[x, z, 3 * x * z - y]] else []) ++ (if 3 * y * z - x ≤ most ∧ x ≠ y then [[y, z, 3 * y * z - x]] else [])).Pairwise _
  by_cases c1 : 3 * x * z - y ≤ most
  · by_cases c2 : 3 * y * z - x ≤ most ∧ x ≠ y
    · rw [if_pos c1, if_pos c2]
      have : x < y := by omega
      simp [cmpL, this]
    · rw [if_pos c1, if_neg c2]
      simp
  · by_cases c2 : 3 * y * z - x ≤ most ∧ x ≠ y
    · rw [if_neg c1, if_pos c2]
      simp
    · rw [if_neg c1, if_neg c2]
      simp
theorem upsL_mk {most : Int} (hm : most ≤ 1000000000) {l u : List Int} (h : isMk l = true) (hu : u ∈ upsL most l) : isMk u = true ∧ 2 * rd l 2 ≤ rd u 2 ∧ rd u 2 ≤ most := by
  obtain ⟨x, y, z, rfl⟩ := mk_three h
  obtain ⟨b1, b2, b3⟩ := up_big h
  replace hu : u ∈ (if 3 * x * z - y ≤ most then [[x, z, 3 * x * z - y]] else []) ++ (if 3 * y * z - x ≤ most ∧ x ≠ y then [[y, z, 3 * y * z - x]] else []) := hu
  rcases List.mem_append.1 hu with hu | hu
  · split at hu
    · obtain rfl := List.mem_singleton.1 hu
      have := mv_is h 1 (by omega) (by show 3 * z * x - y ≤ _; omega)
      rw [mv_one h] at this
      exact ⟨this, b1, by assumption⟩
    · simp at hu
  · split at hu
    · rename_i c
      obtain rfl := List.mem_singleton.1 hu
      have := mv_is h 0 (by omega) (by show 3 * y * z - x ≤ _; omega)
      rw [mv_zero h] at this
      exact ⟨this, by show 2 * z ≤ 3 * y * z - x; omega, c.1⟩
    · simp at hu

theorem sameS_from (a b : List Int) (hl : a.length = b.length) (hn : a.length ≤ 4611686018427387904) (d : Nat) : ∀ i : Nat, i + d = a.length → a.take i = b.take i → Ev (fun k => spec_l1Same.l0 k a b (a.length : Int) (i : Int)) (decide (a = b)) := by
  induction d with
  | zero =>
    intro i hi ht
    rw [List.take_of_length_le (by omega), List.take_of_length_le (by omega)] at ht
    refine Ev.step (fun k => by simp only [spec_l1Same.l0]; rw [if_neg (by omega)]) ?_
    exact Ev.is (by rw [decide_eq_true ht])
  | succ d ih =>
    intro i hi ht
    by_cases h : rd a (i : Int) = rd b (i : Int)
    · have hr := ih (i + 1) (by omega) (by rw [List.take_succ_eq_append_getElem (by omega), List.take_succ_eq_append_getElem (by omega), ht, ← rd_lt a i (by omega), ← rd_lt b i (by omega), h])
      exact Ev.step (fun k => by simp only [spec_l1Same.l0]; rw [if_pos (by omega), if_pos (by omega), if_pos (by omega), if_pos (by omega), if_pos h, w64_succ (n := a.length) (by omega) hn]) hr
    · have hd : decide (a = b) = false := decide_eq_false (fun e => h (by rw [e]))
      exact Ev.step (f := fun _ => some false) (fun k => by simp only [spec_l1Same.l0]; rw [if_pos (by omega), if_pos (by omega), if_pos (by omega), if_pos (by omega), if_neg h]) (Ev.is (by rw [hd]))
theorem sameS_ev (a b : List Int) (hn : a.length ≤ 4611686018427387904) : Ev (fun k => spec_l1Same.f k a b) (decide (a = b)) := by
  unfold spec_l1Same.f
  by_cases hl : a.length = b.length
  · simp only [hl, if_true]
    have := sameS_from a b hl hn a.length 0 (by omega) rfl
    rw [hl] at this
    exact this
  · have h : ¬ (a.length : Int) = (b.length : Int) := by omega
    simp only [h, if_false]
    have hd : decide (a = b) = false := decide_eq_false (fun e => hl (by rw [e]))
    exact Ev.is (by rw [hd])
theorem mkUp_ev {l : List Int} (h : isMk l = true) : Ev (fun k => spec_mkUp.f k l) (upsL 1000000000 l) := by
  obtain ⟨x, y, z, rfl⟩ := mk_three h
  obtain ⟨b1, b2, b3⟩ := up_big h
  obtain ⟨h1, h2, h3, h4, h5, h6⟩ := isMk_iff.1 h
  have m1 := mkMove_is h 1 (by omega)
  have m0 := mkMove_is h 0 (by omega)
  have e1 : mvOf x y z 1 = if 3 * x * z - y > 1000000000 then ([], false) else ([x, z, 3 * x * z - y], true) := by
    unfold mvOf
    rw [mv_one h]
    show (if 3 * z * x - y > 1000000000 then _ else _) = _
    rw [b3]
  have e0 : mvOf x y z 0 = if 3 * y * z - x > 1000000000 then ([], false) else ([y, z, 3 * y * z - x], true) := by
    unfold mvOf
    rw [mv_zero h]
    rfl
  have w1 : wrap64 (1 - 1) = 0 := by decide +kernel
  have w0 : wrap64 (0 - 1) = -1 := by decide +kernel
  have hend : ∀ o : List (List Int), Ev (fun k => spec_mkUp.l0 k [x, y, z] o (-1)) o := fun o => by
    refine Ev.step (f := fun _ => some o) (fun k => by simp only [spec_mkUp.l0]; rw [if_neg (by omega)]) (Ev.is rfl)
  have hg : ∀ n : Int, 2 * z ≤ n → n > z := fun n hn => by omega
  have hl3 : ∀ a b c : Int, (([a, b, c] : List Int).length : Int) = 3 := fun _ _ _ => rfl
  have hr2 : ∀ a b c : Int, rd [a, b, c] 2 = c := fun _ _ _ => rfl
  have hq : (2 : Int) < 3 := by decide
  unfold spec_mkUp.f
  show Ev _ ((if 3 * x * z - y ≤ 1000000000 then [[x, z, 3 * x * z - y]] else []) ++ (if 3 * y * z - x ≤ 1000000000 ∧ x ≠ y then [[y, z, 3 * y * z - x]] else []))
  have hnn : x = y → 3 * x * z - y = 3 * y * z - x := fun e => by rw [e]
  generalize 3 * x * z - y = n1 at *
  generalize 3 * y * z - x = n0 at *
  have step0 : ∀ o : List (List Int), (o = [] ∧ ¬ n0 ≤ 1000000000) ∨ o = [[x, z, n1]] → Ev (fun k => spec_mkUp.l0 k [x, y, z] o 0) (o ++ (if n0 ≤ 1000000000 ∧ x ≠ y then [[y, z, n0]] else [])) := by
    intro o ho
    by_cases c0 : n0 > 1000000000
    · rw [if_neg (by omega)]
      rw [if_pos c0] at e0
      rw [List.append_nil]
      refine Ev.step (fun k => ?_) (hend o)
      simp only [spec_mkUp.l0]
      rw [if_pos (by omega), show spec_mkMove.f [x, y, z] 0 = _ from m0, e0]
      simp only [Option.bind_some, Bool.false_eq_true, if_false, w0]
    · rw [if_neg c0] at e0
      rcases ho with ⟨rfl, h0⟩ | rfl
      · omega
      · have c2 : n0 > z := hg _ (by omega)
        have hsm := sameS_ev [x, z, n1] [y, z, n0] (show 3 ≤ 4611686018427387904 by decide)
        have hrd : rd_L1 [[x, z, n1]] 0 = [x, z, n1] := rfl
        have hne : ¬ ((([[x, z, n1]] : List (List Int)).length : Int) = 0) := by simp
        have hp : 0 < ((([[x, z, n1]] : List (List Int)).length : Int)) := by simp
        have hlim : ([[x, z, n1]] : List (List Int)).length < 5864062014805 := by simp
        have hst : ∀ r, Ev (fun k => (spec_l1Same.f k [x, z, n1] [y, z, n0]).bind fun t => if t = true then spec_mkUp.l0 k [x, y, z] [[x, z, n1]] (-1) else spec_mkUp.l0 k [x, y, z] ([[x, z, n1]] ++ [[y, z, n0]]) (-1)) r → Ev (fun k => spec_mkUp.l0 k [x, y, z] [[x, z, n1]] 0) r := fun r hr => by
          refine Ev.step (fun k => ?_) hr
          simp only [spec_mkUp.l0]
          rw [if_pos (by omega), show spec_mkMove.f [x, y, z] 0 = _ from m0, e0]
          simp only [Option.bind_some, if_true, hl3, hr2, hq, c2, hne, if_false, hrd, hp, hlim, w0]
        refine hst _ (Ev.bind hsm ?_)
        by_cases hxy : x = y
        · have hd : decide ([x, z, n1] = [y, z, n0]) = true := by
            have hn : n1 = n0 := hnn hxy
            rw [hxy, hn]; exact decide_eq_true rfl
          rw [hd, if_neg (by intro hh; exact hh.2 hxy), List.append_nil]
          simp only [if_true]
          exact hend _
        · have hd : decide ([x, z, n1] = [y, z, n0]) = false := decide_eq_false (fun hh => hxy (List.cons.inj hh).1)
          rw [hd, if_pos ⟨by omega, hxy⟩]
          simp only [Bool.false_eq_true, if_false]
          exact hend _
  by_cases c1 : n1 > 1000000000
  · rw [if_pos c1] at e1
    rw [if_neg (show ¬ n1 ≤ 1000000000 by omega), List.nil_append]
    refine Ev.step (fun k => ?_) (step0 [] (.inl ⟨rfl, by omega⟩))
    simp only [spec_mkUp.l0]
    rw [if_pos (by omega), show spec_mkMove.f [x, y, z] 1 = _ from m1, e1]
    simp only [Option.bind_some, Bool.false_eq_true, if_false, w1]
  · rw [if_neg c1] at e1
    rw [if_pos (show n1 ≤ 1000000000 by omega)]
    refine Ev.step (fun k => ?_) (step0 [[x, z, n1]] (.inr rfl))
    have c2 : n1 > z := hg _ b1
    simp only [spec_mkUp.l0]
    rw [if_pos (by omega), show spec_mkMove.f [x, y, z] 1 = _ from m1, e1]
    simp only [Option.bind_some, if_true, hl3, hr2, hq, c2, w1, List.length_nil, List.nil_append]
    rfl

/-- impl.ups at a triple. -/
theorem ups_ev {most : Int} (hm : most ≤ 1000000000) {l : List Int} (h : isMk l = true) : Ev (fun k => impl_ups.f k l most) (upsL most l) := by
  have hs := upsL_sorted most h
  obtain ⟨x, y, z, rfl⟩ := mk_three h
  obtain ⟨b1, b2, b3⟩ := up_big h
  have hb := mv_back h
  obtain ⟨h1, h2, h3, h4, h5, h6⟩ := isMk_iff.1 h
  have m0 := moved_is h 0 (by omega)
  have m1 := moved_is h 1 (by omega)
  have m2 := moved_is h 2 (by omega)
  rw [mv_zero h] at m0
  rw [mv_one h] at m1
  have w0 : wrap64 (0 + 1) = 1 := by decide +kernel
  have w1 : wrap64 (1 + 1) = 2 := by decide +kernel
  have w2 : wrap64 (2 + 1) = 3 := by decide +kernel
  have hl3 : ∀ a b c : Int, (([a, b, c] : List Int).length : Int) = 3 := fun _ _ _ => rfl
  have hl3n : ∀ a b c : Int, ([a, b, c] : List Int).length < 9223372036854775807 := fun _ _ _ => by show 3 < 9223372036854775807; decide
  have hr2 : ∀ a b c : Int, rd [a, b, c] 2 = c := fun _ _ _ => rfl
  have hq : (2 : Int) < 3 := by decide
  -- one step: the move's triple is taken, or not
  have hstep : ∀ (i j : Int) (a b c : Int) (o : List (List Int)) (r : List (List Int)), i < 3 → wrap64 (i + 1) = j → impl_moved.f [x, y, z] i = some [a, b, c] → o.length < 1000000000 → Ev (fun k => impl_ups.l0 k [x, y, z] most (if z < c ∧ c ≤ most then o ++ [[a, b, c]] else o) j) r → Ev (fun k => impl_ups.l0 k [x, y, z] most o i) r := by
    intro i j a b c o r hi hj hm ho hr
    refine Ev.step (fun k => ?_) hr
    simp only [impl_ups.l0]
    rw [if_pos hi, hm]
    simp only [Option.bind_some, hl3, hl3n, hr2, hq, if_true, hj, ho]
    by_cases c1 : z < c
    · by_cases c2 : c ≤ most
      · simp only [c1, c2, and_self, if_true]
      · simp only [c1, c2, and_false, if_true, if_false]
    · simp only [c1, false_and, if_false]
  obtain ⟨a2, b2', c2, e2⟩ := mv_three x y z 2
  rw [e2] at m2 hb
  have hend : ∀ o : List (List Int), sortDedup o = upsL most [x, y, z] → Ev (fun k => impl_ups.l0 k [x, y, z] most o 3) (upsL most [x, y, z]) := fun o ho => by
    refine Ev.step (f := fun _ => some (upsL most [x, y, z])) (fun k => by simp only [impl_ups.l0]; rw [if_neg (by omega), ho]) (Ev.is rfl)
  have hlast : ∀ o : List (List Int), o.length < 1000000000 → (∀ u, u ∈ o ↔ u ∈ upsL most [x, y, z]) → Ev (fun k => impl_ups.l0 k [x, y, z] most o 2) (upsL most [x, y, z]) := by
    intro o ho hu
    refine hstep 2 3 a2 b2' c2 o _ (by decide) w2 m2 ho (hend _ (sortDedup_is hs fun u => ?_).symm)
    rcases hb with ⟨hz, hn⟩ | ⟨rfl, rfl, rfl⟩
    · rw [if_neg (fun hh => hn hh.1)]
      exact (hu u).symm
    · have e3 : mv 1 1 1 2 = [1, 1, 2] := by decide
      rw [e3] at e2
      obtain ⟨rfl, rfl, rfl⟩ : a2 = 1 ∧ b2' = 1 ∧ c2 = 2 := by simpa [eq_comm] using e2
      by_cases hc : (1 : Int) < 2 ∧ (2 : Int) ≤ most
      · rw [if_pos hc]
        have hup : upsL most [1, 1, 1] = [[1, 1, 2]] := by
          show (if 3 * 1 * 1 - 1 ≤ most then [[1, 1, 3 * 1 * 1 - 1]] else []) ++ (if 3 * 1 * 1 - 1 ≤ most ∧ (1 : Int) ≠ 1 then [[1, 1, 3 * 1 * 1 - 1]] else []) = _
          rw [if_pos (by omega), if_neg (by intro hh; exact hh.2 rfl)]
          rfl
        rw [List.mem_append, hu u, hup]
        simp
      · rw [if_neg hc]
        exact (hu u).symm
  unfold impl_ups.f
  refine hstep 0 1 y z (3 * y * z - x) [] _ (by decide) w0 m0 (by simp) ?_
  refine hstep 1 2 x z (3 * x * z - y) _ _ (by decide) w1 m1 (by split <;> simp) ?_
  refine hlast _ (by split <;> split <;> simp) fun u => ?_
  show _ ↔ u ∈ (if 3 * x * z - y ≤ most then [[x, z, 3 * x * z - y]] else []) ++ (if 3 * y * z - x ≤ most ∧ x ≠ y then [[y, z, 3 * y * z - x]] else [])
  have hxy : x = y → 3 * x * z - y = 3 * y * z - x := fun e => by rw [e]
  generalize 3 * x * z - y = n1 at *
  generalize 3 * y * z - x = n0 at *
  by_cases c1 : n1 ≤ most
  · by_cases c0 : n0 ≤ most
    · rw [if_pos (show z < n1 ∧ n1 ≤ most by omega), if_pos (show z < n0 ∧ n0 ≤ most by omega), if_pos c1]
      by_cases e : x = y
      · rw [if_neg (fun hh => hh.2 e)]
        subst e
        rw [hxy rfl]
        simp
      · rw [if_pos ⟨c0, e⟩]
        simp [or_comm]
    · rw [if_pos (show z < n1 ∧ n1 ≤ most by omega), if_neg (fun hh => c0 hh.2), if_pos c1, if_neg (fun hh => c0 hh.1)]
      simp
  · have c0 : ¬ n0 ≤ most := by omega
    rw [if_neg (fun hh => c1 hh.2), if_neg (fun hh => c0 hh.2), if_neg c1, if_neg (fun hh => c0 hh.1)]
    simp
end Go.Proofs.Ytkdgpbcecnmdhaa.P

-- UmkTree
namespace Go.Proofs.Ytkdgpbcecnmdhaa.P
set_option linter.unusedVariables false
set_option linter.unusedSimpArgs false
open Go.RowKit Go.Proofs.YtkdgpbcecnmdhaaW.PrintWords Go.Proofs.YtkdgpbcecnmdhaaW.PrintLast Go.Proofs.YtkdgpbcecnmdhaaW.PrintMore

/-- A triple and all above it, in depth. -/
def dfs (m : Int) : Nat → List Int → List (List Int)
  | 0, t => [t]
  | n + 1, t => t :: (upsL m t).flatMap (dfs m n)
def treeOf (m : Int) (t : List Int) : List (List Int) := dfs m 31 t
theorem mk_pos_ {l : List Int} (h : isMk l = true) : 1 ≤ rd l 2 ∧ rd l 2 ≤ 1000000000 := by
  obtain ⟨x, y, z, rfl⟩ := mk_three h
  obtain ⟨h1, h2, h3, h4, h5, h6⟩ := isMk_iff.1 h
  exact h3
theorem mk_len_ {l : List Int} (h : isMk l = true) : l.length = 3 := by
  obtain ⟨x, y, z, rfl⟩ := mk_three h
  rfl
theorem upsL_len (m : Int) {t : List Int} (h : isMk t = true) : (upsL m t).length ≤ 2 := by
  obtain ⟨x, y, z, rfl⟩ := mk_three h
  have h : ∀ (p q : Prop) [Decidable p] [Decidable q] (a b : List Int), ((if p then [a] else []) ++ (if q then [b] else [])).length ≤ 2 := by
    intro p q _ _ a b
    by_cases hp : p <;> by_cases hq : q <;> simp [hp, hq]
  exact h _ _ _ _
theorem upsL_nil {m : Int} (hm : m ≤ 1000000000) {t : List Int} (h : isMk t = true) (hb : m < 2 * rd t 2) : upsL m t = [] := by
  rw [List.eq_nil_iff_forall_not_mem]
  intro u hu
  have := upsL_mk hm h hu
  omega
theorem flat_congr {l : List (List Int)} {f g : List Int → List (List Int)} (h : ∀ x ∈ l, f x = g x) : l.flatMap f = l.flatMap g := by
  induction l with
  | nil => rfl
  | cons x l ih => simp only [List.flatMap_cons, h x List.mem_cons_self, ih (fun y hy => h y (List.mem_cons_of_mem _ hy))]
theorem dfs_stable {m : Int} (hm : m ≤ 1000000000) : ∀ (n : Nat) (t : List Int), isMk t = true → m < rd t 2 * 2 ^ (n + 1) → dfs m n t = dfs m (n + 1) t
  | 0, t, h, hb => by
    show [t] = t :: (upsL m t).flatMap (dfs m 0)
    rw [upsL_nil hm h (by omega)]
    rfl
  | n + 1, t, h, hb => by
    show t :: (upsL m t).flatMap (dfs m n) = t :: (upsL m t).flatMap (dfs m (n + 1))
    congr 1
    refine flat_congr fun u hu => ?_
    obtain ⟨h1, h2, h3⟩ := upsL_mk hm h hu
    refine dfs_stable hm n u h1 ?_
    have e : rd t 2 * 2 ^ (n + 1 + 1) = (2 * rd t 2) * 2 ^ (n + 1) := by rw [Int.pow_succ 2 (n + 1)]; generalize (2 : Int) ^ (n + 1) = q; grind
    have hp : (0 : Int) ≤ 2 ^ (n + 1) := Int.le_of_lt (Int.pow_pos (by decide))
    have := Int.mul_le_mul_of_nonneg_right h2 hp
    omega
theorem treeOf_is {m : Int} (hm : m ≤ 1000000000) {t : List Int} (h : isMk t = true) : treeOf m t = t :: (upsL m t).flatMap (treeOf m) := by
  have hp := mk_pos_ h
  have := dfs_stable hm 31 t h (by
    rw [show (2 : Int) ^ (31 + 1) = 4294967296 by decide]
    omega)
  exact this
theorem dfs_mk {m : Int} (hm : m ≤ 1000000000) : ∀ (n : Nat) (t : List Int), isMk t = true → ∀ x ∈ dfs m n t, isMk x = true
  | 0, t, h, x, hx => by rw [List.mem_singleton.1 hx]; exact h
  | n + 1, t, h, x, hx => by
    rcases List.mem_cons.1 hx with rfl | hx
    · exact h
    · obtain ⟨u, hu, hx⟩ := List.mem_flatMap.1 hx
      exact dfs_mk hm n u (upsL_mk hm h hu).1 x hx
theorem dfs_len {m : Int} (hm : m ≤ 1000000000) : ∀ (n : Nat) (t : List Int), isMk t = true → (dfs m n t).length + 1 ≤ 2 ^ (n + 1)
  | 0, t, h => by simp [dfs]
  | n + 1, t, h => by
    have hl := upsL_len m h
    have hmem := fun u (hu : u ∈ upsL m t) => dfs_len hm n u (upsL_mk hm h hu).1
    rw [dfs, Nat.pow_succ]
    generalize upsL m t = us at hl hmem
    match us, hl, hmem with
    | [], _, _ => simp; have := Nat.pow_pos (n := n + 1) (show 0 < 2 by decide); omega
    | [a], _, hmem => have := hmem a (by simp); simp; omega
    | [a, b], _, hmem => have h1 := hmem a (by simp); have h2 := hmem b (by simp); simp; omega
    | _ :: _ :: _ :: _, hl, _ => simp at hl
theorem treeOf_len {m : Int} (hm : m ≤ 1000000000) {t : List Int} (h : isMk t = true) : (treeOf m t).length ≤ 4294967296 := by
  have := dfs_len hm 31 t h
  unfold treeOf
  omega
theorem sortM_congr {l l' : List (List Int)} (h : l.Perm l') : sortM l = sortM l' := sortM_is ((sortM_perm l).trans h) (sortM_sorted l)
theorem mk_prM {x : List Int} (h : isMk x = true) : prM x = true := by
  have h1 := mk_pos_ h
  have h2 := mk_len_ h
  rw [prM_iff]
  omega
theorem rdL1_mid (a : List (List Int)) (t : List Int) (b : List (List Int)) : rd_L1 (a ++ t :: b) (a.length : Int) = t := by
  simp [rd_L1]

/-- The search in breadth. -/
theorem bfs {m : Int} (hm : m ≤ 1000000000) : ∀ (N : Nat) (q done : List (List Int)), (∀ x ∈ done, isMk x = true) → (∀ x ∈ q, isMk x = true) → (q.flatMap (treeOf m)).length ≤ N → done.length + (q.flatMap (treeOf m)).length ≤ 5000000000 → Ev (fun k => impl_markovs.l0 k m (done ++ q) (done.length : Int)) (sortM (done ++ q.flatMap (treeOf m)))
  | N, [], done, hd, hq, hN, hT => by
    have hall : done.all prM = true := List.all_eq_true.2 fun x hx => mk_prM (hd x hx)
    refine Ev.step (f := fun _ => some (sortM done)) (fun k => ?_) (Ev.is (by simp))
    simp only [List.append_nil, impl_markovs.l0]
    rw [if_neg (by omega), if_pos hall]
  | 0, t :: q, done, hd, hq, hN, hT => by
    have := treeOf_is hm (hq t List.mem_cons_self)
    simp [this] at hN
  | N + 1, t :: q, done, hd, hq, hN, hT => by
    have ht := hq t List.mem_cons_self
    have hu := ups_ev hm ht
    have hD := treeOf_is hm ht
    have hfl : ((t :: q).flatMap (treeOf m)).Perm (t :: (q ++ upsL m t).flatMap (treeOf m)) := by
      rw [List.flatMap_cons, hD, List.cons_append, List.flatMap_append]
      exact (List.perm_append_comm).cons t
    have hlen := hfl.length_eq
    have hql : ∀ l : List (List Int), (∀ x ∈ l, isMk x = true) → l.length ≤ (l.flatMap (treeOf m)).length := by
      intro l hl
      induction l with
      | nil => simp
      | cons x l ih =>
        have := treeOf_is hm (hl x List.mem_cons_self)
        have h2 := ih (fun y hy => hl y (List.mem_cons_of_mem _ hy))
        rw [List.flatMap_cons, this]
        simp only [List.length_append, List.length_cons]
        omega
    have hqu : ∀ x ∈ q ++ upsL m t, isMk x = true := fun x hx => by
      rcases List.mem_append.1 hx with h | h
      · exact hq x (List.mem_cons_of_mem _ h)
      · exact (upsL_mk hm ht h).1
    have hq2 := hql _ hqu
    rw [List.length_append] at hq2
    rw [List.length_cons] at hlen
    have ih := bfs hm N (q ++ upsL m t) (done ++ [t]) (fun x hx => by
      rcases List.mem_append.1 hx with h | h
      · exact hd x h
      · rw [List.mem_singleton.1 h]; exact ht) hqu (by omega) (by rw [List.length_append, List.length_singleton]; omega)
    have he : sortM ((done ++ [t]) ++ (q ++ upsL m t).flatMap (treeOf m)) = sortM (done ++ (t :: q).flatMap (treeOf m)) := by
      refine sortM_congr ?_
      rw [List.append_assoc]
      exact (hfl.symm).append_left done
    rw [he] at ih
    have hlt : (done.length : Int) < ((done ++ t :: q).length : Int) := by rw [List.length_append, List.length_cons]; omega
    have hw : wrap64 ((done.length : Int) + 1) = ((done ++ [t]).length : Int) := by
      rw [w64 (by omega) (by omega), List.length_append, List.length_singleton]
      omega
    refine Ev.step (f := fun k => (impl_ups.f k t m).bind fun us => if (done ++ t :: q).length + us.length < 5864062014805 then impl_markovs.l0 k m ((done ++ t :: q) ++ us) (wrap64 ((done.length : Int) + 1)) else none) (fun k => ?_) (Ev.bind hu ?_)
    · simp only [impl_markovs.l0]
      rw [if_pos hlt, if_pos (by omega), rdL1_mid]
    · have hc : (done ++ t :: q).length + (upsL m t).length < 5864062014805 := by rw [List.length_append, List.length_cons]; omega
      have he2 : (done ++ t :: q) ++ upsL m t = (done ++ [t]) ++ (q ++ upsL m t) := by simp
      simp only [hc, if_true, hw, he2]
      exact ih
theorem one_mk : isMk [1, 1, 1] = true := by decide
def allUpTo (m : Int) : List (List Int) := sortM (treeOf m [1, 1, 1])
theorem markovs_ev {m : Int} (hm : m ≤ 1000000000) : Ev (fun k => impl_markovs.f k m) (allUpTo m) := by
  have hl := treeOf_len hm one_mk
  have h := bfs hm 4294967296 [[1, 1, 1]] [] (by simp) (by intro x hx; rw [List.mem_singleton.1 hx]; exact one_mk) (by simpa using hl) (by simp; omega)
  unfold impl_markovs.f allUpTo
  simpa using h
end Go.Proofs.Ytkdgpbcecnmdhaa.P

-- UmkAll
namespace Go.Proofs.Ytkdgpbcecnmdhaa.P
set_option linter.unusedVariables false
set_option linter.unusedSimpArgs false
open Go.RowKit Go.Proofs.YtkdgpbcecnmdhaaW.PrintWords Go.Proofs.YtkdgpbcecnmdhaaW.PrintLast Go.Proofs.YtkdgpbcecnmdhaaW.PrintMore

theorem rdL1_lt (L : List (List Int)) (i : Nat) (hi : i < L.length) : rd_L1 L (i : Int) = L[i] := by
  simp [rd_L1, List.getD_eq_getElem?_getD, hi]
theorem cfM_three (a b c x y z : Int) : cfM [a, b, c] [x, y, z] < 0 ↔ c < z ∨ (c = z ∧ (a < x ∨ (a = x ∧ b < y))) := by
  have e1 : rd [a, b, c] 2 = c := rfl
  have e2 : rd [x, y, z] 2 = z := rfl
  unfold cfM
  rw [e1, e2]
  by_cases h : c = z
  · rw [if_pos h]
    simp only [cmpL]
    split
    · omega
    · split
      · omega
      · split
        · omega
        · split
          · omega
          · split
            · omega
            · split <;> omega
  · rw [if_neg h]
    omega
/-- Put in at a place. -/
theorem put_is {L : List (List Int)} {t : List Int} {j : Nat} (hs : L.Pairwise fun a b => ¬ cfM b a < 0) (hj : j ≤ L.length) (hlo : ∀ i, (h : i < L.length) → i < j → cfM L[i] t < 0) (hhi : ∀ h : j < L.length, ¬ cfM L[j] t < 0) : L.take j ++ [t] ++ L.drop j = sortM (t :: L) := by
  refine sortM_is ?_ ?_
  · rw [List.append_assoc]
    refine List.perm_append_comm.trans ?_
    rw [List.append_assoc]
    refine (List.Perm.append_left [t] (List.perm_append_comm)).trans ?_
    rw [List.take_append_drop]
    exact .refl _
  · have hn := cfM_total.swo.ntrans
    simp only [decide_eq_false_iff_not] at hn
    have htd := hs
    rw [← List.take_append_drop j L, List.pairwise_append] at htd
    obtain ⟨h1, h2, h3⟩ := htd
    have hta : ∀ a ∈ L.take j, ¬ cfM t a < 0 := by
      intro a ha
      obtain ⟨i, hi, rfl⟩ := List.getElem_of_mem ha
      have hi2 : i < j ∧ i < L.length := by rw [List.length_take] at hi; omega
      have h4 := hlo i hi2.2 hi2.1
      have h5 := (cfM_total.anti L[i] t).1 h4
      rw [List.getElem_take]
      omega
    have htb : ∀ b ∈ L.drop j, ¬ cfM b t < 0 := by
      intro b hb
      obtain ⟨i, hi, rfl⟩ := List.getElem_of_mem hb
      rw [List.length_drop] at hi
      have h4 := hhi (by omega)
      rw [List.getElem_drop]
      rcases Nat.eq_zero_or_pos i with e | e
      · subst e; exact h4
      · have h5 := List.pairwise_iff_getElem.1 hs j (j + i) (by omega) (by omega) (by omega)
        exact hn _ _ _ h5 h4
    rw [List.append_assoc, List.pairwise_append]
    refine ⟨h1, ?_, ?_⟩
    · show ([t] ++ L.drop j).Pairwise _
      rw [List.singleton_append, List.pairwise_cons]
      exact ⟨htb, h2⟩
    · intro a ha b hb
      rcases List.mem_append.1 hb with hb | hb
      · rw [List.mem_singleton.1 hb]; exact hta a ha
      · exact h3 a ha b hb
theorem mkPut_ev {L : List (List Int)} {t : List Int} (hL : ∀ x ∈ L, isMk x = true) (ht : isMk t = true) (hs : L.Pairwise fun a b => ¬ cfM b a < 0) (hl : L.length ≤ 5000000000) : Ev (fun k => spec_mkPut.f k L t) (sortM (t :: L)) := by
  obtain ⟨x, y, z, rfl⟩ := mk_three ht
  have hlx : (([x, y, z] : List Int).length : Int) = 3 := rfl
  have r0 : rd [x, y, z] 0 = x := rfl
  have r1 : rd [x, y, z] 1 = y := rfl
  have r2 : rd [x, y, z] 2 = z := rfl
  have q0 : (0 : Int) < 3 := by decide
  have q1 : (1 : Int) < 3 := by decide
  have q2 : (2 : Int) < 3 := by decide
  have jt : ∀ (j : Nat) (r : List (List Int)), j < L.length → Ev (fun k => spec_mkPut.l0 k L [x, y, z] ((j + 1 : Nat) : Int)) r → Ev (fun k => spec_mkPut.j1 k L [x, y, z] (j : Int) true) r := by
    intro j r hj hr
    refine Ev.step (fun k => ?_) hr
    simp only [spec_mkPut.j1, if_true]
    rw [w64_succ hj (by omega)]
  have jf : ∀ (j : Nat), j ≤ L.length → L.take j ++ [[x, y, z]] ++ L.drop j = sortM ([x, y, z] :: L) → Ev (fun k => spec_mkPut.j1 k L [x, y, z] (j : Int) false) (sortM ([x, y, z] :: L)) := by
    intro j hj hp
    have c2 : (0 : Int) ≤ (j : Int) := by omega
    have c3 : (j : Int) ≤ (L.length : Int) := by omega
    have c4 : (L.take j).length < 5864062014805 := by rw [List.length_take]; omega
    have c5 : (L.take j ++ [[x, y, z]]).length + (L.drop j).length < 5864062014805 := by simp only [List.length_append, List.length_take, List.length_drop, List.length_singleton]; omega
    refine Ev.step (f := fun _ => some (sortM ([x, y, z] :: L))) (fun k => ?_) (Ev.is rfl)
    simp only [spec_mkPut.j1, Bool.false_eq_true, c2, c3, if_true, if_false, Option.bind_some, Int.toNat_natCast, List.nil_append, List.length_nil, Nat.zero_add, c4, c5, hp]
  have go : ∀ (d j : Nat), j + d = L.length → (∀ i, (h : i < L.length) → i < j → cfM L[i] [x, y, z] < 0) → Ev (fun k => spec_mkPut.l0 k L [x, y, z] (j : Int)) (sortM ([x, y, z] :: L)) := by
    intro d
    induction d with
    | zero =>
      intro j hj hlo
      have hp := put_is hs (j := j) (by omega) hlo (fun h => by omega)
      have c1 : ¬ (j : Int) < (L.length : Int) := by omega
      refine Ev.step (fun k => ?_) (jf j (by omega) hp)
      simp only [spec_mkPut.l0, c1, if_false]
    | succ d ih =>
      intro j hj hlo
      have hjl : j < L.length := by omega
      obtain ⟨a, b, c, e⟩ := mk_three (hL L[j] (List.getElem_mem hjl))
      have c1 : (j : Int) < (L.length : Int) := by omega
      have c2 : (0 : Int) ≤ (j : Int) := by omega
      have hrl : rd_L1 L (j : Int) = [a, b, c] := by rw [rdL1_lt L j hjl, e]
      have hla : (([a, b, c] : List Int).length : Int) = 3 := rfl
      have s0 : rd [a, b, c] 0 = a := rfl
      have s1 : rd [a, b, c] 1 = b := rfl
      have s2 : rd [a, b, c] 2 = c := rfl
      have hcf := cfM_three a b c x y z
      by_cases hlt : cfM [a, b, c] [x, y, z] < 0
      · have hr := ih (j + 1) (by omega) (fun i h hi => by
          rcases Nat.lt_or_eq_of_le (Nat.le_of_lt_succ hi) with h1 | h1
          · exact hlo i h h1
          · subst h1; rw [e]; exact hlt)
        refine Ev.step (fun k => ?_) (jt j _ hjl hr)
        simp only [spec_mkPut.l0, c1, c2, if_true, hrl, hlx, hla, q2, r2, s2, q0, r0, s0, q1, r1, s1]
        rcases hcf.1 hlt with h1 | ⟨h1, h2 | ⟨h2, h3⟩⟩
        · rw [if_pos h1]
        · rw [if_neg (by omega), if_pos h1, if_pos h2]
        · rw [if_neg (by omega), if_pos h1, if_neg (by omega), if_pos h2, decide_eq_true h3]
      · have hp := put_is hs (j := j) (by omega) hlo (fun h => by rw [e]; exact hlt)
        refine Ev.step (fun k => ?_) (jf j (by omega) hp)
        have n1 : ¬ c < z := fun h => hlt (hcf.2 (.inl h))
        simp only [spec_mkPut.l0, c1, c2, if_true, hrl, hlx, hla, q2, r2, s2, q0, r0, s0, q1, r1, s1, n1, if_false]
        by_cases h1 : c = z
        · have n2 : ¬ a < x := fun h => hlt (hcf.2 (.inr ⟨h1, .inl h⟩))
          rw [if_pos h1, if_neg n2]
          by_cases h2 : a = x
          · have n3 : ¬ b < y := fun h => hlt (hcf.2 (.inr ⟨h1, .inr ⟨h2, h⟩⟩))
            rw [if_pos h2, decide_eq_false n3]
          · rw [if_neg h2]
        · rw [if_neg h1]
  unfold spec_mkPut.f
  exact go L.length 0 (by omega) (fun i h hi => by omega)
theorem sortM_mk {l : List (List Int)} (h : ∀ x ∈ l, isMk x = true) : ∀ x ∈ sortM l, isMk x = true := fun x hx => h x ((sortM_perm l).mem_iff.1 hx)
theorem sortM_self {l : List (List Int)} (h : l.Pairwise fun a b => ¬ cfM b a < 0) : sortM l = l := (sortM_is (.refl _) h).symm
/-- The loop over the triples above. -/
theorem mkAll_loop (m : Int) (us : List (List Int)) (g : List Int → List (List Int)) (hg : ∀ u ∈ us, ∀ x ∈ g u, isMk x = true) (hul : us.length ≤ 2)
    (hrec : ∀ u ∈ us, ∀ L : List (List Int), (∀ x ∈ L, isMk x = true) → (L.Pairwise fun a b => ¬ cfM b a < 0) → L.length + (g u).length ≤ 5000000000 → Ev (fun k => spec_mkAll.f k L u m) (sortM (L ++ g u))) :
    ∀ (d i : Nat), i + d = us.length → ∀ L : List (List Int), (∀ x ∈ L, isMk x = true) → (L.Pairwise fun a b => ¬ cfM b a < 0) → L.length + ((us.drop i).flatMap g).length ≤ 5000000000 → Ev (fun k => spec_mkAll.l0 k L m us (us.length : Int) (i : Int)) (sortM (L ++ (us.drop i).flatMap g))
  | 0, i, hi, L, hL, hs, hb => by
    refine Ev.step (f := fun _ => some L) (fun k => ?_) (Ev.is ?_)
    · simp only [spec_mkAll.l0]
      rw [if_neg (by omega)]
    · rw [List.drop_of_length_le (by omega)]
      simp [sortM_self hs]
  | d + 1, i, hi, L, hL, hs, hb => by
    have hil : i < us.length := by omega
    have hm := List.getElem_mem hil
    have hd : us.drop i = us[i] :: us.drop (i + 1) := List.drop_eq_getElem_cons hil
    rw [hd, List.flatMap_cons, List.length_append] at hb
    have h1 := hrec us[i] hm L hL hs (by omega)
    have hlen : (sortM (L ++ g us[i])).length = L.length + (g us[i]).length := by rw [(sortM_perm _).length_eq, List.length_append]
    have h2 := mkAll_loop m us g hg hul hrec d (i + 1) (by omega) (sortM (L ++ g us[i])) (sortM_mk fun x hx => by
      rcases List.mem_append.1 hx with h | h
      · exact hL x h
      · exact hg us[i] hm x h) (sortM_sorted _) (by omega)
    have he : sortM (sortM (L ++ g us[i]) ++ (us.drop (i + 1)).flatMap g) = sortM (L ++ (us.drop i).flatMap g) := by
      refine sortM_congr ?_
      rw [hd, List.flatMap_cons, ← List.append_assoc]
      exact (sortM_perm _).append_right _
    rw [he] at h2
    refine Ev.step (f := fun k => (spec_mkAll.f k L us[i] m).bind fun t => spec_mkAll.l0 k t m us (us.length : Int) (wrap64 ((i : Int) + 1))) (fun k => ?_) (Ev.bind h1 ?_)
    · simp only [spec_mkAll.l0]
      rw [if_pos (by omega), if_pos (by omega), if_pos (by omega), rdL1_lt us i hil]
    · rw [w64_succ hil (by omega)]
      exact h2
def upTo (m : Int) (n : Nat) (t : List Int) : List (List Int) := if rd t 2 ≤ m then dfs m n t else []
theorem ups_cut {m : Int} (hm : m ≤ 1000000000) (f : List Int → List (List Int)) {t : List Int} (h : isMk t = true) : (upsL 1000000000 t).flatMap (fun u => if rd u 2 ≤ m then f u else []) = (upsL m t).flatMap f := by
  obtain ⟨x, y, z, rfl⟩ := mk_three h
  show ((if 3 * x * z - y ≤ 1000000000 then [[x, z, 3 * x * z - y]] else []) ++ (if 3 * y * z - x ≤ 1000000000 ∧ x ≠ y then [[y, z, 3 * y * z - x]] else [])).flatMap _ = ((if 3 * x * z - y ≤ m then [[x, z, 3 * x * z - y]] else []) ++ (if 3 * y * z - x ≤ m ∧ x ≠ y then [[y, z, 3 * y * z - x]] else [])).flatMap f
  have hr : ∀ a b c : Int, rd [a, b, c] 2 = c := fun _ _ _ => rfl
  generalize 3 * x * z - y = n1
  generalize 3 * y * z - x = n0
  have one : ∀ (p q : Prop) [Decidable p] [Decidable q] (u : List Int), (q ↔ p ∧ rd u 2 ≤ m) → (if p then [u] else []).flatMap (fun u => if rd u 2 ≤ m then f u else []) = (if q then [u] else []).flatMap f := by
    intro p q _ _ u hq
    by_cases h1 : p
    · by_cases h2 : rd u 2 ≤ m
      · rw [if_pos h1, if_pos (hq.2 ⟨h1, h2⟩)]
        simp [h2]
      · rw [if_pos h1, if_neg (fun h => h2 (hq.1 h).2)]
        simp [h2]
    · rw [if_neg h1, if_neg (fun h => h1 (hq.1 h).1)]
      rfl
  rw [List.flatMap_append, List.flatMap_append]
  congr 1
  · refine one _ _ _ ?_
    rw [hr]
    omega
  · refine one _ _ _ ?_
    rw [hr]
    constructor
    · rintro ⟨h1, h2⟩; exact ⟨⟨by omega, h2⟩, h1⟩
    · rintro ⟨⟨h1, h2⟩, h3⟩; exact ⟨h3, h2⟩
theorem mkAll_no {m : Int} {t : List Int} (h : isMk t = true) (hb : rd t 2 > m) (L : List (List Int)) : Ev (fun k => spec_mkAll.f k L t m) L := by
  have hl := mk_len_ h
  refine Ev.step (f := fun _ => some L) (fun k => ?_) (Ev.is rfl)
  rw [spec_mkAll.f]
  rw [if_pos (by omega), if_pos hb]
theorem mkAll_ev {m : Int} (hm : m ≤ 1000000000) : ∀ (n : Nat) (t : List Int), isMk t = true → m < rd t 2 * 2 ^ (n + 1) → ∀ L : List (List Int), (∀ x ∈ L, isMk x = true) → (L.Pairwise fun a b => ¬ cfM b a < 0) → L.length + (upTo m n t).length ≤ 5000000000 → Ev (fun k => spec_mkAll.f k L t m) (sortM (L ++ upTo m n t)) := by
  intro n
  induction n with
  | zero =>
    intro t h hb L hL hs hl
    by_cases hc : rd t 2 ≤ m
    · have hup : upTo m 0 t = [t] := by unfold upTo; rw [if_pos hc]; rfl
      rw [hup] at hl ⊢
      rw [List.length_singleton] at hl
      have hlt := mk_len_ h
      have h1 := mkPut_ev hL h hs (by omega)
      have h2 := mkUp_ev h
      have hmk : ∀ x ∈ t :: L, isMk x = true := fun x hx => by
        rcases List.mem_cons.1 hx with e | h3
        · rw [e]; exact h
        · exact hL x h3
      have h3 := mkAll_loop m (upsL 1000000000 t) (fun _ => []) (by simp) (upsL_len _ h) (fun u hu L' hL' hs' hl' => by
        have h4 := upsL_mk (Int.le_refl _) h hu
        have h5 := mkAll_no h4.1 (by omega) L' (m := m)
        rw [List.append_nil, sortM_self hs']
        exact h5) (upsL 1000000000 t).length 0 (by omega) (sortM (t :: L)) (sortM_mk hmk) (sortM_sorted _) (by
          have e0 : ((upsL 1000000000 t).drop 0).flatMap (fun _ => ([] : List (List Int))) = [] := by simp
          rw [(sortM_perm _).length_eq, e0, List.length_cons, List.length_nil]
          omega)
      have he : sortM (sortM (t :: L) ++ ((upsL 1000000000 t).drop 0).flatMap (fun _ => [])) = sortM (L ++ [t]) := by
        refine sortM_congr ?_
        have e0 : ((upsL 1000000000 t).drop 0).flatMap (fun _ => ([] : List (List Int))) = [] := by simp
        rw [e0, List.append_nil]
        exact (sortM_perm _).trans (List.perm_append_comm (l₁ := [t]))
      rw [he] at h3
      refine Ev.step (f := fun k => (spec_mkPut.f k L t).bind fun a => (spec_mkUp.f k t).bind fun b => spec_mkAll.l0 k a m b (b.length : Int) 0) (fun k => ?_) (Ev.bind h1 (Ev.bind h2 h3))
      rw [spec_mkAll.f]
      rw [if_pos (by omega), if_neg (by omega)]
    · have hup : upTo m 0 t = [] := by unfold upTo; rw [if_neg hc]
      rw [hup, List.append_nil, sortM_self hs]
      exact mkAll_no h (by omega) L
  | succ n ih =>
    intro t h hb L hL hs hl
    by_cases hc : rd t 2 ≤ m
    · have hup : upTo m (n + 1) t = t :: (upsL m t).flatMap (dfs m n) := by unfold upTo; rw [if_pos hc]; rfl
      rw [hup] at hl ⊢
      rw [List.length_cons] at hl
      have hlt := mk_len_ h
      have h1 := mkPut_ev hL h hs (by omega)
      have h2 := mkUp_ev h
      have hmk : ∀ x ∈ t :: L, isMk x = true := fun x hx => by
        rcases List.mem_cons.1 hx with e | h3
        · rw [e]; exact h
        · exact hL x h3
      have hcut := ups_cut hm (dfs m n) h
      have h3 := mkAll_loop m (upsL 1000000000 t) (upTo m n) (fun u hu x hx => by
        unfold upTo at hx
        split at hx
        · exact dfs_mk hm n u (upsL_mk (Int.le_refl _) h hu).1 x hx
        · simp at hx) (upsL_len _ h) (fun u hu L' hL' hs' hl' => by
        have h4 := upsL_mk (Int.le_refl _) h hu
        refine ih u h4.1 ?_ L' hL' hs' hl'
        have e : rd t 2 * 2 ^ (n + 1 + 1) = (2 * rd t 2) * 2 ^ (n + 1) := by rw [Int.pow_succ 2 (n + 1)]; generalize (2 : Int) ^ (n + 1) = q; grind
        have hp : (0 : Int) ≤ 2 ^ (n + 1) := Int.le_of_lt (Int.pow_pos (by decide))
        have := Int.mul_le_mul_of_nonneg_right h4.2.1 hp
        omega) (upsL 1000000000 t).length 0 (by omega) (sortM (t :: L)) (sortM_mk hmk) (sortM_sorted _) (by
          rw [(sortM_perm _).length_eq, List.drop_zero, List.length_cons]
          show L.length + 1 + ((upsL 1000000000 t).flatMap (fun u => if rd u 2 ≤ m then dfs m n u else [])).length ≤ _
          rw [hcut]
          omega)
      have he : sortM (sortM (t :: L) ++ ((upsL 1000000000 t).drop 0).flatMap (upTo m n)) = sortM (L ++ t :: (upsL m t).flatMap (dfs m n)) := by
        refine sortM_congr ?_
        rw [List.drop_zero]
        show (sortM (t :: L) ++ (upsL 1000000000 t).flatMap (fun u => if rd u 2 ≤ m then dfs m n u else [])).Perm _
        rw [hcut]
        refine ((sortM_perm _).append_right _).trans ?_
        rw [List.cons_append]
        exact List.perm_middle.symm
      rw [he] at h3
      refine Ev.step (f := fun k => (spec_mkPut.f k L t).bind fun a => (spec_mkUp.f k t).bind fun b => spec_mkAll.l0 k a m b (b.length : Int) 0) (fun k => ?_) (Ev.bind h1 (Ev.bind h2 h3))
      rw [spec_mkAll.f]
      rw [if_pos (by omega), if_neg (by omega)]
    · have hup : upTo m (n + 1) t = [] := by unfold upTo; rw [if_neg hc]
      rw [hup, List.append_nil, sortM_self hs]
      exact mkAll_no h (by omega) L
theorem mkUpTo_ev {m : Int} (h1 : 1 ≤ m) (hm : m ≤ 1000000000) : Ev (fun k => spec_mkUpTo.f k m) (allUpTo m) := by
  have hl := treeOf_len hm one_mk
  have hup : upTo m 31 [1, 1, 1] = treeOf m [1, 1, 1] := by
    unfold upTo treeOf
    rw [if_pos (show rd [1, 1, 1] 2 ≤ m from h1)]
  have h := mkAll_ev hm 31 [1, 1, 1] one_mk (by
    rw [show rd [1, 1, 1] 2 = 1 from rfl, show (2 : Int) ^ (31 + 1) = 4294967296 by decide]
    omega) [] (by simp) .nil (by rw [hup]; simp; omega)
  rw [hup, List.nil_append] at h
  unfold spec_mkUpTo.f
  exact Ev.bind h (Ev.is rfl)
end Go.Proofs.Ytkdgpbcecnmdhaa.P

-- UmkMost
namespace Go.Proofs.Ytkdgpbcecnmdhaa.P
set_option linter.unusedVariables false
set_option linter.unusedSimpArgs false
open Go.RowKit Go.Proofs.YtkdgpbcecnmdhaaW.PrintWords Go.Proofs.YtkdgpbcecnmdhaaW.PrintLast Go.Proofs.YtkdgpbcecnmdhaaW.PrintMore
theorem most_in (m : Int) : spec_mkMost.f m = some (inB 1 1000000000 m) := by
  unfold spec_mkMost.f spec_l1In.f inB
  by_cases h : 1 ≤ m <;> simp [h]
theorem within_most (m : Int) : impl_within.f m 1 1000000000 = some (inB 1 1000000000 m) := by
  unfold impl_within.f inB
  by_cases h : 1 ≤ m <;> simp [h]
theorem most_iff {m : Int} : inB 1 1000000000 m = true ↔ 1 ≤ m ∧ m ≤ 1000000000 := by simp [inB]
theorem allUpTo_len {m : Int} (hm : m ≤ 1000000000) : (allUpTo m).length ≤ 4294967296 := by
  unfold allUpTo
  rw [(sortM_perm _).length_eq]
  exact treeOf_len hm one_mk
theorem allUpTo_mk {m : Int} (hm : m ≤ 1000000000) : ∀ x ∈ allUpTo m, isMk x = true := by
  intro x hx
  unfold allUpTo at hx
  exact dfs_mk hm 31 [1, 1, 1] one_mk x ((sortM_perm _).mem_iff.1 hx)
theorem allUpTo_sorted (m : Int) : (allUpTo m).Pairwise fun a b => ¬ cfM b a < 0 := sortM_sorted _
end Go.Proofs.Ytkdgpbcecnmdhaa.P

-- PureFnExactMarkovUpTo
namespace Go.Proofs.Ytkdgpbcecnmdhaa.Pure
set_option linter.unusedVariables false
set_option linter.unusedSimpArgs false
open Go.RowKit Go.Proofs.Ytkdgpbcecnmdhaa.P Go.Proofs.YtkdgpbcecnmdhaaW.PrintWords Go.Proofs.YtkdgpbcecnmdhaaW.PrintLast
theorem total_le (W : List (List Int)) (n : Nat) (h : ∀ x ∈ W, x.length ≤ n) : total W ≤ n * W.length := by
  induction W with
  | nil => simp [total]
  | cons x W ih =>
    have h1 := h x List.mem_cons_self
    have h2 := ih (fun y hy => h y (List.mem_cons_of_mem _ hy))
    simp only [total, List.length_cons, Nat.mul_succ]
    omega
def upToAll (m : Int) : List (List Int) × Bool := if inB 1 1000000000 m = true then (allUpTo m, true) else ([], false)
theorem spec_MarkovUpTo_ev (m : Int) : Ev (fun k => spec_MarkovUpTo.f k m) (upToAll m) := by
  unfold spec_MarkovUpTo.f upToAll
  refine Ev.bind0 (most_in m) ?_
  cases h : inB 1 1000000000 m with
  | false =>
    simp only [Bool.false_eq_true, if_false]
    exact Ev.is rfl
  | true =>
    simp only [if_true]
    exact Ev.bind (mkUpTo_ev (most_iff.1 h).1 (most_iff.1 h).2) (Ev.is rfl)
theorem MarkovUpTo_ev (m : Int) : Ev (fun k => impl_MarkovUpTo.f k m) (upToAll m) := by
  unfold impl_MarkovUpTo.f upToAll
  refine Ev.bind0 (within_most m) ?_
  cases h : inB 1 1000000000 m with
  | false =>
    simp only [Bool.false_eq_true, if_false]
    exact Ev.is rfl
  | true =>
    simp only [if_true]
    exact Ev.bind (markovs_ev (most_iff.1 h).2) (Ev.is rfl)
theorem upToAll_bd (m : Int) : (upToAll m).1.length ≤ 1000000000000 ∧ total (upToAll m).1 ≤ 1000000000000 := by
  unfold upToAll
  by_cases h : inB 1 1000000000 m = true
  · have hm := (most_iff.1 h).2
    have hl := allUpTo_len hm
    have ht := total_le (allUpTo m) 3 (fun x hx => by rw [mk_len_ (allUpTo_mk hm x hx)]; exact Nat.le_refl _)
    rw [if_pos h]
    show (allUpTo m).length ≤ _ ∧ total (allUpTo m) ≤ _
    omega
  · rw [if_neg h]
    simp [total]
theorem FnExactMarkovUpTo : laws_FnExactMarkovUpTo.Pure := by
  intro m hm
  refine Ev.rounds ?_
  unfold laws_FnExactMarkovUpTo.f
  have e1 := spec_MarkovUpTo_ev m
  have e2 := MarkovUpTo_ev m
  have hr := upToAll_bd m
  generalize upToAll m = r at e1 e2 hr
  refine Ev.bind e1 (Ev.bind e2 ?_)
  simp only [hr, and_self, if_true]
  exact Ev.is rfl
end Go.Proofs.Ytkdgpbcecnmdhaa.Pure
