/- A move of a Markov triple: both texts. -/
import Derived.Test.YthkmbkibceojlaaUisMarkov
import Derived.Test.YthkmbkibceojlaaUmkSort
import Derived.Test.YthkmbkibceojlaaUsorted
import Derived.Test.YthkmbkibceojlaaGcloneInts
import Derived.Test.YthkmbkibceojlaaPFimplmoved
import Derived.Test.YthkmbkibceojlaaPFspecmkMove
import Derived.Test.YthkmbkibceojlaaPFspecmkDown
namespace Go.Proofs.Ythkmbkibceojlaa.P
set_option linter.unusedVariables false
set_option linter.unusedSimpArgs false
open Go.RowKit Go.Proofs.YthkmbkibceojlaaW.PrintWords Go.Proofs.YthkmbkibceojlaaW.PrintLast Go.Proofs.YthkmbkibceojlaaW.PrintMore

theorem clone_is (l : List Int) (h : l.length < 17592186044416) : slices_Clone_int_int.f l = some l := by
  unfold slices_Clone_int_int.f
  rw [if_pos h]
theorem srt_up (x y z : Int) : srt x y z = up [x, y, z] := by
  have sw : ∀ a b c : Int, ([a, b, c] : List Int).Perm [a, c, b] := fun a b c => List.Perm.cons a (List.Perm.swap c b [])
  have ex : ∀ a b c : Int, ([a, b, c] : List Int).Perm [b, a, c] := fun a b c => List.Perm.swap b a [c]
  have hs : ∀ a b c : Int, a ≤ b → b ≤ c → ([a, b, c] : List Int).Pairwise (· ≤ ·) := by
    intro a b c h1 h2
    simp
    omega
  rcases srt_cases x y z with ⟨h1, h2, e⟩ | ⟨h1, h2, e⟩ | ⟨h1, h2, e⟩ | ⟨h1, h2, e⟩ | ⟨h1, h2, e⟩ | ⟨h1, h2, e⟩ <;> rw [e]
  · exact up_unique (List.Perm.refl _) (hs _ _ _ h1 h2)
  · exact up_unique (sw _ _ _) (hs _ _ _ h1 h2)
  · exact up_unique (ex _ _ _) (hs _ _ _ h1 h2)
  · exact up_unique ((sw _ _ _).trans (ex _ _ _)) (hs _ _ _ h1 h2)
  · exact up_unique ((ex _ _ _).trans (sw _ _ _)) (hs _ _ _ h1 h2)
  · exact up_unique ((ex _ _ _).trans ((sw _ _ _).trans (ex _ _ _))) (hs _ _ _ h1 h2)
theorem up_same {l m : List Int} (h : l.Perm m) : up l = up m := up_unique ((up_perm l).trans h) (up_pairwise l)
theorem srt_rot (x y z : Int) : srt x y z = srt y z x := by
  rw [srt_up, srt_up]
  exact up_same ((List.Perm.swap y x [z]).trans (List.Perm.cons y (List.Perm.swap z x [])))
theorem srt_ex (x y z : Int) : srt x y z = srt y x z := by
  rw [srt_up, srt_up]
  exact up_same (List.Perm.swap y x [z])
theorem mkEq_rot (x y z : Int) : mkEq x y z = mkEq y z x := by
  unfold mkEq
  rw [Bool.eq_iff_iff]; simp only [beq_iff_eq]; constructor <;> intro h <;> grind
theorem mkEq_ex (x y z : Int) : mkEq x y z = mkEq y x z := by
  unfold mkEq
  rw [Bool.eq_iff_iff]; simp only [beq_iff_eq]; constructor <;> intro h <;> grind

/-- What a Markov triple's numbers are. -/
theorem isMk_iff {x y z : Int} : isMk [x, y, z] = true ↔ (1 ≤ x ∧ x ≤ 1000000000) ∧ (1 ≤ y ∧ y ≤ 1000000000) ∧ (1 ≤ z ∧ z ≤ 1000000000) ∧ x ≤ y ∧ y ≤ z ∧ mkEq x y z = true := by
  have he : isMk [x, y, z] = ([x, y, z].all (inB 1 1000000000) && (decide (x ≤ y) && (decide (y ≤ z) && mkEq x y z))) := rfl
  rw [he]
  simp only [List.all_cons, List.all_nil, Bool.and_true, Bool.and_eq_true, inB, decide_eq_true_eq]
  constructor
  · rintro ⟨⟨h1, h2, h3⟩, h4, h5, h6⟩
    exact ⟨h1, h2, h3, h4, h5, h6⟩
  · rintro ⟨h1, h2, h3, h4, h5, h6⟩
    exact ⟨⟨h1, h2, h3⟩, h4, h5, h6⟩
theorem isMk_srt {x y z : Int} (hx : 1 ≤ x ∧ x ≤ 1000000000) (hy : 1 ≤ y ∧ y ≤ 1000000000) (hz : 1 ≤ z ∧ z ≤ 1000000000) (h : mkEq x y z = true) : isMk (srt x y z) = true := by
  rcases srt_cases x y z with ⟨h1, h2, e⟩ | ⟨h1, h2, e⟩ | ⟨h1, h2, e⟩ | ⟨h1, h2, e⟩ | ⟨h1, h2, e⟩ | ⟨h1, h2, e⟩ <;> (have h6 := mkEq_srt e; rw [e, isMk_iff]; exact ⟨by omega, by omega, by omega, h1, h2, by rw [h6]; exact h⟩)
/-- The other root. -/
theorem other_root {a b c : Int} (ha : 1 ≤ a ∧ a ≤ 1000000000) (hb : 1 ≤ b ∧ b ≤ 1000000000) (hc : 1 ≤ c ∧ c ≤ 1000000000) (h : mkEq a b c = true) :
    1 ≤ 3 * a * b - c ∧ 3 * a * b - c ≤ 3000000000000000000 ∧ c * (3 * a * b - c) = a * a + b * b ∧ mkEq a b (3 * a * b - c) = true ∧ wrap64 (wrap64 (wrap64 (3 * a) * b) - c) = 3 * a * b - c := by
  rw [mkEq_iff] at h
  have h1 : c * (3 * a * b - c) = a * a + b * b := by grind
  have p1 := mul_bd (a := a) (b := b) (A := 1000000000) (B := 1000000000) (by omega) (by omega) (by omega) (by omega)
  have p2 : 1 ≤ a * a := by have := mul_one_le (a := a) (b := a) (by omega) (by omega); omega
  have p3 : 1 ≤ b * b := by have := mul_one_le (a := b) (b := b) (by omega) (by omega); omega
  have e : 3 * a * b = 3 * (a * b) := Int.mul_assoc _ _ _
  have hpos : 1 ≤ 3 * a * b - c := by
    rcases Int.lt_or_le 0 (3 * a * b - c) with h2 | h2
    · omega
    · have h3 := Int.mul_nonneg (show 0 ≤ c by omega) (show 0 ≤ -(3 * a * b - c) by omega)
      rw [Int.mul_neg] at h3
      omega
  refine ⟨hpos, by omega, h1, ?_, ?_⟩
  · rw [mkEq_iff]; grind
  · rw [w64 (x := 3 * a) (by omega) (by omega), w64 (x := 3 * a * b) (by omega) (by omega), w64 (by omega) (by omega)]

/-- The triple behind a move. -/
def mv (x y z : Int) : Nat → List Int
  | 0 => srt y z (3 * y * z - x)
  | 1 => srt z x (3 * z * x - y)
  | _ => srt x y (3 * x * y - z)
def mvN (x y z : Int) : Nat → Int
  | 0 => 3 * y * z - x
  | 1 => 3 * z * x - y
  | _ => 3 * x * y - z
theorem moved_raw (x y z : Int) : impl_moved.f [x, y, z] 0 = some (up [wrap64 (wrap64 (wrap64 (3 * y) * z) - x), y, z]) ∧ impl_moved.f [x, y, z] 1 = some (up [x, wrap64 (wrap64 (wrap64 (3 * z) * x) - y), z]) ∧ impl_moved.f [x, y, z] 2 = some (up [x, y, wrap64 (wrap64 (wrap64 (3 * x) * y) - z)]) := by
  have c : slices_Clone_int_int.f [x, y, z] = some [x, y, z] := clone_is _ (show 3 < 17592186044416 by decide)
  have s : ∀ a b c : Int, slices_Sort_int_int.f [a, b, c] = some (up [a, b, c]) := fun a b c => sort_is _ (show 3 < 4611686018427387904 by decide)
  have hl : (([x, y, z] : List Int).length : Int) = 3 := rfl
  have t1 : Int.tmod (wrap64 (0 + 1)) 3 = 1 := by decide +kernel
  have t2 : Int.tmod (wrap64 (0 + 2)) 3 = 2 := by decide +kernel
  have t3 : Int.tmod (wrap64 (1 + 1)) 3 = 2 := by decide +kernel
  have t4 : Int.tmod (wrap64 (1 + 2)) 3 = 0 := by decide +kernel
  have t5 : Int.tmod (wrap64 (2 + 1)) 3 = 0 := by decide +kernel
  have t6 : Int.tmod (wrap64 (2 + 2)) 3 = 1 := by decide +kernel
  have r0 : rd [x, y, z] 0 = x := rfl
  have r1 : rd [x, y, z] 1 = y := rfl
  have r2 : rd [x, y, z] 2 = z := rfl
  unfold impl_moved.f
  rw [c, t1, t2, t3, t4, t5, t6]
  simp only [Option.bind_some, hl, r0, r1, r2]
  refine ⟨?_, ?_, ?_⟩
  · rw [if_pos (by decide), if_pos (by decide), if_pos (by decide), if_pos (by decide), if_pos (by decide), if_pos (by decide), if_pos (by decide), show (0 : Int).toNat = 0 from rfl, List.set_cons_zero, s]
    rfl
  · rw [if_pos (by decide), if_pos (by decide), if_pos (by decide), if_pos (by decide), if_pos (by decide), if_pos (by decide), if_pos (by decide), show (1 : Int).toNat = 1 from rfl, List.set_cons_succ, List.set_cons_zero, s]
    rfl
  · rw [if_pos (by decide), if_pos (by decide), if_pos (by decide), if_pos (by decide), if_pos (by decide), if_pos (by decide), if_pos (by decide), show (2 : Int).toNat = 2 from rfl, List.set_cons_succ, List.set_cons_succ, List.set_cons_zero, s]
    rfl
/-- The numbers of a move at an index: the two that stay and the one that goes. -/
structure Roots (x y z : Int) (i : Nat) (a b c : Int) : Prop where
  ha : 1 ≤ a ∧ a ≤ 1000000000
  hb : 1 ≤ b ∧ b ≤ 1000000000
  hc : 1 ≤ c ∧ c ≤ 1000000000
  eq : mkEq a b c = true
  mv : mv x y z i = srt a b (3 * a * b - c)
  n : mvN x y z i = 3 * a * b - c
theorem roots_of {x y z : Int} (h : isMk [x, y, z] = true) (i : Nat) (hi : i ≤ 2) : ∃ a b c, Roots x y z i a b c ∧ ((i = 0 ∧ a = y ∧ b = z ∧ c = x) ∨ (i = 1 ∧ a = z ∧ b = x ∧ c = y) ∨ (i = 2 ∧ a = x ∧ b = y ∧ c = z)) := by
  obtain ⟨h1, h2, h3, h4, h5, h6⟩ := isMk_iff.1 h
  have hc : i = 0 ∨ i = 1 ∨ i = 2 := by omega
  rcases hc with rfl | rfl | rfl
  · exact ⟨y, z, x, ⟨h2, h3, h1, by rw [← mkEq_rot]; exact h6, rfl, rfl⟩, .inl ⟨rfl, rfl, rfl, rfl⟩⟩
  · exact ⟨z, x, y, ⟨h3, h1, h2, by rw [mkEq_rot]; exact h6, rfl, rfl⟩, .inr (.inl ⟨rfl, rfl, rfl, rfl⟩)⟩
  · exact ⟨x, y, z, ⟨h1, h2, h3, h6, rfl, rfl⟩, .inr (.inr ⟨rfl, rfl, rfl, rfl⟩)⟩
theorem moved_is {x y z : Int} (h : isMk [x, y, z] = true) (i : Nat) (hi : i ≤ 2) : impl_moved.f [x, y, z] (i : Int) = some (mv x y z i) := by
  obtain ⟨h1, h2, h3, h4, h5, h6⟩ := isMk_iff.1 h
  obtain ⟨m0, m1, m2⟩ := moved_raw x y z
  obtain ⟨a, b, c, hR, hcase⟩ := roots_of h i hi
  have ho := other_root hR.ha hR.hb hR.hc hR.eq
  rw [hR.mv]
  rcases hcase with ⟨rfl, rfl, rfl, rfl⟩ | ⟨rfl, rfl, rfl, rfl⟩ | ⟨rfl, rfl, rfl, rfl⟩
  · rw [ho.2.2.2.2] at m0
    rw [show ((0 : Nat) : Int) = 0 from rfl, m0, ← srt_up, srt_rot]
  · rw [ho.2.2.2.2] at m1
    rw [show ((1 : Nat) : Int) = 1 from rfl, m1, ← srt_up, ← srt_rot]
  · rw [ho.2.2.2.2] at m2
    rw [show ((2 : Nat) : Int) = 2 from rfl, m2, ← srt_up]
theorem srt_two (a b c : Int) : rd (srt a b c) 2 = hi2 a (hi2 b c) := rfl
theorem mv_two {x y z : Int} (h : isMk [x, y, z] = true) (i : Nat) (hi : i ≤ 2) : rd (mv x y z i) 2 > 1000000000 ↔ mvN x y z i > 1000000000 := by
  obtain ⟨a, b, c, hR, _⟩ := roots_of h i hi
  have := hR.ha
  have := hR.hb
  rw [hR.mv, hR.n, srt_two]
  unfold hi2
  split <;> split <;> omega
theorem mv_is {x y z : Int} (h : isMk [x, y, z] = true) (i : Nat) (hi : i ≤ 2) (hn : mvN x y z i ≤ 1000000000) : isMk (mv x y z i) = true := by
  obtain ⟨a, b, c, hR, _⟩ := roots_of h i hi
  have ho := other_root hR.ha hR.hb hR.hc hR.eq
  rw [hR.n] at hn
  rw [hR.mv]
  exact isMk_srt hR.ha hR.hb ⟨ho.1, hn⟩ ho.2.2.2.1
theorem mv_three (x y z : Int) (i : Nat) : ∃ a b c, mv x y z i = [a, b, c] := by
  match i with
  | 0 => exact ⟨_, _, _, rfl⟩
  | 1 => exact ⟨_, _, _, rfl⟩
  | _ + 2 => exact ⟨_, _, _, rfl⟩
def mvOf (x y z : Int) (i : Nat) : List Int × Bool := if mvN x y z i > 1000000000 then ([], false) else (mv x y z i, true)
theorem big_product {a b c : Int} (ha : 1 ≤ a ∧ a ≤ 1000000000) (hb : 1 ≤ b ∧ b ≤ 1000000000) (hc : 1 ≤ c ∧ c ≤ 1000000000) (h : a > 1000000000 / b) : 3 * a * b - c > 1000000000 := by
  have h1 : 1000000000 < a * b := (Int.ediv_lt_iff_lt_mul (by omega)).1 h
  have e : 3 * a * b = 3 * (a * b) := Int.mul_assoc _ _ _
  omega
theorem mkMove_is {x y z : Int} (h : isMk [x, y, z] = true) (i : Nat) (hi : i ≤ 2) : spec_mkMove.f [x, y, z] (i : Int) = some (mvOf x y z i) := by
  obtain ⟨a, b, c, hR, hcase⟩ := roots_of h i hi
  have ho := other_root hR.ha hR.hb hR.hc hR.eq
  have ha := hR.ha
  have hb := hR.hb
  have hc := hR.hc
  have hb0 : ¬ b = 0 := by clear ho; omega
  have hi0 : (0 : Int) ≤ (i : Int) := by clear ho hcase; omega
  have hi3 : (i : Int) < 3 := by clear ho hcase; omega
  have hl : (([x, y, z] : List Int).length : Int) = 3 := rfl
  have q1 : 0 ≤ 1000000000 / b := Int.ediv_nonneg (by omega) (by omega)
  have q2 : 1000000000 / b ≤ 1000000000 := Int.ediv_le_self _ (by omega)
  have wq : wrap64 (1000000000 / b) = 1000000000 / b := w64 (by omega) (by omega)
  have e1 : rd [x, y, z] (Int.tmod (wrap64 ((i : Int) + 1)) 3) = a ∧ rd [x, y, z] (Int.tmod (wrap64 ((i : Int) + 2)) 3) = b ∧ rd [x, y, z] (i : Int) = c ∧ 0 ≤ Int.tmod (wrap64 ((i : Int) + 1)) 3 ∧ Int.tmod (wrap64 ((i : Int) + 1)) 3 < 3 ∧ 0 ≤ Int.tmod (wrap64 ((i : Int) + 2)) 3 ∧ Int.tmod (wrap64 ((i : Int) + 2)) 3 < 3 := by
    rcases hcase with ⟨rfl, rfl, rfl, rfl⟩ | ⟨rfl, rfl, rfl, rfl⟩ | ⟨rfl, rfl, rfl, rfl⟩
    · have t1 : Int.tmod (wrap64 (((0 : Nat) : Int) + 1)) 3 = 1 := by decide +kernel
      have t2 : Int.tmod (wrap64 (((0 : Nat) : Int) + 2)) 3 = 2 := by decide +kernel
      rw [t1, t2]
      exact ⟨rfl, rfl, rfl, by decide, by decide, by decide, by decide⟩
    · have t1 : Int.tmod (wrap64 (((1 : Nat) : Int) + 1)) 3 = 2 := by decide +kernel
      have t2 : Int.tmod (wrap64 (((1 : Nat) : Int) + 2)) 3 = 0 := by decide +kernel
      rw [t1, t2]
      exact ⟨rfl, rfl, rfl, by decide, by decide, by decide, by decide⟩
    · have t1 : Int.tmod (wrap64 (((2 : Nat) : Int) + 1)) 3 = 0 := by decide +kernel
      have t2 : Int.tmod (wrap64 (((2 : Nat) : Int) + 2)) 3 = 1 := by decide +kernel
      rw [t1, t2]
      exact ⟨rfl, rfl, rfl, by decide, by decide, by decide, by decide⟩
  obtain ⟨e1, e2, e3, e4, e5, e6, e7⟩ := e1
  have ho5 := ho.2.2.2.2
  have hbig := big_product ha hb hc
  have hsort : ¬ 3 * a * b - c > 1000000000 → spec_mkSort.f a b (3 * a * b - c) = some (srt a b (3 * a * b - c)) := fun h2 => mkSort_srt a b _ (by clear e1 e2 e3 e4 e5 e6 e7 wq q1 q2 hcase ho5; omega) (by clear e1 e2 e3 e4 e5 e6 e7 wq q1 q2 hcase ho5; omega) (by clear e1 e2 e3 e4 e5 e6 e7 wq q1 q2 hcase ho5; omega)
  have hres : mvOf x y z i = if 3 * a * b - c > 1000000000 then ([], false) else (srt a b (3 * a * b - c), true) := by unfold mvOf; rw [hR.n, hR.mv]
  rw [hres]
  unfold spec_mkMove.f
  simp only [hl, e1, e2, e3, e4, e5, e6, e7, hb0, hi0, hi3, ho5, wq, if_true, if_false]
  by_cases h1 : a > 1000000000 / b
  · have h2 := hbig h1
    simp only [h1, h2, if_true]
  · by_cases h2 : 3 * a * b - c > 1000000000
    · simp only [h1, h2, if_true, if_false]
    · simp only [h1, h2, if_false, hsort h2, Option.bind_some]
theorem mkDown_is {x y z : Int} (h : isMk [x, y, z] = true) : spec_mkDown.f [x, y, z] = some (mv x y z 2) := by
  obtain ⟨h1, h2, h3, h4, h5, h6⟩ := isMk_iff.1 h
  have ho := other_root h1 h2 h3 h6
  have r0 : rd [x, y, z] 0 = x := rfl
  have r1 : rd [x, y, z] 1 = y := rfl
  have r2 : rd [x, y, z] 2 = z := rfl
  have hl : (([x, y, z] : List Int).length : Int) = 3 := rfl
  have bx := mul_bd (a := x) (b := x) (A := 1000000000) (B := z) (by omega) (by omega) (by omega) (by omega)
  have by_ := mul_bd (a := y) (b := y) (A := 1000000000) (B := z) (by omega) (by omega) (by omega) (by omega)
  have w1 : wrap64 (x * x) = x * x := w64 (by omega) (by omega)
  have w2 : wrap64 (y * y) = y * y := w64 (by omega) (by omega)
  have w3 : wrap64 (x * x + y * y) = x * x + y * y := w64 (by omega) (by omega)
  have d1 : Int.tdiv (x * x + y * y) z = 3 * x * y - z := by
    rw [← ho.2.2.1, Int.tdiv_eq_ediv_of_nonneg (by rw [ho.2.2.1]; omega), Int.mul_ediv_cancel_left _ (by omega)]
  have hle : 3 * x * y - z ≤ 2000000000 := by
    rcases Int.lt_or_le 2000000000 (3 * x * y - z) with h7 | h7
    · have h8 := Int.mul_le_mul (Int.le_refl z) (show 2000000001 ≤ 3 * x * y - z by omega) (by omega) (by omega)
      rw [ho.2.2.1] at h8
      omega
    · exact h7
  unfold spec_mkDown.f
  rw [hl, r0, r1, r2, w1, w2, w3, d1, w64 (x := 3 * x * y - z) (by omega) (by omega), if_pos (by decide), if_pos (by decide), if_pos (by decide), if_neg (by omega), mkSort_srt x y _ (by omega) (by omega) (by omega)]
  rfl
end Go.Proofs.Ythkmbkibceojlaa.P
