/- IsMarkovNumber answers what the reference answers, for every number. No condition. -/
import Derived.Test.YtkdgpbcecnmdhaaPackFnExactIsMarkovNumber3
-- PFslicesIsSortedintint
namespace Go.Proofs.Ytkdgpbcecnmdhaa.P
open Go.RowKit Go.Proofs.YtkdgpbcecnmdhaaW.PrintWords Go.Proofs.YtkdgpbcecnmdhaaW.PrintLast
set_option linter.unusedVariables false
set_option linter.unusedSimpArgs false

/-! ### slices_IsSorted_int_int: function 42 -/
def slices_IsSorted_int_int.l0 : Nat → List Int → Int → Option (Bool)
 | 0, _, _ => none
 | k + 1, x0, x3 => if x3 > 0 then (if 0 ≤ x3 then (if x3 < (x0.length : Int) then (if 0 ≤ (wrap64 (x3 - 1)) then (if (wrap64 (x3 - 1)) < (x0.length : Int) then ((cmp_Less_int.f (rd x0 x3) (rd x0 (wrap64 (x3 - 1)))).bind fun t344 => (if t344 = true then (some false) else (slices_IsSorted_int_int.l0 k x0 (wrap64 (x3 - 1))))) else (none)) else (none)) else (none)) else (none)) else (some true)
def slices_IsSorted_int_int.f (k : Nat) (l0 : List Int) : Option (Bool) := slices_IsSorted_int_int.l0 k l0 (wrap64 ((l0.length : Int) - 1))
theorem slices_IsSorted_int_int.mono_l : ∀ k, (∀ y0 y1, LeO (slices_IsSorted_int_int.l0 k y0 y1) (slices_IsSorted_int_int.l0 (k + 1) y0 y1))
 | 0 => fun _ _ r h => by simp [slices_IsSorted_int_int.l0] at h
 | k + 1 => by
  have ih0 := slices_IsSorted_int_int.mono_l k
  ·intro y0 y1
   unfold slices_IsSorted_int_int.l0
   repeat' first
   | (with_reducible exact ih0 _ _)
   | (with_reducible exact LeO.refl _)
   | (with_reducible exact LeO.none _)
   | (with_reducible refine LeO.ite ?_ ?_)
   | (with_reducible refine LeO.bind ?_ (fun _ => ?_))
   | exact ih0 _ _
   | exact LeO.none _
   | refine LeO.ite ?_ ?_
   | refine LeO.bind ?_ (fun _ => ?_)
theorem slices_IsSorted_int_int.mono : ∀ a0 k, LeO (slices_IsSorted_int_int.f k a0) (slices_IsSorted_int_int.f (k + 1) a0) := by
 intro a0 k
 have ih0 := slices_IsSorted_int_int.mono_l k
 unfold slices_IsSorted_int_int.f
 repeat' first
   | (with_reducible exact ih0 _ _)
   | (with_reducible exact LeO.refl _)
   | (with_reducible exact LeO.none _)
   | (with_reducible refine LeO.ite ?_ ?_)
   | (with_reducible refine LeO.bind ?_ (fun _ => ?_))
   | exact ih0 _ _
   | exact LeO.none _
   | refine LeO.ite ?_ ?_
   | refine LeO.bind ?_ (fun _ => ?_)
set_option maxHeartbeats 8000000 in
set_option maxRecDepth 100000 in
theorem slices_IsSorted_int_int.calls (k : Nat) (A0 : Option Addr) (c0 : Nat) (l0 : List Int) (r : Bool) (w : World) (hr0 : Kd.C (Kd.int .i64) w A0 l0.length l0) (hc0 : l0.length ≤ c0) (h : slices_IsSorted_int_int.f k l0 = some r) :
  Calls Try.prog 42 #[.slice A0 l0.length c0] w fun e w' => e = .returned (.bool r) ∧ Drawn0 w w' := by
 have HR0 := Aside0.mk hr0
 have HC0 := Aside0.mk hc0
 clear hr0 hc0
 have H : (slices_IsSorted_int_int.l0 k l0 (wrap64 ((l0.length : Int) - 1))) = some r := h
 clear h
 have H' := Aside0.mk H
 clear H
 go_enter Try.func42, Try.ntmps42
 go_wp2
 repeat (go_quiet (fail); try go_wp2)
 go_loopg [3] k (fun kq v3 w' => ∃ (x3_1 : Int), v3 = .int .i64 x3_1 ∧ Aside0 (slices_IsSorted_int_int.l0 kq l0 x3_1 = some r) ∧ Aside0 (kq ≤ k) ∧ Drawn0 w w')
 case atStart => exact ⟨(wrap64 ((l0.length : Int) - 1)), (by first | rfl | (simp; done) | (simp [*]; done)), H', ⟨Nat.le_refl _⟩, by repeat (first | exact Drawn0.refl _ | apply Drawn0.step)⟩
 case round =>
  clear H'
  obtain ⟨x3_1, rfl, HA, HK1, ⟨m1, rfl⟩⟩ := hrel
  cases gk with
  | zero => exact absurd HA.out (by simp [slices_IsSorted_int_int.l0])
  | succ k1 =>
   have H := HA.out
   clear HA
   simp only [slices_IsSorted_int_int.l0] at H
   by_cases c2 : x3_1 > 0
   ·rw [if_pos c2] at H
    have c2b0 : decide (0 < x3_1) = true := decide_eq_true c2
    clear c2
    by_cases c3 : 0 ≤ x3_1
    ·rw [if_pos c3] at H
     have c3b0 : decide (0 ≤ x3_1) = true := decide_eq_true c3
     clear c3
     by_cases c4 : x3_1 < (l0.length : Int)
     ·rw [if_pos c4] at H
      have c4b0 : decide (x3_1 < (l0.length : Int)) = true := decide_eq_true c4
      clear c4
      obtain ⟨ji5, hji5⟩ : ∃ j_ : Int, (wrap64 (x3_1 - 1)) = j_ := ⟨_, rfl⟩
      replace H : (if 0 ≤ (ji5) then (if (ji5) < (l0.length : Int) then ((cmp_Less_int.f (rd l0 x3_1) (rd l0 (ji5))).bind fun t344 => (if t344 = true then (some false) else (slices_IsSorted_int_int.l0 k1 l0 ji5))) else (none)) else (none)) = some r := by first | (rw [hji5] at H; exact H) | (simp only [hji5] at H ⊢; exact H)
      have hji5w : (IntKind.i64.wrap (x3_1 - 1)) = ji5 := (i64_w _).trans hji5
      by_cases c6 : 0 ≤ (ji5)
      ·rw [if_pos c6] at H
       have c6b0 : decide (0 ≤ (ji5)) = true := decide_eq_true c6
       clear c6
       by_cases c7 : (ji5) < (l0.length : Int)
       ·rw [if_pos c7] at H
        have c7b0 : decide ((ji5) < (l0.length : Int)) = true := decide_eq_true c7
        clear c7
        replace H := Option.bind_eq_some_iff.mp H
        obtain ⟨t344, A80, H⟩ := H
        replace H : (if t344 = true then (some false) else (slices_IsSorted_int_int.l0 k1 l0 ji5)) = some r := H
        have A8 := Aside0.mk A80
        clear A80
        by_cases c9 : t344 = true
        ·subst c9
         have H1 : (some false) = some r := by rw [if_pos rfl] at H; exact H
         clear H
         have H := H1
         clear H1
         obtain rfl := Option.some.inj H
         have p342 : 0 ≤ (x3_1 : Int) := of_decide_eq_true (by first | (with_reducible assumption) | assumption)
         have q342 : x3_1 < (l0.length : Int) := of_decide_eq_true (by first | (with_reducible assumption) | assumption)
         obtain ⟨ad342, e342, hx342_0⟩ := Kd.at_int HR0.out x3_1 p342 q342
         cases e342
         replace p342 := eq_true p342
         replace q342 := eq_true q342
         have p343 : 0 ≤ ((ji5) : Int) := of_decide_eq_true (by first | (with_reducible assumption) | assumption)
         have q343 : (ji5) < (l0.length : Int) := of_decide_eq_true (by first | (with_reducible assumption) | assumption)
         obtain ⟨ad343, e343, hx343_0⟩ := Kd.at_int HR0.out (ji5) p343 q343
         obtain rfl : ad342 = ad343 := (by injection e343)
         replace p343 := eq_true p343
         replace q343 := eq_true q343
         go_wp2_with (first | (go_at_call 56; (with_reducible refine (cmp_Less_int.calls (rd l0 x3_1) (rd l0 (ji5)) true _ A8.out).mono ?_); rintro e w' ⟨rfl, ⟨nd, rfl⟩⟩; (try first | exact ⟨rfl, _, World.drewN_drewN _ _ _⟩ | exact ⟨rfl, _, Eq.trans (World.drewN_drewN _ _ _) (congrArg (World.drewN _) (Nat.add_assoc _ _ _))⟩)))
         repeat (go_quiet (first | (go_at_call 56; (with_reducible refine (cmp_Less_int.calls (rd l0 x3_1) (rd l0 (ji5)) true _ A8.out).mono ?_); rintro e w' ⟨rfl, ⟨nd, rfl⟩⟩; (try first | exact ⟨rfl, _, World.drewN_drewN _ _ _⟩ | exact ⟨rfl, _, Eq.trans (World.drewN_drewN _ _ _) (congrArg (World.drewN _) (Nat.add_assoc _ _ _))⟩))); try go_wp2_with (first | (go_at_call 56; (with_reducible refine (cmp_Less_int.calls (rd l0 x3_1) (rd l0 (ji5)) true _ A8.out).mono ?_); rintro e w' ⟨rfl, ⟨nd, rfl⟩⟩; (try first | exact ⟨rfl, _, World.drewN_drewN _ _ _⟩ | exact ⟨rfl, _, Eq.trans (World.drewN_drewN _ _ _) (congrArg (World.drewN _) (Nat.add_assoc _ _ _))⟩))))
         go_ret
         exact ⟨by first | rfl | (simp; done) | (simp only [← hji5] <;> (first | rfl | simp)) | (simp [*]; done), by repeat (first | exact Drawn0.refl _ | apply Drawn0.step)⟩
        ·replace c9 := Bool.eq_false_iff.mpr c9
         subst c9
         have H1 : (slices_IsSorted_int_int.l0 k1 l0 ji5) = some r := by rw [if_neg (show ¬ (false = true) by decide)] at H; exact H
         clear H
         have H := H1
         clear H1
         have H' := Aside0.mk H
         clear H
         have p342 : 0 ≤ (x3_1 : Int) := of_decide_eq_true (by first | (with_reducible assumption) | assumption)
         have q342 : x3_1 < (l0.length : Int) := of_decide_eq_true (by first | (with_reducible assumption) | assumption)
         obtain ⟨ad342, e342, hx342_0⟩ := Kd.at_int HR0.out x3_1 p342 q342
         cases e342
         replace p342 := eq_true p342
         replace q342 := eq_true q342
         have p343 : 0 ≤ ((ji5) : Int) := of_decide_eq_true (by first | (with_reducible assumption) | assumption)
         have q343 : (ji5) < (l0.length : Int) := of_decide_eq_true (by first | (with_reducible assumption) | assumption)
         obtain ⟨ad343, e343, hx343_0⟩ := Kd.at_int HR0.out (ji5) p343 q343
         obtain rfl : ad342 = ad343 := (by injection e343)
         replace p343 := eq_true p343
         replace q343 := eq_true q343
         go_wp2_with (first | (go_at_call 56; (with_reducible refine (cmp_Less_int.calls (rd l0 x3_1) (rd l0 (ji5)) false _ A8.out).mono ?_); rintro e w' ⟨rfl, ⟨nd, rfl⟩⟩; (try first | exact ⟨rfl, _, World.drewN_drewN _ _ _⟩ | exact ⟨rfl, _, Eq.trans (World.drewN_drewN _ _ _) (congrArg (World.drewN _) (Nat.add_assoc _ _ _))⟩)))
         repeat (go_quiet (first | (go_at_call 56; (with_reducible refine (cmp_Less_int.calls (rd l0 x3_1) (rd l0 (ji5)) false _ A8.out).mono ?_); rintro e w' ⟨rfl, ⟨nd, rfl⟩⟩; (try first | exact ⟨rfl, _, World.drewN_drewN _ _ _⟩ | exact ⟨rfl, _, Eq.trans (World.drewN_drewN _ _ _) (congrArg (World.drewN _) (Nat.add_assoc _ _ _))⟩))); try go_wp2_with (first | (go_at_call 56; (with_reducible refine (cmp_Less_int.calls (rd l0 x3_1) (rd l0 (ji5)) false _ A8.out).mono ?_); rintro e w' ⟨rfl, ⟨nd, rfl⟩⟩; (try first | exact ⟨rfl, _, World.drewN_drewN _ _ _⟩ | exact ⟨rfl, _, Eq.trans (World.drewN_drewN _ _ _) (congrArg (World.drewN _) (Nat.add_assoc _ _ _))⟩))))
         go_roundg k1
         case measure => have := HK1.out; omega
         case rel => exact ⟨(ji5), (by first | rfl | (simp; done) | (simp only [← hji5] <;> (first | rfl | simp)) | (simp [*]; done)), H', ⟨by have := HK1.out; omega⟩, by repeat (first | exact Drawn0.refl _ | apply Drawn0.step)⟩
       ·rw [if_neg c7] at H
        exact absurd H (by simp)
      ·rw [if_neg c6] at H
       exact absurd H (by simp)
     ·rw [if_neg c4] at H
      exact absurd H (by simp)
    ·rw [if_neg c3] at H
     exact absurd H (by simp)
   ·rw [if_neg c2] at H
    have c2b0 : decide (0 < x3_1) = false := decide_eq_false c2
    clear c2
    obtain rfl := Option.some.inj H
    go_wp2
    repeat (go_quiet (fail); try go_wp2)
    go_ret
    exact ⟨by first | rfl | (simp; done) | (simp [*]; done), by repeat (first | exact Drawn0.refl _ | apply Drawn0.step)⟩

end Go.Proofs.Ytkdgpbcecnmdhaa.P

-- Umarkov
namespace Go.Proofs.Ytkdgpbcecnmdhaa.P
set_option linter.unusedVariables false
set_option linter.unusedSimpArgs false
open Go.RowKit Go.Proofs.YtkdgpbcecnmdhaaW.PrintWords Go.Proofs.YtkdgpbcecnmdhaaW.PrintLast Go.Proofs.YtkdgpbcecnmdhaaW.PrintMore

/-- Three numbers solve Markov's equation. -/
def mkEq (x y z : Int) : Bool := x * x + y * y + z * z == 3 * (x * y) * z
theorem mkEq_iff {x y z : Int} : mkEq x y z = true ↔ x * x + y * y + z * z = 3 * (x * y) * z := by simp [mkEq]
theorem mul_bd {a b A B : Int} (h1 : 0 ≤ a) (h2 : a ≤ A) (h3 : 0 ≤ b) (h4 : b ≤ B) : 0 ≤ a * b ∧ a * b ≤ A * B :=
  ⟨Int.mul_nonneg h1 h3, Int.mul_le_mul h2 h4 h3 (by omega)⟩
theorem mul_one_le {a b : Int} (h1 : 0 ≤ a) (h2 : 1 ≤ b) : a ≤ a * b := by
  have := Int.mul_le_mul (Int.le_refl a) h2 (by omega) h1
  omega

theorem solves_is (x y z : Int) (hx : 1 ≤ x ∧ x ≤ 1000000000) (hy : 1 ≤ y ∧ y ≤ 1000000000) (hz : 1 ≤ z ∧ z ≤ 1000000000) : impl_solves.f [x, y, z] = some (mkEq x y z) := by
  have r0 : rd [x, y, z] 0 = x := rfl
  have r1 : rd [x, y, z] 1 = y := rfl
  have r2 : rd [x, y, z] 2 = z := rfl
  have hl : (([x, y, z] : List Int).length : Int) = 3 := rfl
  have bx := mul_bd (a := x) (b := x) (A := 1000000000) (B := 1000000000) (by omega) (by omega) (by omega) (by omega)
  have by_ := mul_bd (a := y) (b := y) (A := 1000000000) (B := 1000000000) (by omega) (by omega) (by omega) (by omega)
  have bz := mul_bd (a := z) (b := z) (A := 1000000000) (B := 1000000000) (by omega) (by omega) (by omega) (by omega)
  have bp := mul_bd (a := x) (b := y) (A := 1000000000) (B := 1000000000) (by omega) (by omega) (by omega) (by omega)
  have p1 : 1 ≤ x * y := by have := mul_one_le (a := x) (b := y) (by omega) (by omega); omega
  have w1 : wrap64 (x * y) = x * y := w64 (by omega) (by omega)
  have w2 : wrap64 (x * x) = x * x := w64 (by omega) (by omega)
  have w3 : wrap64 (y * y) = y * y := w64 (by omega) (by omega)
  have w4 : wrap64 (z * z) = z * z := w64 (by omega) (by omega)
  have w5 : wrap64 (x * x + y * y) = x * x + y * y := w64 (by omega) (by omega)
  have w6 : wrap64 (x * x + y * y + z * z) = x * x + y * y + z * z := w64 (by omega) (by omega)
  have w7 : wrap64 (3 * (x * y)) = 3 * (x * y) := w64 (by omega) (by omega)
  unfold impl_solves.f
  simp only [r0, r1, r2, hl, w1, w2, w3, w4, w5, w6, w7]
  obtain ⟨S, hS⟩ : ∃ S, S = x * x + y * y + z * z := ⟨_, rfl⟩
  obtain ⟨p, hp⟩ : ∃ p, p = x * y := ⟨_, rfl⟩
  have hm : mkEq x y z = (S == 3 * p * z) := by unfold mkEq; rw [hS, hp]
  have hSp : 0 ≤ S := by rw [hS]; omega
  have hS3 : S ≤ 3000000000000000000 := by rw [hS]; omega
  have hp1 : 1 ≤ p := by rw [hp]; exact p1
  have hp2 : p ≤ 1000000000000000000 := by rw [hp]; omega
  rw [hm, ← hS, ← hp]
  clear hm hS hp w1 w2 w3 w4 w5 w6 w7 bx by_ bz bp p1 r0 r1 r2
  have d1 : Int.tdiv S 3 = S / 3 := Int.tdiv_eq_ediv_of_nonneg hSp
  have d2 : Int.tmod S (3 * p) = S % (3 * p) := Int.tmod_eq_emod_of_nonneg hSp
  have d3 : Int.tdiv S (3 * p) = S / (3 * p) := Int.tdiv_eq_ediv_of_nonneg hSp
  have w8 : wrap64 (S / 3) = S / 3 := w64 (by omega) (by omega)
  have e0 : 0 ≤ S / (3 * p) := Int.ediv_nonneg hSp (by omega)
  have e1 : S / (3 * p) ≤ S := Int.ediv_le_self _ hSp
  have w9 : wrap64 (S / (3 * p)) = S / (3 * p) := w64 (by omega) (by omega)
  have e2 := Int.mul_ediv_add_emod S (3 * p)
  rw [d1, d2, d3, w8, w9]
  have hz3 : ¬ 3 * p = 0 := by omega
  rw [if_pos (by decide), if_pos (by decide), if_pos (by decide)]
  by_cases h : S = 3 * p * z
  · have h1 : p ≤ S / 3 := by
      have h2 := mul_one_le (a := p) (b := z) (by omega) (by omega)
      have h3 : S = 3 * (p * z) := by rw [h, Int.mul_assoc]
      omega
    have h2 : S % (3 * p) = 0 := by rw [h]; exact Int.mul_emod_right _ _
    have h3 : S / (3 * p) = z := by rw [h]; exact Int.mul_ediv_cancel_left _ (by omega)
    rw [if_pos h1, if_neg hz3, if_pos h2, h3, beq_iff_eq.2 h]
    simp
  · rw [beq_eq_false_iff_ne.2 h]
    by_cases h1 : p ≤ S / 3
    · rw [if_pos h1, if_neg hz3]
      by_cases h2 : S % (3 * p) = 0
      · rw [if_pos h2]
        have h3 : ¬ S / (3 * p) = z := by
          intro h3
          rw [h2, h3] at e2
          apply h
          omega
        rw [beq_eq_false_iff_ne.2 h3]
      · rw [if_neg h2]
    · rw [if_neg h1]


/-- A Markov triple. -/
def isMk (l : List Int) : Bool := match l with
  | [x, y, z] => [x, y, z].all (inB 1 1000000000) && (decide (x ≤ y) && (decide (y ≤ z) && mkEq x y z))
  | _ => false
theorem three_all {x y z lo hi : Int} (h : [x, y, z].all (inB lo hi) = true) : (lo ≤ x ∧ x ≤ hi) ∧ (lo ≤ y ∧ y ≤ hi) ∧ (lo ≤ z ∧ z ≤ hi) := by
  simp [inB] at h
  omega
theorem less_is (a b : Int) : cmp_Less_int.f a b = some (decide (a < b)) := by
  unfold cmp_Less_int.f cmp_isNaN_int.f
  simp
theorem sorted_three (x y z : Int) : Ev (fun k => slices_IsSorted_int_int.f k [x, y, z]) (decide (x ≤ y) && decide (y ≤ z)) := by
  have w2 : wrap64 (3 - 1) = 2 := by decide +kernel
  have w1 : wrap64 (2 - 1) = 1 := by decide +kernel
  have w0 : wrap64 (1 - 1) = 0 := by decide +kernel
  have hl : (([x, y, z] : List Int).length : Int) = 3 := rfl
  have r0 : rd [x, y, z] 0 = x := rfl
  have r1 : rd [x, y, z] 1 = y := rfl
  have r2 : rd [x, y, z] 2 = z := rfl
  unfold slices_IsSorted_int_int.f
  rw [hl, w2]
  refine Ev.step (f := fun k => if z < y then some false else slices_IsSorted_int_int.l0 k [x, y, z] 1) (fun k => ?_) ?_
  · simp only [slices_IsSorted_int_int.l0, hl, w1, r1, r2, less_is, Option.bind_some, decide_eq_true_eq]
    rw [if_pos (by decide), if_pos (by decide), if_pos (by decide), if_pos (by decide), if_pos (by decide)]
  · by_cases h2 : z < y
    · simp only [h2, if_true]
      rw [decide_eq_false (by omega : ¬ y ≤ z), Bool.and_false]
      exact Ev.is rfl
    · simp only [h2, if_false]
      rw [decide_eq_true (by omega : y ≤ z), Bool.and_true]
      refine Ev.step (f := fun k => if y < x then some false else slices_IsSorted_int_int.l0 k [x, y, z] 0) (fun k => ?_) ?_
      · simp only [slices_IsSorted_int_int.l0, hl, w0, r0, r1, less_is, Option.bind_some, decide_eq_true_eq]
        rw [if_pos (by decide), if_pos (by decide), if_pos (by decide), if_pos (by decide), if_pos (by decide)]
      · by_cases h1 : y < x
        · simp only [h1, if_true]
          rw [decide_eq_false (by omega : ¬ x ≤ y)]
          exact Ev.is rfl
        · simp only [h1, if_false]
          rw [decide_eq_true (by omega : x ≤ y)]
          refine Ev.step (f := fun _ => some true) (fun k => ?_) (Ev.is rfl)
          simp only [slices_IsSorted_int_int.l0]
          rw [if_neg (by decide)]
end Go.Proofs.Ytkdgpbcecnmdhaa.P

-- PFimplIsMarkov
namespace Go.Proofs.Ytkdgpbcecnmdhaa.P
open Go.RowKit Go.Proofs.YtkdgpbcecnmdhaaW.PrintWords Go.Proofs.YtkdgpbcecnmdhaaW.PrintLast
set_option linter.unusedVariables false
set_option linter.unusedSimpArgs false

/-! ### impl_IsMarkov: function 26 -/
def impl_IsMarkov.f (k : Nat) (l0 : List Int) : Option (Bool) := (impl_areThree.f l0).bind fun t354 => (if t354 = true then ((slices_IsSorted_int_int.f k l0).bind fun t355 => (if t355 = true then ((impl_solves.f l0).bind fun t356 => (some t356)) else (some false))) else (some false))
theorem impl_IsMarkov.mono : ∀ a0 k, LeO (impl_IsMarkov.f k a0) (impl_IsMarkov.f (k + 1) a0) := by
 intro a0 k
 unfold impl_IsMarkov.f
 repeat' first
   | (with_reducible exact slices_IsSorted_int_int.mono _ _)
   | (with_reducible exact LeO.refl _)
   | (with_reducible exact LeO.none _)
   | (with_reducible refine LeO.ite ?_ ?_)
   | (with_reducible refine LeO.bind ?_ (fun _ => ?_))
   | exact slices_IsSorted_int_int.mono _ _
   | exact LeO.none _
   | refine LeO.ite ?_ ?_
   | refine LeO.bind ?_ (fun _ => ?_)
set_option maxHeartbeats 8000000 in
set_option maxRecDepth 100000 in
theorem impl_IsMarkov.calls (k : Nat) (A0 : Option Addr) (c0 : Nat) (l0 : List Int) (r : Bool) (w : World) (hr0 : Kd.C (Kd.int .i64) w A0 l0.length l0) (hc0 : l0.length ≤ c0) (h : impl_IsMarkov.f k l0 = some r) :
  Calls Try.prog 26 #[.slice A0 l0.length c0] w fun e w' => e = .returned (.bool r) ∧ Below w.heap.size w w' := by
 have HR0 := Aside0.mk hr0
 have HC0 := Aside0.mk hc0
 clear hr0 hc0
 have HB := Aside0.mk (Below.refl w.heap.size w)
 have H : ((impl_areThree.f l0).bind fun t354 => (if t354 = true then ((slices_IsSorted_int_int.f k l0).bind fun t355 => (if t355 = true then ((impl_solves.f l0).bind fun t356 => (some t356)) else (some false))) else (some false))) = some r := h
 clear h
 replace H := Option.bind_eq_some_iff.mp H
 obtain ⟨t354, A20, H⟩ := H
 replace H : (if t354 = true then ((slices_IsSorted_int_int.f k l0).bind fun t355 => (if t355 = true then ((impl_solves.f l0).bind fun t356 => (some t356)) else (some false))) else (some false)) = some r := H
 have A2 := Aside0.mk A20
 clear A20
 by_cases c3 : t354 = true
 ·subst c3
  have H1 : ((slices_IsSorted_int_int.f k l0).bind fun t355 => (if t355 = true then ((impl_solves.f l0).bind fun t356 => (some t356)) else (some false))) = some r := by rw [if_pos rfl] at H; exact H
  clear H
  have H := H1
  clear H1
  replace H := Option.bind_eq_some_iff.mp H
  obtain ⟨t355, A40, H⟩ := H
  replace H : (if t355 = true then ((impl_solves.f l0).bind fun t356 => (some t356)) else (some false)) = some r := H
  have A4 := Aside0.mk A40
  clear A40
  by_cases c5 : t355 = true
  ·subst c5
   have H1 : ((impl_solves.f l0).bind fun t356 => (some t356)) = some r := by rw [if_pos rfl] at H; exact H
   clear H
   have H := H1
   clear H1
   replace H := Option.bind_eq_some_iff.mp H
   obtain ⟨t356, A60, H⟩ := H
   replace H : (some t356) = some r := H
   have A6 := Aside0.mk A60
   clear A60
   obtain rfl := Option.some.inj H
   go_enter Try.func26, Try.ntmps26
   go_wp2_with (first | ((with_reducible refine gate_callee (f := 41) rfl ?_); refine goesL_ (some 4) rfl rfl Try.func41 (by kernel_rfl) rfl #[.slice A0 l0.length c0] rfl (by (try simp only [List.map_toArray, List.map_cons, List.map_nil]); first | done | rfl | (simp only [List.length_drop, List.length_take]; rfl)) ?_; (with_reducible refine (impl_areThree.calls _ _ l0 true _ ?side1 ?side2 A2.out).mono ?_); (case side1 => repeat (first | exact HR0.out | (with_reducible refine Kd.C_alloc ?_ _) | (with_reducible refine Kd.C_drewN ?_ _) | (with_reducible refine Kd.C_drew ?_))); (case side2 => exact HC0.out); rintro e w7 ⟨rfl, hb⟩; refine ⟨_, rfl, ?_⟩; have n0_ := Aside0.mk (below_step (by repeat (first | (with_reducible first | exact HB.out | apply below_alloc | apply pw_below_drewN | apply below_drew1) | exact HB.out)) hb); clear HB; have HB := n0_; clear n0_; (try clear hb); (try clear hb2); (try clear hk); (try clear hi)) | (go_at_call 42; (with_reducible refine (slices_IsSorted_int_int.calls k _ _ l0 true _ ?side1 ?side2 A4.out).mono ?_); (case side1 => repeat (first | exact (Kd.C_below HR0.out HB.out) | (with_reducible refine Kd.C_alloc ?_ _) | (with_reducible refine Kd.C_drewN ?_ _) | (with_reducible refine Kd.C_drew ?_))); (case side2 => exact HC0.out); rintro e w' ⟨rfl, ⟨nd, rfl⟩⟩) | (go_at_call 43; (with_reducible refine (impl_solves.calls _ _ l0 t356 _ ?side1 ?side2 A6.out).mono ?_); (case side1 => repeat (first | exact (Kd.C_below HR0.out (by repeat (first | (with_reducible first | exact HB.out | apply below_alloc | apply pw_below_drewN | apply below_drew1) | exact HB.out))) | (with_reducible refine Kd.C_alloc ?_ _) | (with_reducible refine Kd.C_drewN ?_ _) | (with_reducible refine Kd.C_drew ?_))); (case side2 => exact HC0.out); rintro e w' ⟨rfl, ⟨nd, rfl⟩⟩))
   go_ret
   exact ⟨by first | rfl | (simp [errW_none, errW_some] <;> rfl) | (simp [*, errW_none, errW_some] <;> rfl), by repeat (first | (with_reducible first | exact HB.out | apply below_alloc | apply pw_below_drewN | apply below_drew1) | exact HB.out)⟩
  ·replace c5 := Bool.eq_false_iff.mpr c5
   subst c5
   have H1 : (some false) = some r := by rw [if_neg (show ¬ (false = true) by decide)] at H; exact H
   clear H
   have H := H1
   clear H1
   obtain rfl := Option.some.inj H
   go_enter Try.func26, Try.ntmps26
   go_wp2_with (first | ((with_reducible refine gate_callee (f := 41) rfl ?_); refine goesL_ (some 4) rfl rfl Try.func41 (by kernel_rfl) rfl #[.slice A0 l0.length c0] rfl (by (try simp only [List.map_toArray, List.map_cons, List.map_nil]); first | done | rfl | (simp only [List.length_drop, List.length_take]; rfl)) ?_; (with_reducible refine (impl_areThree.calls _ _ l0 true _ ?side1 ?side2 A2.out).mono ?_); (case side1 => repeat (first | exact HR0.out | (with_reducible refine Kd.C_alloc ?_ _) | (with_reducible refine Kd.C_drewN ?_ _) | (with_reducible refine Kd.C_drew ?_))); (case side2 => exact HC0.out); rintro e w8 ⟨rfl, hb⟩; refine ⟨_, rfl, ?_⟩; have n0_ := Aside0.mk (below_step (by repeat (first | (with_reducible first | exact HB.out | apply below_alloc | apply pw_below_drewN | apply below_drew1) | exact HB.out)) hb); clear HB; have HB := n0_; clear n0_; (try clear hb); (try clear hb2); (try clear hk); (try clear hi)) | (go_at_call 42; (with_reducible refine (slices_IsSorted_int_int.calls k _ _ l0 false _ ?side1 ?side2 A4.out).mono ?_); (case side1 => repeat (first | exact (Kd.C_below HR0.out HB.out) | (with_reducible refine Kd.C_alloc ?_ _) | (with_reducible refine Kd.C_drewN ?_ _) | (with_reducible refine Kd.C_drew ?_))); (case side2 => exact HC0.out); rintro e w' ⟨rfl, ⟨nd, rfl⟩⟩))
   go_ret
   exact ⟨by first | rfl | (simp [errW_none, errW_some] <;> rfl) | (simp [*, errW_none, errW_some] <;> rfl), by repeat (first | (with_reducible first | exact HB.out | apply below_alloc | apply pw_below_drewN | apply below_drew1) | exact HB.out)⟩
 ·replace c3 := Bool.eq_false_iff.mpr c3
  subst c3
  have H1 : (some false) = some r := by rw [if_neg (show ¬ (false = true) by decide)] at H; exact H
  clear H
  have H := H1
  clear H1
  obtain rfl := Option.some.inj H
  go_enter Try.func26, Try.ntmps26
  go_wp2_with (first | ((with_reducible refine gate_callee (f := 41) rfl ?_); refine goesL_ (some 4) rfl rfl Try.func41 (by kernel_rfl) rfl #[.slice A0 l0.length c0] rfl (by (try simp only [List.map_toArray, List.map_cons, List.map_nil]); first | done | rfl | (simp only [List.length_drop, List.length_take]; rfl)) ?_; (with_reducible refine (impl_areThree.calls _ _ l0 false _ ?side1 ?side2 A2.out).mono ?_); (case side1 => repeat (first | exact HR0.out | (with_reducible refine Kd.C_alloc ?_ _) | (with_reducible refine Kd.C_drewN ?_ _) | (with_reducible refine Kd.C_drew ?_))); (case side2 => exact HC0.out); rintro e w9 ⟨rfl, hb⟩; refine ⟨_, rfl, ?_⟩; have n0_ := Aside0.mk (below_step (by repeat (first | (with_reducible first | exact HB.out | apply below_alloc | apply pw_below_drewN | apply below_drew1) | exact HB.out)) hb); clear HB; have HB := n0_; clear n0_; (try clear hb); (try clear hb2); (try clear hk); (try clear hi)))
  go_ret
  exact ⟨by first | rfl | (simp [errW_none, errW_some] <;> rfl) | (simp [*, errW_none, errW_some] <;> rfl), by repeat (first | (with_reducible first | exact HB.out | apply below_alloc | apply pw_below_drewN | apply below_drew1) | exact HB.out)⟩

end Go.Proofs.Ytkdgpbcecnmdhaa.P

-- UisMarkov
namespace Go.Proofs.Ytkdgpbcecnmdhaa.P
set_option linter.unusedVariables false
set_option linter.unusedSimpArgs false
open Go.RowKit Go.Proofs.YtkdgpbcecnmdhaaW.PrintWords Go.Proofs.YtkdgpbcecnmdhaaW.PrintLast Go.Proofs.YtkdgpbcecnmdhaaW.PrintMore

theorem areThree_no (l : List Int) (h : ¬ l.length = 3) : impl_areThree.f l = some false := by
  unfold impl_areThree.f
  rw [if_neg (by omega)]
theorem areThree_is (x y z : Int) : impl_areThree.f [x, y, z] = some ([x, y, z].all (inB 1 1000000000)) := rfl
theorem isMk_no (l : List Int) (h : ¬ l.length = 3) : isMk l = false := by
  match l with
  | [] => rfl
  | [_] => rfl
  | [_, _] => rfl
  | [_, _, _] => simp at h
  | _ :: _ :: _ :: _ :: _ => rfl
theorem three_of (l : List Int) (h : l.length = 3) : ∃ x y z, l = [x, y, z] := by
  match l, h with
  | [x, y, z], _ => exact ⟨x, y, z, rfl⟩
theorem IsMarkov_ev (l : List Int) : Ev (fun k => impl_IsMarkov.f k l) (isMk l) := by
  unfold impl_IsMarkov.f
  by_cases h3 : l.length = 3
  · obtain ⟨x, y, z, rfl⟩ := three_of l h3
    refine Ev.bind0 (areThree_is x y z) ?_
    have he : isMk [x, y, z] = ([x, y, z].all (inB 1 1000000000) && (decide (x ≤ y) && (decide (y ≤ z) && mkEq x y z))) := rfl
    rw [he]
    cases h : [x, y, z].all (inB 1 1000000000) with
    | false =>
      simp only [Bool.false_eq_true, if_false, Bool.false_and]
      exact Ev.is rfl
    | true =>
      obtain ⟨h1, h2, h4⟩ := three_all h
      simp only [if_true, Bool.true_and]
      refine Ev.bind (sorted_three x y z) ?_
      rw [solves_is x y z h1 h2 h4]
      by_cases c1 : x ≤ y <;> by_cases c2 : y ≤ z
      all_goals
        simp only [c1, c2, decide_true, decide_false, Bool.and_true, Bool.true_and, Bool.false_and, Bool.and_false, if_true, Bool.false_eq_true, if_false, Option.bind_some]
        exact Ev.is rfl
  · refine Ev.bind0 (areThree_no l h3) ?_
    simp only [Bool.false_eq_true, if_false]
    rw [isMk_no l h3]
    exact Ev.is rfl
end Go.Proofs.Ytkdgpbcecnmdhaa.P

-- UmkSort
namespace Go.Proofs.Ytkdgpbcecnmdhaa.P
set_option linter.unusedVariables false
set_option linter.unusedSimpArgs false
open Go.RowKit Go.Proofs.YtkdgpbcecnmdhaaW.PrintWords Go.Proofs.YtkdgpbcecnmdhaaW.PrintLast Go.Proofs.YtkdgpbcecnmdhaaW.PrintMore

def lo2 (a b : Int) : Int := if a < b then a else b
def hi2 (a b : Int) : Int := if a > b then a else b
theorem least_is (a b : Int) : spec_l1Least.f a b = some (lo2 a b) := by unfold spec_l1Least.f lo2; split <;> rfl
theorem most_is (a b : Int) : spec_l1Most.f a b = some (hi2 a b) := by unfold spec_l1Most.f hi2; split <;> rfl
/-- Three numbers in order. -/
def srt (x y z : Int) : List Int := [lo2 x (lo2 y z), x + y + z - lo2 x (lo2 y z) - hi2 x (hi2 y z), hi2 x (hi2 y z)]
theorem srt_cases (x y z : Int) : (x ≤ y ∧ y ≤ z ∧ srt x y z = [x, y, z]) ∨ (x ≤ z ∧ z ≤ y ∧ srt x y z = [x, z, y]) ∨ (y ≤ x ∧ x ≤ z ∧ srt x y z = [y, x, z]) ∨ (y ≤ z ∧ z ≤ x ∧ srt x y z = [y, z, x]) ∨ (z ≤ x ∧ x ≤ y ∧ srt x y z = [z, x, y]) ∨ (z ≤ y ∧ y ≤ x ∧ srt x y z = [z, y, x]) := by
  have e : ∀ a b c : Int, lo2 x (lo2 y z) = a → hi2 x (hi2 y z) = c → x + y + z = a + b + c → srt x y z = [a, b, c] := by
    intro a b c h1 h2 h3
    unfold srt
    rw [h1, h2]
    congr 2
    omega
  have l : ∀ a b : Int, a ≤ b → lo2 a b = a ∧ lo2 b a = a ∧ hi2 a b = b ∧ hi2 b a = b := by
    intro a b h
    unfold lo2 hi2
    refine ⟨?_, ?_, ?_, ?_⟩ <;> split <;> omega
  rcases Int.le_total x y with h1 | h1 <;> rcases Int.le_total y z with h2 | h2 <;> rcases Int.le_total x z with h3 | h3
  · exact .inl ⟨h1, h2, e _ _ _ (by rw [(l y z h2).1, (l x y h1).1]) (by rw [(l y z h2).2.2.1, (l x z h3).2.2.1]) (by omega)⟩
  · exact .inl ⟨h1, h2, e _ _ _ (by rw [(l y z h2).1, (l x y h1).1]) (by rw [(l y z h2).2.2.1, (l z x h3).2.2.2]; omega) (by omega)⟩
  · exact .inr (.inl ⟨h3, h2, e _ _ _ (by rw [(l z y h2).2.1, (l x z h3).1]) (by rw [(l z y h2).2.2.2, (l x y h1).2.2.1]) (by omega)⟩)
  · exact .inr (.inr (.inr (.inr (.inl ⟨h3, h1, e _ _ _ (by rw [(l z y h2).2.1, (l z x h3).2.1]) (by rw [(l z y h2).2.2.2, (l x y h1).2.2.1]) (by omega)⟩))))
  · exact .inr (.inr (.inl ⟨h1, h3, e _ _ _ (by rw [(l y z h2).1, (l y x h1).2.1]) (by rw [(l y z h2).2.2.1, (l x z h3).2.2.1]) (by omega)⟩))
  · exact .inr (.inr (.inr (.inl ⟨h2, h3, e _ _ _ (by rw [(l y z h2).1, (l y x h1).2.1]) (by rw [(l y z h2).2.2.1, (l z x h3).2.2.2]) (by omega)⟩)))
  · exact .inr (.inr (.inr (.inr (.inr ⟨h2, h1, e _ _ _ (by rw [(l z y h2).2.1, (l x z h3).1]; omega) (by rw [(l z y h2).2.2.2, (l y x h1).2.2.2]) (by omega)⟩))))
  · exact .inr (.inr (.inr (.inr (.inr ⟨h2, h1, e _ _ _ (by rw [(l z y h2).2.1, (l z x h3).2.1]) (by rw [(l z y h2).2.2.2, (l y x h1).2.2.2]) (by omega)⟩))))
theorem mkSort_srt (x y z : Int) (hx : 0 ≤ x ∧ x ≤ 1000000000000) (hy : 0 ≤ y ∧ y ≤ 1000000000000) (hz : 0 ≤ z ∧ z ≤ 1000000000000) : spec_mkSort.f x y z = some (srt x y z) := by
  have hlo : 0 ≤ lo2 x (lo2 y z) ∧ lo2 x (lo2 y z) ≤ 1000000000000 := by unfold lo2; split <;> split <;> omega
  have hhi : 0 ≤ hi2 x (hi2 y z) ∧ hi2 x (hi2 y z) ≤ 1000000000000 := by unfold hi2; split <;> split <;> omega
  have w1 : wrap64 (x + y) = x + y := w64 (by omega) (by omega)
  have w2 : wrap64 (x + y + z) = x + y + z := w64 (by omega) (by omega)
  have w3 : wrap64 (x + y + z - lo2 x (lo2 y z)) = x + y + z - lo2 x (lo2 y z) := w64 (by omega) (by omega)
  have w4 : wrap64 (x + y + z - lo2 x (lo2 y z) - hi2 x (hi2 y z)) = x + y + z - lo2 x (lo2 y z) - hi2 x (hi2 y z) := w64 (by omega) (by omega)
  unfold spec_mkSort.f srt
  simp only [least_is, most_is, Option.bind_some, w1, w2, w3, w4]
theorem mkEq_srt {x y z a b c : Int} (h : srt x y z = [a, b, c]) : mkEq a b c = mkEq x y z := by
  have g : ∀ p q r : Int, (mkEq p q r = mkEq p r q) ∧ (mkEq p q r = mkEq q p r) := by
    intro p q r
    unfold mkEq
    constructor
    · rw [Bool.eq_iff_iff]; simp only [beq_iff_eq]; constructor <;> intro h <;> grind
    · rw [Bool.eq_iff_iff]; simp only [beq_iff_eq]; constructor <;> intro h <;> grind
  rcases srt_cases x y z with ⟨_, _, e⟩ | ⟨_, _, e⟩ | ⟨_, _, e⟩ | ⟨_, _, e⟩ | ⟨_, _, e⟩ | ⟨_, _, e⟩ <;> (rw [e] at h; injection h with h1 h; injection h with h2 h; injection h with h3 _; subst h1 h2 h3)
  · rfl
  · exact (g _ _ _).1
  · exact (g _ _ _).2
  · rw [(g y z x).1, (g y x z).2]
  · rw [(g z x y).2, (g x z y).1]
  · rw [(g z y x).1, (g z x y).2, (g x z y).1]
theorem srt_three (x y z : Int) : ∃ a b c, srt x y z = [a, b, c] ∧ a ≤ b ∧ b ≤ c := by
  rcases srt_cases x y z with ⟨h1, h2, e⟩ | ⟨h1, h2, e⟩ | ⟨h1, h2, e⟩ | ⟨h1, h2, e⟩ | ⟨h1, h2, e⟩ | ⟨h1, h2, e⟩ <;> exact ⟨_, _, _, e, h1, h2⟩
theorem mkSort_is (x y z : Int) (hx : 1 ≤ x ∧ x ≤ 1000000000) (hy : 1 ≤ y ∧ y ≤ 1000000000) (hz : 1 ≤ z ∧ z ≤ 1000000000) : ∃ a b c, spec_mkSort.f x y z = some [a, b, c] ∧ a ≤ b ∧ b ≤ c ∧ 1 ≤ a ∧ c ≤ 1000000000 ∧ mkEq a b c = mkEq x y z := by
  have h := mkSort_srt x y z (by omega) (by omega) (by omega)
  rcases srt_cases x y z with ⟨h1, h2, e⟩ | ⟨h1, h2, e⟩ | ⟨h1, h2, e⟩ | ⟨h1, h2, e⟩ | ⟨h1, h2, e⟩ | ⟨h1, h2, e⟩ <;> exact ⟨_, _, _, by rw [h, e], h1, h2, by omega, by omega, mkEq_srt e⟩
end Go.Proofs.Ytkdgpbcecnmdhaa.P

-- Usorted
namespace Go.Proofs.Ytkdgpbcecnmdhaa.P
set_option linter.unusedVariables false
set_option linter.unusedSimpArgs false
open Go.RowKit Go.Proofs.YtkdgpbcecnmdhaaW.PrintWords Go.Proofs.YtkdgpbcecnmdhaaW.PrintLast

def up (l : List Int) : List Int := l.mergeSort fun x y => decide (x ≤ y)
theorem up_perm (l : List Int) : (up l).Perm l := List.mergeSort_perm _ _
theorem up_pairwise (l : List Int) : (up l).Pairwise (· ≤ ·) := by
  have h := List.pairwise_mergeSort (le := fun x y : Int => decide (x ≤ y)) (by intro a b c h1 h2; simp at *; omega) (by intro a b; simp; omega) l
  exact h.imp (by intro a b h; simpa using h)
theorem up_unique {l m : List Int} (hp : m.Perm l) (hs : m.Pairwise (· ≤ ·)) : m = up l :=
  List.Perm.eq_of_pairwise (le := (· ≤ ·)) (fun a b _ _ h1 h2 => by omega) hs (up_pairwise l) (hp.trans (up_perm l).symm)
theorem up_length (l : List Int) : (up l).length = l.length := (up_perm l).length_eq
theorem sort_is (l : List Int) (h : l.length < 4611686018427387904) : slices_Sort_int_int.f l = some (up l) := by
  unfold slices_Sort_int_int.f
  rw [if_pos h]
  rfl
end Go.Proofs.Ytkdgpbcecnmdhaa.P

-- UmkMove
namespace Go.Proofs.Ytkdgpbcecnmdhaa.P
set_option linter.unusedVariables false
set_option linter.unusedSimpArgs false
open Go.RowKit Go.Proofs.YtkdgpbcecnmdhaaW.PrintWords Go.Proofs.YtkdgpbcecnmdhaaW.PrintLast Go.Proofs.YtkdgpbcecnmdhaaW.PrintMore

theorem clone_is (l : List Int) (h : l.length < 17592186044416) : slices_Clone_int_int.f l = some l := by
  unfold slices_Clone_int_int.f
  rw [if_pos h]
theorem srt_up (x y z : Int) : srt x y z = up [x, y, z] := by
  have sw : ∀ a b c : Int, ([a, b, c] : List Int).Perm [a, c, b] := fun a b c => List.Perm.cons a (List.Perm.swap c b [])
  have ex : ∀ a b c : Int, ([a, b, c] : List Int).Perm [b, a, c] := fun a b c => List.Perm.swap b a [c]
  have hs : ∀ a b c : Int, a ≤ b → b ≤ c → ([a, b, c] : List Int).Pairwise (· ≤ ·) := by
    intro a b c h1 h2
    simp
    omega
  rcases srt_cases x y z with ⟨h1, h2, e⟩ | ⟨h1, h2, e⟩ | ⟨h1, h2, e⟩ | ⟨h1, h2, e⟩ | ⟨h1, h2, e⟩ | ⟨h1, h2, e⟩ <;> rw [e]
  · exact up_unique (List.Perm.refl _) (hs _ _ _ h1 h2)
  · exact up_unique (sw _ _ _) (hs _ _ _ h1 h2)
  · exact up_unique (ex _ _ _) (hs _ _ _ h1 h2)
  · exact up_unique ((sw _ _ _).trans (ex _ _ _)) (hs _ _ _ h1 h2)
  · exact up_unique ((ex _ _ _).trans (sw _ _ _)) (hs _ _ _ h1 h2)
  · exact up_unique ((ex _ _ _).trans ((sw _ _ _).trans (ex _ _ _))) (hs _ _ _ h1 h2)
theorem up_same {l m : List Int} (h : l.Perm m) : up l = up m := up_unique ((up_perm l).trans h) (up_pairwise l)
theorem srt_rot (x y z : Int) : srt x y z = srt y z x := by
  rw [srt_up, srt_up]
  exact up_same ((List.Perm.swap y x [z]).trans (List.Perm.cons y (List.Perm.swap z x [])))
theorem srt_ex (x y z : Int) : srt x y z = srt y x z := by
  rw [srt_up, srt_up]
  exact up_same (List.Perm.swap y x [z])
theorem mkEq_rot (x y z : Int) : mkEq x y z = mkEq y z x := by
  unfold mkEq
  rw [Bool.eq_iff_iff]; simp only [beq_iff_eq]; constructor <;> intro h <;> grind
theorem mkEq_ex (x y z : Int) : mkEq x y z = mkEq y x z := by
  unfold mkEq
  rw [Bool.eq_iff_iff]; simp only [beq_iff_eq]; constructor <;> intro h <;> grind

/-- What a Markov triple's numbers are. -/
theorem isMk_iff {x y z : Int} : isMk [x, y, z] = true ↔ (1 ≤ x ∧ x ≤ 1000000000) ∧ (1 ≤ y ∧ y ≤ 1000000000) ∧ (1 ≤ z ∧ z ≤ 1000000000) ∧ x ≤ y ∧ y ≤ z ∧ mkEq x y z = true := by
  have he : isMk [x, y, z] = ([x, y, z].all (inB 1 1000000000) && (decide (x ≤ y) && (decide (y ≤ z) && mkEq x y z))) := rfl
  rw [he]
  simp only [List.all_cons, List.all_nil, Bool.and_true, Bool.and_eq_true, inB, decide_eq_true_eq]
  constructor
  · rintro ⟨⟨h1, h2, h3⟩, h4, h5, h6⟩
    exact ⟨h1, h2, h3, h4, h5, h6⟩
  · rintro ⟨h1, h2, h3, h4, h5, h6⟩
    exact ⟨⟨h1, h2, h3⟩, h4, h5, h6⟩
theorem isMk_srt {x y z : Int} (hx : 1 ≤ x ∧ x ≤ 1000000000) (hy : 1 ≤ y ∧ y ≤ 1000000000) (hz : 1 ≤ z ∧ z ≤ 1000000000) (h : mkEq x y z = true) : isMk (srt x y z) = true := by
  rcases srt_cases x y z with ⟨h1, h2, e⟩ | ⟨h1, h2, e⟩ | ⟨h1, h2, e⟩ | ⟨h1, h2, e⟩ | ⟨h1, h2, e⟩ | ⟨h1, h2, e⟩ <;> (have h6 := mkEq_srt e; rw [e, isMk_iff]; exact ⟨by omega, by omega, by omega, h1, h2, by rw [h6]; exact h⟩)
/-- The other root. -/
theorem other_root {a b c : Int} (ha : 1 ≤ a ∧ a ≤ 1000000000) (hb : 1 ≤ b ∧ b ≤ 1000000000) (hc : 1 ≤ c ∧ c ≤ 1000000000) (h : mkEq a b c = true) :
    1 ≤ 3 * a * b - c ∧ 3 * a * b - c ≤ 3000000000000000000 ∧ c * (3 * a * b - c) = a * a + b * b ∧ mkEq a b (3 * a * b - c) = true ∧ wrap64 (wrap64 (wrap64 (3 * a) * b) - c) = 3 * a * b - c := by
  rw [mkEq_iff] at h
  have h1 : c * (3 * a * b - c) = a * a + b * b := by grind
  have p1 := mul_bd (a := a) (b := b) (A := 1000000000) (B := 1000000000) (by omega) (by omega) (by omega) (by omega)
  have p2 : 1 ≤ a * a := by have := mul_one_le (a := a) (b := a) (by omega) (by omega); omega
  have p3 : 1 ≤ b * b := by have := mul_one_le (a := b) (b := b) (by omega) (by omega); omega
  have e : 3 * a * b = 3 * (a * b) := Int.mul_assoc _ _ _
  have hpos : 1 ≤ 3 * a * b - c := by
    rcases Int.lt_or_le 0 (3 * a * b - c) with h2 | h2
    · omega
    · have h3 := Int.mul_nonneg (show 0 ≤ c by omega) (show 0 ≤ -(3 * a * b - c) by omega)
      rw [Int.mul_neg] at h3
      omega
  refine ⟨hpos, by omega, h1, ?_, ?_⟩
  · rw [mkEq_iff]; grind
  · rw [w64 (x := 3 * a) (by omega) (by omega), w64 (x := 3 * a * b) (by omega) (by omega), w64 (by omega) (by omega)]

/-- The triple behind a move. -/
def mv (x y z : Int) : Nat → List Int
  | 0 => srt y z (3 * y * z - x)
  | 1 => srt z x (3 * z * x - y)
  | _ => srt x y (3 * x * y - z)
def mvN (x y z : Int) : Nat → Int
  | 0 => 3 * y * z - x
  | 1 => 3 * z * x - y
  | _ => 3 * x * y - z
theorem moved_raw (x y z : Int) : impl_moved.f [x, y, z] 0 = some (up [wrap64 (wrap64 (wrap64 (3 * y) * z) - x), y, z]) ∧ impl_moved.f [x, y, z] 1 = some (up [x, wrap64 (wrap64 (wrap64 (3 * z) * x) - y), z]) ∧ impl_moved.f [x, y, z] 2 = some (up [x, y, wrap64 (wrap64 (wrap64 (3 * x) * y) - z)]) := by
  have c : slices_Clone_int_int.f [x, y, z] = some [x, y, z] := clone_is _ (show 3 < 17592186044416 by decide)
  have s : ∀ a b c : Int, slices_Sort_int_int.f [a, b, c] = some (up [a, b, c]) := fun a b c => sort_is _ (show 3 < 4611686018427387904 by decide)
  have hl : (([x, y, z] : List Int).length : Int) = 3 := rfl
  have t1 : Int.tmod (wrap64 (0 + 1)) 3 = 1 := by decide +kernel
  have t2 : Int.tmod (wrap64 (0 + 2)) 3 = 2 := by decide +kernel
  have t3 : Int.tmod (wrap64 (1 + 1)) 3 = 2 := by decide +kernel
  have t4 : Int.tmod (wrap64 (1 + 2)) 3 = 0 := by decide +kernel
  have t5 : Int.tmod (wrap64 (2 + 1)) 3 = 0 := by decide +kernel
  have t6 : Int.tmod (wrap64 (2 + 2)) 3 = 1 := by decide +kernel
  have r0 : rd [x, y, z] 0 = x := rfl
  have r1 : rd [x, y, z] 1 = y := rfl
  have r2 : rd [x, y, z] 2 = z := rfl
  unfold impl_moved.f
  rw [c, t1, t2, t3, t4, t5, t6]
  simp only [Option.bind_some, hl, r0, r1, r2]
  refine ⟨?_, ?_, ?_⟩
  · rw [if_pos (by decide), if_pos (by decide), if_pos (by decide), if_pos (by decide), if_pos (by decide), if_pos (by decide), if_pos (by decide), show (0 : Int).toNat = 0 from rfl, List.set_cons_zero, s]
    rfl
  · rw [if_pos (by decide), if_pos (by decide), if_pos (by decide), if_pos (by decide), if_pos (by decide), if_pos (by decide), if_pos (by decide), show (1 : Int).toNat = 1 from rfl, List.set_cons_succ, List.set_cons_zero, s]
    rfl
  · rw [if_pos (by decide), if_pos (by decide), if_pos (by decide), if_pos (by decide), if_pos (by decide), if_pos (by decide), if_pos (by decide), show (2 : Int).toNat = 2 from rfl, List.set_cons_succ, List.set_cons_succ, List.set_cons_zero, s]
    rfl
/-- The numbers of a move at an index: the two that stay and the one that goes. -/
structure Roots (x y z : Int) (i : Nat) (a b c : Int) : Prop where
  ha : 1 ≤ a ∧ a ≤ 1000000000
  hb : 1 ≤ b ∧ b ≤ 1000000000
  hc : 1 ≤ c ∧ c ≤ 1000000000
  eq : mkEq a b c = true
  mv : mv x y z i = srt a b (3 * a * b - c)
  n : mvN x y z i = 3 * a * b - c
theorem roots_of {x y z : Int} (h : isMk [x, y, z] = true) (i : Nat) (hi : i ≤ 2) : ∃ a b c, Roots x y z i a b c ∧ ((i = 0 ∧ a = y ∧ b = z ∧ c = x) ∨ (i = 1 ∧ a = z ∧ b = x ∧ c = y) ∨ (i = 2 ∧ a = x ∧ b = y ∧ c = z)) := by
  obtain ⟨h1, h2, h3, h4, h5, h6⟩ := isMk_iff.1 h
  have hc : i = 0 ∨ i = 1 ∨ i = 2 := by omega
  rcases hc with rfl | rfl | rfl
  · exact ⟨y, z, x, ⟨h2, h3, h1, by rw [← mkEq_rot]; exact h6, rfl, rfl⟩, .inl ⟨rfl, rfl, rfl, rfl⟩⟩
  · exact ⟨z, x, y, ⟨h3, h1, h2, by rw [mkEq_rot]; exact h6, rfl, rfl⟩, .inr (.inl ⟨rfl, rfl, rfl, rfl⟩)⟩
  · exact ⟨x, y, z, ⟨h1, h2, h3, h6, rfl, rfl⟩, .inr (.inr ⟨rfl, rfl, rfl, rfl⟩)⟩
theorem moved_is {x y z : Int} (h : isMk [x, y, z] = true) (i : Nat) (hi : i ≤ 2) : impl_moved.f [x, y, z] (i : Int) = some (mv x y z i) := by
  obtain ⟨h1, h2, h3, h4, h5, h6⟩ := isMk_iff.1 h
  obtain ⟨m0, m1, m2⟩ := moved_raw x y z
  obtain ⟨a, b, c, hR, hcase⟩ := roots_of h i hi
  have ho := other_root hR.ha hR.hb hR.hc hR.eq
  rw [hR.mv]
  rcases hcase with ⟨rfl, rfl, rfl, rfl⟩ | ⟨rfl, rfl, rfl, rfl⟩ | ⟨rfl, rfl, rfl, rfl⟩
  · rw [ho.2.2.2.2] at m0
    rw [show ((0 : Nat) : Int) = 0 from rfl, m0, ← srt_up, srt_rot]
  · rw [ho.2.2.2.2] at m1
    rw [show ((1 : Nat) : Int) = 1 from rfl, m1, ← srt_up, ← srt_rot]
  · rw [ho.2.2.2.2] at m2
    rw [show ((2 : Nat) : Int) = 2 from rfl, m2, ← srt_up]
theorem srt_two (a b c : Int) : rd (srt a b c) 2 = hi2 a (hi2 b c) := rfl
theorem mv_two {x y z : Int} (h : isMk [x, y, z] = true) (i : Nat) (hi : i ≤ 2) : rd (mv x y z i) 2 > 1000000000 ↔ mvN x y z i > 1000000000 := by
  obtain ⟨a, b, c, hR, _⟩ := roots_of h i hi
  have := hR.ha
  have := hR.hb
  rw [hR.mv, hR.n, srt_two]
  unfold hi2
  split <;> split <;> omega
theorem mv_is {x y z : Int} (h : isMk [x, y, z] = true) (i : Nat) (hi : i ≤ 2) (hn : mvN x y z i ≤ 1000000000) : isMk (mv x y z i) = true := by
  obtain ⟨a, b, c, hR, _⟩ := roots_of h i hi
  have ho := other_root hR.ha hR.hb hR.hc hR.eq
  rw [hR.n] at hn
  rw [hR.mv]
  exact isMk_srt hR.ha hR.hb ⟨ho.1, hn⟩ ho.2.2.2.1
theorem mv_three (x y z : Int) (i : Nat) : ∃ a b c, mv x y z i = [a, b, c] := by
  match i with
  | 0 => exact ⟨_, _, _, rfl⟩
  | 1 => exact ⟨_, _, _, rfl⟩
  | _ + 2 => exact ⟨_, _, _, rfl⟩
def mvOf (x y z : Int) (i : Nat) : List Int × Bool := if mvN x y z i > 1000000000 then ([], false) else (mv x y z i, true)
theorem big_product {a b c : Int} (ha : 1 ≤ a ∧ a ≤ 1000000000) (hb : 1 ≤ b ∧ b ≤ 1000000000) (hc : 1 ≤ c ∧ c ≤ 1000000000) (h : a > 1000000000 / b) : 3 * a * b - c > 1000000000 := by
  have h1 : 1000000000 < a * b := (Int.ediv_lt_iff_lt_mul (by omega)).1 h
  have e : 3 * a * b = 3 * (a * b) := Int.mul_assoc _ _ _
  omega
theorem mkMove_is {x y z : Int} (h : isMk [x, y, z] = true) (i : Nat) (hi : i ≤ 2) : spec_mkMove.f [x, y, z] (i : Int) = some (mvOf x y z i) := by
  obtain ⟨a, b, c, hR, hcase⟩ := roots_of h i hi
  have ho := other_root hR.ha hR.hb hR.hc hR.eq
  have ha := hR.ha
  have hb := hR.hb
  have hc := hR.hc
  have hb0 : ¬ b = 0 := by clear ho; omega
  have hi0 : (0 : Int) ≤ (i : Int) := by clear ho hcase; omega
  have hi3 : (i : Int) < 3 := by clear ho hcase; omega
  have hl : (([x, y, z] : List Int).length : Int) = 3 := rfl
  have q1 : 0 ≤ 1000000000 / b := Int.ediv_nonneg (by omega) (by omega)
  have q2 : 1000000000 / b ≤ 1000000000 := Int.ediv_le_self _ (by omega)
  have wq : wrap64 (1000000000 / b) = 1000000000 / b := w64 (by omega) (by omega)
  have e1 : rd [x, y, z] (Int.tmod (wrap64 ((i : Int) + 1)) 3) = a ∧ rd [x, y, z] (Int.tmod (wrap64 ((i : Int) + 2)) 3) = b ∧ rd [x, y, z] (i : Int) = c ∧ 0 ≤ Int.tmod (wrap64 ((i : Int) + 1)) 3 ∧ Int.tmod (wrap64 ((i : Int) + 1)) 3 < 3 ∧ 0 ≤ Int.tmod (wrap64 ((i : Int) + 2)) 3 ∧ Int.tmod (wrap64 ((i : Int) + 2)) 3 < 3 := by
    rcases hcase with ⟨rfl, rfl, rfl, rfl⟩ | ⟨rfl, rfl, rfl, rfl⟩ | ⟨rfl, rfl, rfl, rfl⟩
    · have t1 : Int.tmod (wrap64 (((0 : Nat) : Int) + 1)) 3 = 1 := by decide +kernel
      have t2 : Int.tmod (wrap64 (((0 : Nat) : Int) + 2)) 3 = 2 := by decide +kernel
      rw [t1, t2]
      exact ⟨rfl, rfl, rfl, by decide, by decide, by decide, by decide⟩
    · have t1 : Int.tmod (wrap64 (((1 : Nat) : Int) + 1)) 3 = 2 := by decide +kernel
      have t2 : Int.tmod (wrap64 (((1 : Nat) : Int) + 2)) 3 = 0 := by decide +kernel
      rw [t1, t2]
      exact ⟨rfl, rfl, rfl, by decide, by decide, by decide, by decide⟩
    · have t1 : Int.tmod (wrap64 (((2 : Nat) : Int) + 1)) 3 = 0 := by decide +kernel
      have t2 : Int.tmod (wrap64 (((2 : Nat) : Int) + 2)) 3 = 1 := by decide +kernel
      rw [t1, t2]
      exact ⟨rfl, rfl, rfl, by decide, by decide, by decide, by decide⟩
  obtain ⟨e1, e2, e3, e4, e5, e6, e7⟩ := e1
  have ho5 := ho.2.2.2.2
  have hbig := big_product ha hb hc
  have hsort : ¬ 3 * a * b - c > 1000000000 → spec_mkSort.f a b (3 * a * b - c) = some (srt a b (3 * a * b - c)) := fun h2 => mkSort_srt a b _ (by clear e1 e2 e3 e4 e5 e6 e7 wq q1 q2 hcase ho5; omega) (by clear e1 e2 e3 e4 e5 e6 e7 wq q1 q2 hcase ho5; omega) (by clear e1 e2 e3 e4 e5 e6 e7 wq q1 q2 hcase ho5; omega)
  have hres : mvOf x y z i = if 3 * a * b - c > 1000000000 then ([], false) else (srt a b (3 * a * b - c), true) := by unfold mvOf; rw [hR.n, hR.mv]
  rw [hres]
  unfold spec_mkMove.f
  simp only [hl, e1, e2, e3, e4, e5, e6, e7, hb0, hi0, hi3, ho5, wq, if_true, if_false]
  by_cases h1 : a > 1000000000 / b
  · have h2 := hbig h1
    simp only [h1, h2, if_true]
  · by_cases h2 : 3 * a * b - c > 1000000000
    · simp only [h1, h2, if_true, if_false]
    · simp only [h1, h2, if_false, hsort h2, Option.bind_some]
end Go.Proofs.Ytkdgpbcecnmdhaa.P

-- UmkBelow
namespace Go.Proofs.Ytkdgpbcecnmdhaa.P
set_option linter.unusedVariables false
set_option linter.unusedSimpArgs false
open Go.RowKit Go.Proofs.YtkdgpbcecnmdhaaW.PrintWords Go.Proofs.YtkdgpbcecnmdhaaW.PrintLast Go.Proofs.YtkdgpbcecnmdhaaW.PrintMore

theorem mk_three {l : List Int} (h : isMk l = true) : ∃ x y z, l = [x, y, z] := by
  match l, h with
  | [x, y, z], _ => exact ⟨x, y, z, rfl⟩
/-- Above 1 1 1 the greatest number stands alone, and the other root is at most the middle one. -/
theorem below {x y z : Int} (h : isMk [x, y, z] = true) (hz : 1 < z) : y < z ∧ 3 * x * y - z ≤ y := by
  obtain ⟨h1, h2, h3, h4, h5, h6⟩ := isMk_iff.1 h
  have ho := other_root h1 h2 h3 h6
  have h7 := mkEq_iff.1 h6
  have hyz : y < z := by
    rcases Int.lt_or_le y z with h8 | h8
    · exact h8
    · obtain rfl : y = z := by omega
      -- x x + 2 y y = 3 x y y
      have e1 : x * x + 2 * (y * y) = 3 * (x * (y * y)) := by grind
      have e2 : x * x ≤ y * y := Int.mul_le_mul h4 h4 (by omega) (by omega)
      rcases Int.lt_or_le 1 x with h9 | h9
      · have e3 : 2 * (y * y) ≤ x * (y * y) := Int.mul_le_mul_of_nonneg_right (by omega) (by have := mul_one_le (a := y) (b := y) (by omega) (by omega); omega)
        have e4 := mul_one_le (a := y) (b := y) (by omega) (by omega)
        omega
      · obtain rfl : x = 1 := by omega
        have e4 : y * y = 1 := by omega
        have e5 : 2 * y ≤ y * y := Int.mul_le_mul_of_nonneg_right (show (2 : Int) ≤ y by omega) (by omega)
        omega
  refine ⟨hyz, ?_⟩
  rcases Int.lt_or_le y (3 * x * y - z) with h8 | h8
  · have e1 : (z - y) * (3 * x * y - z - y) = x * x + 2 * (y * y) - 3 * (x * (y * y)) := by grind
    have e2 : 0 < (z - y) * (3 * x * y - z - y) := Int.mul_pos (by omega) (by omega)
    have e3 : x * x ≤ y * y := Int.mul_le_mul h4 h4 (by omega) (by omega)
    have e4 : y * y ≤ x * (y * y) := by
      have := Int.mul_le_mul_of_nonneg_right (show 1 ≤ x by omega) (show 0 ≤ y * y by have := mul_one_le (a := y) (b := y) (by omega) (by omega); omega)
      omega
    omega
  · exact h8
end Go.Proofs.Ytkdgpbcecnmdhaa.P

-- UmkUp
namespace Go.Proofs.Ytkdgpbcecnmdhaa.P
set_option linter.unusedVariables false
set_option linter.unusedSimpArgs false
open Go.RowKit Go.Proofs.YtkdgpbcecnmdhaaW.PrintWords Go.Proofs.YtkdgpbcecnmdhaaW.PrintLast Go.Proofs.YtkdgpbcecnmdhaaW.PrintMore

/-- The triples above, up to a bound. -/
def upsL (most : Int) : List Int → List (List Int)
  | [x, y, z] => (if 3 * x * z - y ≤ most then [[x, z, 3 * x * z - y]] else []) ++ (if 3 * y * z - x ≤ most ∧ x ≠ y then [[y, z, 3 * y * z - x]] else [])
  | _ => []
theorem up_big {x y z : Int} (h : isMk [x, y, z] = true) : 2 * z ≤ 3 * x * z - y ∧ 3 * x * z - y ≤ 3 * y * z - x ∧ 3 * z * x = 3 * x * z := by
  obtain ⟨h1, h2, h3, h4, h5, h6⟩ := isMk_iff.1 h
  have e0 : 3 * z * x = 3 * x * z := by grind
  have e1 : 3 * x * z = 3 * (x * z) := Int.mul_assoc _ _ _
  have e2 : z ≤ x * z := by
    have := Int.mul_le_mul_of_nonneg_right (show 1 ≤ x by omega) (show 0 ≤ z by omega)
    omega
  have e3 : 3 * y * z = 3 * (y * z) := Int.mul_assoc _ _ _
  have e4 : x * z ≤ y * z := Int.mul_le_mul_of_nonneg_right h4 (by omega)
  refine ⟨?_, ?_, e0⟩ <;> omega
theorem mv_one {x y z : Int} (h : isMk [x, y, z] = true) : mv x y z 1 = [x, z, 3 * x * z - y] := by
  obtain ⟨b1, b2, b3⟩ := up_big h
  obtain ⟨h1, h2, h3, h4, h5, h6⟩ := isMk_iff.1 h
  show srt z x (3 * z * x - y) = _
  rw [b3]
  generalize 3 * x * z - y = n at b1
  rcases srt_cases z x n with ⟨c1, c2, e⟩ | ⟨c1, c2, e⟩ | ⟨c1, c2, e⟩ | ⟨c1, c2, e⟩ | ⟨c1, c2, e⟩ | ⟨c1, c2, e⟩ <;> rw [e] <;> first | rfl | (exfalso; omega) | (simp only [List.cons.injEq, and_true, true_and]; omega)
theorem mv_zero {x y z : Int} (h : isMk [x, y, z] = true) : mv x y z 0 = [y, z, 3 * y * z - x] := by
  obtain ⟨b1, b2, b3⟩ := up_big h
  obtain ⟨h1, h2, h3, h4, h5, h6⟩ := isMk_iff.1 h
  show srt y z (3 * y * z - x) = _
  generalize 3 * y * z - x = n at b2
  have hn : 2 * z ≤ n := by omega
  rcases srt_cases y z n with ⟨c1, c2, e⟩ | ⟨c1, c2, e⟩ | ⟨c1, c2, e⟩ | ⟨c1, c2, e⟩ | ⟨c1, c2, e⟩ | ⟨c1, c2, e⟩ <;> rw [e] <;> first | rfl | (exfalso; omega) | (simp only [List.cons.injEq, and_true, true_and]; omega)
/-- Behind the move of the greatest number none is greater, but for 1 1 1. -/
theorem mv_back {x y z : Int} (h : isMk [x, y, z] = true) : (1 < z ∧ ¬ z < rd (mv x y z 2) 2) ∨ (x = 1 ∧ y = 1 ∧ z = 1) := by
  obtain ⟨h1, h2, h3, h4, h5, h6⟩ := isMk_iff.1 h
  by_cases hz : 1 < z
  · left
    refine ⟨hz, ?_⟩
    obtain ⟨b1, b2⟩ := below h hz
    show ¬ z < rd (srt x y (3 * x * y - z)) 2
    rw [srt_two]
    unfold hi2
    split <;> split <;> omega
  · right
    omega
theorem upsL_sorted (most : Int) {l : List Int} (h : isMk l = true) : (upsL most l).Pairwise fun a b => cmpL a b < 0 := by
  obtain ⟨x, y, z, rfl⟩ := mk_three h
  obtain ⟨h1, h2, h3, h4, h5, h6⟩ := isMk_iff.1 h
  show ((if 3 * x * z - y ≤ most then [[x, z, 3 * x * z - y]] else []) ++ (if 3 * y * z - x ≤ most ∧ x ≠ y then [[y, z, 3 * y * z - x]] else [])).Pairwise _
  by_cases c1 : 3 * x * z - y ≤ most
  · by_cases c2 : 3 * y * z - x ≤ most ∧ x ≠ y
    · rw [if_pos c1, if_pos c2]
      have : x < y := by omega
      simp [cmpL, this]
    · rw [if_pos c1, if_neg c2]
      simp
  · by_cases c2 : 3 * y * z - x ≤ most ∧ x ≠ y
    · rw [if_neg c1, if_pos c2]
      simp
    · rw [if_neg c1, if_neg c2]
      simp
theorem upsL_mk {most : Int} (hm : most ≤ 1000000000) {l u : List Int} (h : isMk l = true) (hu : u ∈ upsL most l) : isMk u = true ∧ 2 * rd l 2 ≤ rd u 2 ∧ rd u 2 ≤ most := by
  obtain ⟨x, y, z, rfl⟩ := mk_three h
  obtain ⟨b1, b2, b3⟩ := up_big h
  replace hu : u ∈ (if 3 * x * z - y ≤ most then [[x, z, 3 * x * z - y]] else []) ++ (if 3 * y * z - x ≤ most ∧ x ≠ y then [[y, z, 3 * y * z - x]] else []) := hu
  rcases List.mem_append.1 hu with hu | hu
  · split at hu
    · obtain rfl := List.mem_singleton.1 hu
      have := mv_is h 1 (by omega) (by show 3 * z * x - y ≤ _; omega)
      rw [mv_one h] at this
      exact ⟨this, b1, by assumption⟩
    · simp at hu
  · split at hu
    · rename_i c
      obtain rfl := List.mem_singleton.1 hu
      have := mv_is h 0 (by omega) (by show 3 * y * z - x ≤ _; omega)
      rw [mv_zero h] at this
      exact ⟨this, by show 2 * z ≤ 3 * y * z - x; omega, c.1⟩
    · simp at hu

theorem sameS_from (a b : List Int) (hl : a.length = b.length) (hn : a.length ≤ 4611686018427387904) (d : Nat) : ∀ i : Nat, i + d = a.length → a.take i = b.take i → Ev (fun k => spec_l1Same.l0 k a b (a.length : Int) (i : Int)) (decide (a = b)) := by
  induction d with
  | zero =>
    intro i hi ht
    rw [List.take_of_length_le (by omega), List.take_of_length_le (by omega)] at ht
    refine Ev.step (fun k => by simp only [spec_l1Same.l0]; rw [if_neg (by omega)]) ?_
    exact Ev.is (by rw [decide_eq_true ht])
  | succ d ih =>
    intro i hi ht
    by_cases h : rd a (i : Int) = rd b (i : Int)
    · have hr := ih (i + 1) (by omega) (by rw [List.take_succ_eq_append_getElem (by omega), List.take_succ_eq_append_getElem (by omega), ht, ← rd_lt a i (by omega), ← rd_lt b i (by omega), h])
      exact Ev.step (fun k => by simp only [spec_l1Same.l0]; rw [if_pos (by omega), if_pos (by omega), if_pos (by omega), if_pos (by omega), if_pos h, w64_succ (n := a.length) (by omega) hn]) hr
    · have hd : decide (a = b) = false := decide_eq_false (fun e => h (by rw [e]))
      exact Ev.step (f := fun _ => some false) (fun k => by simp only [spec_l1Same.l0]; rw [if_pos (by omega), if_pos (by omega), if_pos (by omega), if_pos (by omega), if_neg h]) (Ev.is (by rw [hd]))
theorem sameS_ev (a b : List Int) (hn : a.length ≤ 4611686018427387904) : Ev (fun k => spec_l1Same.f k a b) (decide (a = b)) := by
  unfold spec_l1Same.f
  by_cases hl : a.length = b.length
  · simp only [hl, if_true]
    have := sameS_from a b hl hn a.length 0 (by omega) rfl
    rw [hl] at this
    exact this
  · have h : ¬ (a.length : Int) = (b.length : Int) := by omega
    simp only [h, if_false]
    have hd : decide (a = b) = false := decide_eq_false (fun e => hl (by rw [e]))
    exact Ev.is (by rw [hd])
theorem mkUp_ev {l : List Int} (h : isMk l = true) : Ev (fun k => spec_mkUp.f k l) (upsL 1000000000 l) := by
  obtain ⟨x, y, z, rfl⟩ := mk_three h
  obtain ⟨b1, b2, b3⟩ := up_big h
  obtain ⟨h1, h2, h3, h4, h5, h6⟩ := isMk_iff.1 h
  have m1 := mkMove_is h 1 (by omega)
  have m0 := mkMove_is h 0 (by omega)
  have e1 : mvOf x y z 1 = if 3 * x * z - y > 1000000000 then ([], false) else ([x, z, 3 * x * z - y], true) := by
    unfold mvOf
    rw [mv_one h]
    show (if 3 * z * x - y > 1000000000 then _ else _) = _
    rw [b3]
  have e0 : mvOf x y z 0 = if 3 * y * z - x > 1000000000 then ([], false) else ([y, z, 3 * y * z - x], true) := by
    unfold mvOf
    rw [mv_zero h]
    rfl
  have w1 : wrap64 (1 - 1) = 0 := by decide +kernel
  have w0 : wrap64 (0 - 1) = -1 := by decide +kernel
  have hend : ∀ o : List (List Int), Ev (fun k => spec_mkUp.l0 k [x, y, z] o (-1)) o := fun o => by
    refine Ev.step (f := fun _ => some o) (fun k => by simp only [spec_mkUp.l0]; rw [if_neg (by omega)]) (Ev.is rfl)
  have hg : ∀ n : Int, 2 * z ≤ n → n > z := fun n hn => by omega
  have hl3 : ∀ a b c : Int, (([a, b, c] : List Int).length : Int) = 3 := fun _ _ _ => rfl
  have hr2 : ∀ a b c : Int, rd [a, b, c] 2 = c := fun _ _ _ => rfl
  have hq : (2 : Int) < 3 := by decide
  unfold spec_mkUp.f
  show Ev _ ((if 3 * x * z - y ≤ 1000000000 then [[x, z, 3 * x * z - y]] else []) ++ (if 3 * y * z - x ≤ 1000000000 ∧ x ≠ y then [[y, z, 3 * y * z - x]] else []))
  have hnn : x = y → 3 * x * z - y = 3 * y * z - x := fun e => by rw [e]
  generalize 3 * x * z - y = n1 at *
  generalize 3 * y * z - x = n0 at *
  have step0 : ∀ o : List (List Int), (o = [] ∧ ¬ n0 ≤ 1000000000) ∨ o = [[x, z, n1]] → Ev (fun k => spec_mkUp.l0 k [x, y, z] o 0) (o ++ (if n0 ≤ 1000000000 ∧ x ≠ y then [[y, z, n0]] else [])) := by
    intro o ho
    by_cases c0 : n0 > 1000000000
    · rw [if_neg (by omega)]
      rw [if_pos c0] at e0
      rw [List.append_nil]
      refine Ev.step (fun k => ?_) (hend o)
      simp only [spec_mkUp.l0]
      rw [if_pos (by omega), show spec_mkMove.f [x, y, z] 0 = _ from m0, e0]
      simp only [Option.bind_some, Bool.false_eq_true, if_false, w0]
    · rw [if_neg c0] at e0
      rcases ho with ⟨rfl, h0⟩ | rfl
      · omega
      · have c2 : n0 > z := hg _ (by omega)
        have hsm := sameS_ev [x, z, n1] [y, z, n0] (show 3 ≤ 4611686018427387904 by decide)
        have hrd : rd_L1 [[x, z, n1]] 0 = [x, z, n1] := rfl
        have hne : ¬ ((([[x, z, n1]] : List (List Int)).length : Int) = 0) := by simp
        have hp : 0 < ((([[x, z, n1]] : List (List Int)).length : Int)) := by simp
        have hlim : ([[x, z, n1]] : List (List Int)).length < 5864062014805 := by simp
        have hst : ∀ r, Ev (fun k => (spec_l1Same.f k [x, z, n1] [y, z, n0]).bind fun t => if t = true then spec_mkUp.l0 k [x, y, z] [[x, z, n1]] (-1) else spec_mkUp.l0 k [x, y, z] ([[x, z, n1]] ++ [[y, z, n0]]) (-1)) r → Ev (fun k => spec_mkUp.l0 k [x, y, z] [[x, z, n1]] 0) r := fun r hr => by
          refine Ev.step (fun k => ?_) hr
          simp only [spec_mkUp.l0]
          rw [if_pos (by omega), show spec_mkMove.f [x, y, z] 0 = _ from m0, e0]
          simp only [Option.bind_some, if_true, hl3, hr2, hq, c2, hne, if_false, hrd, hp, hlim, w0]
        refine hst _ (Ev.bind hsm ?_)
        by_cases hxy : x = y
        · have hd : decide ([x, z, n1] = [y, z, n0]) = true := by
            have hn : n1 = n0 := hnn hxy
            rw [hxy, hn]; exact decide_eq_true rfl
          rw [hd, if_neg (by intro hh; exact hh.2 hxy), List.append_nil]
          simp only [if_true]
          exact hend _
        · have hd : decide ([x, z, n1] = [y, z, n0]) = false := decide_eq_false (fun hh => hxy (List.cons.inj hh).1)
          rw [hd, if_pos ⟨by omega, hxy⟩]
          simp only [Bool.false_eq_true, if_false]
          exact hend _
  by_cases c1 : n1 > 1000000000
  · rw [if_pos c1] at e1
    rw [if_neg (show ¬ n1 ≤ 1000000000 by omega), List.nil_append]
    refine Ev.step (fun k => ?_) (step0 [] (.inl ⟨rfl, by omega⟩))
    simp only [spec_mkUp.l0]
    rw [if_pos (by omega), show spec_mkMove.f [x, y, z] 1 = _ from m1, e1]
    simp only [Option.bind_some, Bool.false_eq_true, if_false, w1]
  · rw [if_neg c1] at e1
    rw [if_pos (show n1 ≤ 1000000000 by omega)]
    refine Ev.step (fun k => ?_) (step0 [[x, z, n1]] (.inr rfl))
    have c2 : n1 > z := hg _ b1
    simp only [spec_mkUp.l0]
    rw [if_pos (by omega), show spec_mkMove.f [x, y, z] 1 = _ from m1, e1]
    simp only [Option.bind_some, if_true, hl3, hr2, hq, c2, w1, List.length_nil, List.nil_append]
    rfl

/-- impl.ups at a triple. -/
theorem ups_ev {most : Int} (hm : most ≤ 1000000000) {l : List Int} (h : isMk l = true) : Ev (fun k => impl_ups.f k l most) (upsL most l) := by
  have hs := upsL_sorted most h
  obtain ⟨x, y, z, rfl⟩ := mk_three h
  obtain ⟨b1, b2, b3⟩ := up_big h
  have hb := mv_back h
  obtain ⟨h1, h2, h3, h4, h5, h6⟩ := isMk_iff.1 h
  have m0 := moved_is h 0 (by omega)
  have m1 := moved_is h 1 (by omega)
  have m2 := moved_is h 2 (by omega)
  rw [mv_zero h] at m0
  rw [mv_one h] at m1
  have w0 : wrap64 (0 + 1) = 1 := by decide +kernel
  have w1 : wrap64 (1 + 1) = 2 := by decide +kernel
  have w2 : wrap64 (2 + 1) = 3 := by decide +kernel
  have hl3 : ∀ a b c : Int, (([a, b, c] : List Int).length : Int) = 3 := fun _ _ _ => rfl
  have hl3n : ∀ a b c : Int, ([a, b, c] : List Int).length < 9223372036854775807 := fun _ _ _ => by show 3 < 9223372036854775807; decide
  have hr2 : ∀ a b c : Int, rd [a, b, c] 2 = c := fun _ _ _ => rfl
  have hq : (2 : Int) < 3 := by decide
  -- one step: the move's triple is taken, or not
  have hstep : ∀ (i j : Int) (a b c : Int) (o : List (List Int)) (r : List (List Int)), i < 3 → wrap64 (i + 1) = j → impl_moved.f [x, y, z] i = some [a, b, c] → o.length < 1000000000 → Ev (fun k => impl_ups.l0 k [x, y, z] most (if z < c ∧ c ≤ most then o ++ [[a, b, c]] else o) j) r → Ev (fun k => impl_ups.l0 k [x, y, z] most o i) r := by
    intro i j a b c o r hi hj hm ho hr
    refine Ev.step (fun k => ?_) hr
    simp only [impl_ups.l0]
    rw [if_pos hi, hm]
    simp only [Option.bind_some, hl3, hl3n, hr2, hq, if_true, hj, ho]
    by_cases c1 : z < c
    · by_cases c2 : c ≤ most
      · simp only [c1, c2, and_self, if_true]
      · simp only [c1, c2, and_false, if_true, if_false]
    · simp only [c1, false_and, if_false]
  obtain ⟨a2, b2', c2, e2⟩ := mv_three x y z 2
  rw [e2] at m2 hb
  have hend : ∀ o : List (List Int), sortDedup o = upsL most [x, y, z] → Ev (fun k => impl_ups.l0 k [x, y, z] most o 3) (upsL most [x, y, z]) := fun o ho => by
    refine Ev.step (f := fun _ => some (upsL most [x, y, z])) (fun k => by simp only [impl_ups.l0]; rw [if_neg (by omega), ho]) (Ev.is rfl)
  have hlast : ∀ o : List (List Int), o.length < 1000000000 → (∀ u, u ∈ o ↔ u ∈ upsL most [x, y, z]) → Ev (fun k => impl_ups.l0 k [x, y, z] most o 2) (upsL most [x, y, z]) := by
    intro o ho hu
    refine hstep 2 3 a2 b2' c2 o _ (by decide) w2 m2 ho (hend _ (sortDedup_is hs fun u => ?_).symm)
    rcases hb with ⟨hz, hn⟩ | ⟨rfl, rfl, rfl⟩
    · rw [if_neg (fun hh => hn hh.1)]
      exact (hu u).symm
    · have e3 : mv 1 1 1 2 = [1, 1, 2] := by decide
      rw [e3] at e2
      obtain ⟨rfl, rfl, rfl⟩ : a2 = 1 ∧ b2' = 1 ∧ c2 = 2 := by simpa [eq_comm] using e2
      by_cases hc : (1 : Int) < 2 ∧ (2 : Int) ≤ most
      · rw [if_pos hc]
        have hup : upsL most [1, 1, 1] = [[1, 1, 2]] := by
          show (if 3 * 1 * 1 - 1 ≤ most then [[1, 1, 3 * 1 * 1 - 1]] else []) ++ (if 3 * 1 * 1 - 1 ≤ most ∧ (1 : Int) ≠ 1 then [[1, 1, 3 * 1 * 1 - 1]] else []) = _
          rw [if_pos (by omega), if_neg (by intro hh; exact hh.2 rfl)]
          rfl
        rw [List.mem_append, hu u, hup]
        simp
      · rw [if_neg hc]
        exact (hu u).symm
  unfold impl_ups.f
  refine hstep 0 1 y z (3 * y * z - x) [] _ (by decide) w0 m0 (by simp) ?_
  refine hstep 1 2 x z (3 * x * z - y) _ _ (by decide) w1 m1 (by split <;> simp) ?_
  refine hlast _ (by split <;> split <;> simp) fun u => ?_
  show _ ↔ u ∈ (if 3 * x * z - y ≤ most then [[x, z, 3 * x * z - y]] else []) ++ (if 3 * y * z - x ≤ most ∧ x ≠ y then [[y, z, 3 * y * z - x]] else [])
  have hxy : x = y → 3 * x * z - y = 3 * y * z - x := fun e => by rw [e]
  generalize 3 * x * z - y = n1 at *
  generalize 3 * y * z - x = n0 at *
  by_cases c1 : n1 ≤ most
  · by_cases c0 : n0 ≤ most
    · rw [if_pos (show z < n1 ∧ n1 ≤ most by omega), if_pos (show z < n0 ∧ n0 ≤ most by omega), if_pos c1]
      by_cases e : x = y
      · rw [if_neg (fun hh => hh.2 e)]
        subst e
        rw [hxy rfl]
        simp
      · rw [if_pos ⟨c0, e⟩]
        simp [or_comm]
    · rw [if_pos (show z < n1 ∧ n1 ≤ most by omega), if_neg (fun hh => c0 hh.2), if_pos c1, if_neg (fun hh => c0 hh.1)]
      simp
  · have c0 : ¬ n0 ≤ most := by omega
    rw [if_neg (fun hh => c1 hh.2), if_neg (fun hh => c0 hh.2), if_neg c1, if_neg (fun hh => c0 hh.1)]
    simp
end Go.Proofs.Ytkdgpbcecnmdhaa.P

-- UmkTree
namespace Go.Proofs.Ytkdgpbcecnmdhaa.P
set_option linter.unusedVariables false
set_option linter.unusedSimpArgs false
open Go.RowKit Go.Proofs.YtkdgpbcecnmdhaaW.PrintWords Go.Proofs.YtkdgpbcecnmdhaaW.PrintLast Go.Proofs.YtkdgpbcecnmdhaaW.PrintMore

/-- A triple and all above it, in depth. -/
def dfs (m : Int) : Nat → List Int → List (List Int)
  | 0, t => [t]
  | n + 1, t => t :: (upsL m t).flatMap (dfs m n)
def treeOf (m : Int) (t : List Int) : List (List Int) := dfs m 31 t
theorem mk_pos_ {l : List Int} (h : isMk l = true) : 1 ≤ rd l 2 ∧ rd l 2 ≤ 1000000000 := by
  obtain ⟨x, y, z, rfl⟩ := mk_three h
  obtain ⟨h1, h2, h3, h4, h5, h6⟩ := isMk_iff.1 h
  exact h3
theorem mk_len_ {l : List Int} (h : isMk l = true) : l.length = 3 := by
  obtain ⟨x, y, z, rfl⟩ := mk_three h
  rfl
theorem upsL_len (m : Int) {t : List Int} (h : isMk t = true) : (upsL m t).length ≤ 2 := by
  obtain ⟨x, y, z, rfl⟩ := mk_three h
  have h : ∀ (p q : Prop) [Decidable p] [Decidable q] (a b : List Int), ((if p then [a] else []) ++ (if q then [b] else [])).length ≤ 2 := by
    intro p q _ _ a b
    by_cases hp : p <;> by_cases hq : q <;> simp [hp, hq]
  exact h _ _ _ _
theorem upsL_nil {m : Int} (hm : m ≤ 1000000000) {t : List Int} (h : isMk t = true) (hb : m < 2 * rd t 2) : upsL m t = [] := by
  rw [List.eq_nil_iff_forall_not_mem]
  intro u hu
  have := upsL_mk hm h hu
  omega
theorem flat_congr {l : List (List Int)} {f g : List Int → List (List Int)} (h : ∀ x ∈ l, f x = g x) : l.flatMap f = l.flatMap g := by
  induction l with
  | nil => rfl
  | cons x l ih => simp only [List.flatMap_cons, h x List.mem_cons_self, ih (fun y hy => h y (List.mem_cons_of_mem _ hy))]
theorem dfs_stable {m : Int} (hm : m ≤ 1000000000) : ∀ (n : Nat) (t : List Int), isMk t = true → m < rd t 2 * 2 ^ (n + 1) → dfs m n t = dfs m (n + 1) t
  | 0, t, h, hb => by
    show [t] = t :: (upsL m t).flatMap (dfs m 0)
    rw [upsL_nil hm h (by omega)]
    rfl
  | n + 1, t, h, hb => by
    show t :: (upsL m t).flatMap (dfs m n) = t :: (upsL m t).flatMap (dfs m (n + 1))
    congr 1
    refine flat_congr fun u hu => ?_
    obtain ⟨h1, h2, h3⟩ := upsL_mk hm h hu
    refine dfs_stable hm n u h1 ?_
    have e : rd t 2 * 2 ^ (n + 1 + 1) = (2 * rd t 2) * 2 ^ (n + 1) := by rw [Int.pow_succ 2 (n + 1)]; generalize (2 : Int) ^ (n + 1) = q; grind
    have hp : (0 : Int) ≤ 2 ^ (n + 1) := Int.le_of_lt (Int.pow_pos (by decide))
    have := Int.mul_le_mul_of_nonneg_right h2 hp
    omega
theorem treeOf_is {m : Int} (hm : m ≤ 1000000000) {t : List Int} (h : isMk t = true) : treeOf m t = t :: (upsL m t).flatMap (treeOf m) := by
  have hp := mk_pos_ h
  have := dfs_stable hm 31 t h (by
    rw [show (2 : Int) ^ (31 + 1) = 4294967296 by decide]
    omega)
  exact this
theorem dfs_mk {m : Int} (hm : m ≤ 1000000000) : ∀ (n : Nat) (t : List Int), isMk t = true → ∀ x ∈ dfs m n t, isMk x = true
  | 0, t, h, x, hx => by rw [List.mem_singleton.1 hx]; exact h
  | n + 1, t, h, x, hx => by
    rcases List.mem_cons.1 hx with rfl | hx
    · exact h
    · obtain ⟨u, hu, hx⟩ := List.mem_flatMap.1 hx
      exact dfs_mk hm n u (upsL_mk hm h hu).1 x hx
theorem dfs_len {m : Int} (hm : m ≤ 1000000000) : ∀ (n : Nat) (t : List Int), isMk t = true → (dfs m n t).length + 1 ≤ 2 ^ (n + 1)
  | 0, t, h => by simp [dfs]
  | n + 1, t, h => by
    have hl := upsL_len m h
    have hmem := fun u (hu : u ∈ upsL m t) => dfs_len hm n u (upsL_mk hm h hu).1
    rw [dfs, Nat.pow_succ]
    generalize upsL m t = us at hl hmem
    match us, hl, hmem with
    | [], _, _ => simp; have := Nat.pow_pos (n := n + 1) (show 0 < 2 by decide); omega
    | [a], _, hmem => have := hmem a (by simp); simp; omega
    | [a, b], _, hmem => have h1 := hmem a (by simp); have h2 := hmem b (by simp); simp; omega
    | _ :: _ :: _ :: _, hl, _ => simp at hl
theorem treeOf_len {m : Int} (hm : m ≤ 1000000000) {t : List Int} (h : isMk t = true) : (treeOf m t).length ≤ 4294967296 := by
  have := dfs_len hm 31 t h
  unfold treeOf
  omega
theorem sortM_congr {l l' : List (List Int)} (h : l.Perm l') : sortM l = sortM l' := sortM_is ((sortM_perm l).trans h) (sortM_sorted l)
theorem mk_prM {x : List Int} (h : isMk x = true) : prM x = true := by
  have h1 := mk_pos_ h
  have h2 := mk_len_ h
  rw [prM_iff]
  omega
theorem rdL1_mid (a : List (List Int)) (t : List Int) (b : List (List Int)) : rd_L1 (a ++ t :: b) (a.length : Int) = t := by
  simp [rd_L1]

/-- The search in breadth. -/
theorem bfs {m : Int} (hm : m ≤ 1000000000) : ∀ (N : Nat) (q done : List (List Int)), (∀ x ∈ done, isMk x = true) → (∀ x ∈ q, isMk x = true) → (q.flatMap (treeOf m)).length ≤ N → done.length + (q.flatMap (treeOf m)).length ≤ 5000000000 → Ev (fun k => impl_markovs.l0 k m (done ++ q) (done.length : Int)) (sortM (done ++ q.flatMap (treeOf m)))
  | N, [], done, hd, hq, hN, hT => by
    have hall : done.all prM = true := List.all_eq_true.2 fun x hx => mk_prM (hd x hx)
    refine Ev.step (f := fun _ => some (sortM done)) (fun k => ?_) (Ev.is (by simp))
    simp only [List.append_nil, impl_markovs.l0]
    rw [if_neg (by omega), if_pos hall]
  | 0, t :: q, done, hd, hq, hN, hT => by
    have := treeOf_is hm (hq t List.mem_cons_self)
    simp [this] at hN
  | N + 1, t :: q, done, hd, hq, hN, hT => by
    have ht := hq t List.mem_cons_self
    have hu := ups_ev hm ht
    have hD := treeOf_is hm ht
    have hfl : ((t :: q).flatMap (treeOf m)).Perm (t :: (q ++ upsL m t).flatMap (treeOf m)) := by
      rw [List.flatMap_cons, hD, List.cons_append, List.flatMap_append]
      exact (List.perm_append_comm).cons t
    have hlen := hfl.length_eq
    have hql : ∀ l : List (List Int), (∀ x ∈ l, isMk x = true) → l.length ≤ (l.flatMap (treeOf m)).length := by
      intro l hl
      induction l with
      | nil => simp
      | cons x l ih =>
        have := treeOf_is hm (hl x List.mem_cons_self)
        have h2 := ih (fun y hy => hl y (List.mem_cons_of_mem _ hy))
        rw [List.flatMap_cons, this]
        simp only [List.length_append, List.length_cons]
        omega
    have hqu : ∀ x ∈ q ++ upsL m t, isMk x = true := fun x hx => by
      rcases List.mem_append.1 hx with h | h
      · exact hq x (List.mem_cons_of_mem _ h)
      · exact (upsL_mk hm ht h).1
    have hq2 := hql _ hqu
    rw [List.length_append] at hq2
    rw [List.length_cons] at hlen
    have ih := bfs hm N (q ++ upsL m t) (done ++ [t]) (fun x hx => by
      rcases List.mem_append.1 hx with h | h
      · exact hd x h
      · rw [List.mem_singleton.1 h]; exact ht) hqu (by omega) (by rw [List.length_append, List.length_singleton]; omega)
    have he : sortM ((done ++ [t]) ++ (q ++ upsL m t).flatMap (treeOf m)) = sortM (done ++ (t :: q).flatMap (treeOf m)) := by
      refine sortM_congr ?_
      rw [List.append_assoc]
      exact (hfl.symm).append_left done
    rw [he] at ih
    have hlt : (done.length : Int) < ((done ++ t :: q).length : Int) := by rw [List.length_append, List.length_cons]; omega
    have hw : wrap64 ((done.length : Int) + 1) = ((done ++ [t]).length : Int) := by
      rw [w64 (by omega) (by omega), List.length_append, List.length_singleton]
      omega
    refine Ev.step (f := fun k => (impl_ups.f k t m).bind fun us => if (done ++ t :: q).length + us.length < 5864062014805 then impl_markovs.l0 k m ((done ++ t :: q) ++ us) (wrap64 ((done.length : Int) + 1)) else none) (fun k => ?_) (Ev.bind hu ?_)
    · simp only [impl_markovs.l0]
      rw [if_pos hlt, if_pos (by omega), rdL1_mid]
    · have hc : (done ++ t :: q).length + (upsL m t).length < 5864062014805 := by rw [List.length_append, List.length_cons]; omega
      have he2 : (done ++ t :: q) ++ upsL m t = (done ++ [t]) ++ (q ++ upsL m t) := by simp
      simp only [hc, if_true, hw, he2]
      exact ih
theorem one_mk : isMk [1, 1, 1] = true := by decide
def allUpTo (m : Int) : List (List Int) := sortM (treeOf m [1, 1, 1])
theorem markovs_ev {m : Int} (hm : m ≤ 1000000000) : Ev (fun k => impl_markovs.f k m) (allUpTo m) := by
  have hl := treeOf_len hm one_mk
  have h := bfs hm 4294967296 [[1, 1, 1]] [] (by simp) (by intro x hx; rw [List.mem_singleton.1 hx]; exact one_mk) (by simpa using hl) (by simp; omega)
  unfold impl_markovs.f allUpTo
  simpa using h
end Go.Proofs.Ytkdgpbcecnmdhaa.P

-- UmkAll
namespace Go.Proofs.Ytkdgpbcecnmdhaa.P
set_option linter.unusedVariables false
set_option linter.unusedSimpArgs false
open Go.RowKit Go.Proofs.YtkdgpbcecnmdhaaW.PrintWords Go.Proofs.YtkdgpbcecnmdhaaW.PrintLast Go.Proofs.YtkdgpbcecnmdhaaW.PrintMore

theorem rdL1_lt (L : List (List Int)) (i : Nat) (hi : i < L.length) : rd_L1 L (i : Int) = L[i] := by
  simp [rd_L1, List.getD_eq_getElem?_getD, hi]
theorem cfM_three (a b c x y z : Int) : cfM [a, b, c] [x, y, z] < 0 ↔ c < z ∨ (c = z ∧ (a < x ∨ (a = x ∧ b < y))) := by
  have e1 : rd [a, b, c] 2 = c := rfl
  have e2 : rd [x, y, z] 2 = z := rfl
  unfold cfM
  rw [e1, e2]
  by_cases h : c = z
  · rw [if_pos h]
    simp only [cmpL]
    split
    · omega
    · split
      · omega
      · split
        · omega
        · split
          · omega
          · split
            · omega
            · split <;> omega
  · rw [if_neg h]
    omega
/-- Put in at a place. -/
theorem put_is {L : List (List Int)} {t : List Int} {j : Nat} (hs : L.Pairwise fun a b => ¬ cfM b a < 0) (hj : j ≤ L.length) (hlo : ∀ i, (h : i < L.length) → i < j → cfM L[i] t < 0) (hhi : ∀ h : j < L.length, ¬ cfM L[j] t < 0) : L.take j ++ [t] ++ L.drop j = sortM (t :: L) := by
  refine sortM_is ?_ ?_
  · rw [List.append_assoc]
    refine List.perm_append_comm.trans ?_
    rw [List.append_assoc]
    refine (List.Perm.append_left [t] (List.perm_append_comm)).trans ?_
    rw [List.take_append_drop]
    exact .refl _
  · have hn := cfM_total.swo.ntrans
    simp only [decide_eq_false_iff_not] at hn
    have htd := hs
    rw [← List.take_append_drop j L, List.pairwise_append] at htd
    obtain ⟨h1, h2, h3⟩ := htd
    have hta : ∀ a ∈ L.take j, ¬ cfM t a < 0 := by
      intro a ha
      obtain ⟨i, hi, rfl⟩ := List.getElem_of_mem ha
      have hi2 : i < j ∧ i < L.length := by rw [List.length_take] at hi; omega
      have h4 := hlo i hi2.2 hi2.1
      have h5 := (cfM_total.anti L[i] t).1 h4
      rw [List.getElem_take]
      omega
    have htb : ∀ b ∈ L.drop j, ¬ cfM b t < 0 := by
      intro b hb
      obtain ⟨i, hi, rfl⟩ := List.getElem_of_mem hb
      rw [List.length_drop] at hi
      have h4 := hhi (by omega)
      rw [List.getElem_drop]
      rcases Nat.eq_zero_or_pos i with e | e
      · subst e; exact h4
      · have h5 := List.pairwise_iff_getElem.1 hs j (j + i) (by omega) (by omega) (by omega)
        exact hn _ _ _ h5 h4
    rw [List.append_assoc, List.pairwise_append]
    refine ⟨h1, ?_, ?_⟩
    · show ([t] ++ L.drop j).Pairwise _
      rw [List.singleton_append, List.pairwise_cons]
      exact ⟨htb, h2⟩
    · intro a ha b hb
      rcases List.mem_append.1 hb with hb | hb
      · rw [List.mem_singleton.1 hb]; exact hta a ha
      · exact h3 a ha b hb
theorem mkPut_ev {L : List (List Int)} {t : List Int} (hL : ∀ x ∈ L, isMk x = true) (ht : isMk t = true) (hs : L.Pairwise fun a b => ¬ cfM b a < 0) (hl : L.length ≤ 5000000000) : Ev (fun k => spec_mkPut.f k L t) (sortM (t :: L)) := by
  obtain ⟨x, y, z, rfl⟩ := mk_three ht
  have hlx : (([x, y, z] : List Int).length : Int) = 3 := rfl
  have r0 : rd [x, y, z] 0 = x := rfl
  have r1 : rd [x, y, z] 1 = y := rfl
  have r2 : rd [x, y, z] 2 = z := rfl
  have q0 : (0 : Int) < 3 := by decide
  have q1 : (1 : Int) < 3 := by decide
  have q2 : (2 : Int) < 3 := by decide
  have jt : ∀ (j : Nat) (r : List (List Int)), j < L.length → Ev (fun k => spec_mkPut.l0 k L [x, y, z] ((j + 1 : Nat) : Int)) r → Ev (fun k => spec_mkPut.j1 k L [x, y, z] (j : Int) true) r := by
    intro j r hj hr
    refine Ev.step (fun k => ?_) hr
    simp only [spec_mkPut.j1, if_true]
    rw [w64_succ hj (by omega)]
  have jf : ∀ (j : Nat), j ≤ L.length → L.take j ++ [[x, y, z]] ++ L.drop j = sortM ([x, y, z] :: L) → Ev (fun k => spec_mkPut.j1 k L [x, y, z] (j : Int) false) (sortM ([x, y, z] :: L)) := by
    intro j hj hp
    have c2 : (0 : Int) ≤ (j : Int) := by omega
    have c3 : (j : Int) ≤ (L.length : Int) := by omega
    have c4 : (L.take j).length < 5864062014805 := by rw [List.length_take]; omega
    have c5 : (L.take j ++ [[x, y, z]]).length + (L.drop j).length < 5864062014805 := by simp only [List.length_append, List.length_take, List.length_drop, List.length_singleton]; omega
    refine Ev.step (f := fun _ => some (sortM ([x, y, z] :: L))) (fun k => ?_) (Ev.is rfl)
    simp only [spec_mkPut.j1, Bool.false_eq_true, c2, c3, if_true, if_false, Option.bind_some, Int.toNat_natCast, List.nil_append, List.length_nil, Nat.zero_add, c4, c5, hp]
  have go : ∀ (d j : Nat), j + d = L.length → (∀ i, (h : i < L.length) → i < j → cfM L[i] [x, y, z] < 0) → Ev (fun k => spec_mkPut.l0 k L [x, y, z] (j : Int)) (sortM ([x, y, z] :: L)) := by
    intro d
    induction d with
    | zero =>
      intro j hj hlo
      have hp := put_is hs (j := j) (by omega) hlo (fun h => by omega)
      have c1 : ¬ (j : Int) < (L.length : Int) := by omega
      refine Ev.step (fun k => ?_) (jf j (by omega) hp)
      simp only [spec_mkPut.l0, c1, if_false]
    | succ d ih =>
      intro j hj hlo
      have hjl : j < L.length := by omega
      obtain ⟨a, b, c, e⟩ := mk_three (hL L[j] (List.getElem_mem hjl))
      have c1 : (j : Int) < (L.length : Int) := by omega
      have c2 : (0 : Int) ≤ (j : Int) := by omega
      have hrl : rd_L1 L (j : Int) = [a, b, c] := by rw [rdL1_lt L j hjl, e]
      have hla : (([a, b, c] : List Int).length : Int) = 3 := rfl
      have s0 : rd [a, b, c] 0 = a := rfl
      have s1 : rd [a, b, c] 1 = b := rfl
      have s2 : rd [a, b, c] 2 = c := rfl
      have hcf := cfM_three a b c x y z
      by_cases hlt : cfM [a, b, c] [x, y, z] < 0
      · have hr := ih (j + 1) (by omega) (fun i h hi => by
          rcases Nat.lt_or_eq_of_le (Nat.le_of_lt_succ hi) with h1 | h1
          · exact hlo i h h1
          · subst h1; rw [e]; exact hlt)
        refine Ev.step (fun k => ?_) (jt j _ hjl hr)
        simp only [spec_mkPut.l0, c1, c2, if_true, hrl, hlx, hla, q2, r2, s2, q0, r0, s0, q1, r1, s1]
        rcases hcf.1 hlt with h1 | ⟨h1, h2 | ⟨h2, h3⟩⟩
        · rw [if_pos h1]
        · rw [if_neg (by omega), if_pos h1, if_pos h2]
        · rw [if_neg (by omega), if_pos h1, if_neg (by omega), if_pos h2, decide_eq_true h3]
      · have hp := put_is hs (j := j) (by omega) hlo (fun h => by rw [e]; exact hlt)
        refine Ev.step (fun k => ?_) (jf j (by omega) hp)
        have n1 : ¬ c < z := fun h => hlt (hcf.2 (.inl h))
        simp only [spec_mkPut.l0, c1, c2, if_true, hrl, hlx, hla, q2, r2, s2, q0, r0, s0, q1, r1, s1, n1, if_false]
        by_cases h1 : c = z
        · have n2 : ¬ a < x := fun h => hlt (hcf.2 (.inr ⟨h1, .inl h⟩))
          rw [if_pos h1, if_neg n2]
          by_cases h2 : a = x
          · have n3 : ¬ b < y := fun h => hlt (hcf.2 (.inr ⟨h1, .inr ⟨h2, h⟩⟩))
            rw [if_pos h2, decide_eq_false n3]
          · rw [if_neg h2]
        · rw [if_neg h1]
  unfold spec_mkPut.f
  exact go L.length 0 (by omega) (fun i h hi => by omega)
theorem sortM_mk {l : List (List Int)} (h : ∀ x ∈ l, isMk x = true) : ∀ x ∈ sortM l, isMk x = true := fun x hx => h x ((sortM_perm l).mem_iff.1 hx)
theorem sortM_self {l : List (List Int)} (h : l.Pairwise fun a b => ¬ cfM b a < 0) : sortM l = l := (sortM_is (.refl _) h).symm
/-- The loop over the triples above. -/
theorem mkAll_loop (m : Int) (us : List (List Int)) (g : List Int → List (List Int)) (hg : ∀ u ∈ us, ∀ x ∈ g u, isMk x = true) (hul : us.length ≤ 2)
    (hrec : ∀ u ∈ us, ∀ L : List (List Int), (∀ x ∈ L, isMk x = true) → (L.Pairwise fun a b => ¬ cfM b a < 0) → L.length + (g u).length ≤ 5000000000 → Ev (fun k => spec_mkAll.f k L u m) (sortM (L ++ g u))) :
    ∀ (d i : Nat), i + d = us.length → ∀ L : List (List Int), (∀ x ∈ L, isMk x = true) → (L.Pairwise fun a b => ¬ cfM b a < 0) → L.length + ((us.drop i).flatMap g).length ≤ 5000000000 → Ev (fun k => spec_mkAll.l0 k L m us (us.length : Int) (i : Int)) (sortM (L ++ (us.drop i).flatMap g))
  | 0, i, hi, L, hL, hs, hb => by
    refine Ev.step (f := fun _ => some L) (fun k => ?_) (Ev.is ?_)
    · simp only [spec_mkAll.l0]
      rw [if_neg (by omega)]
    · rw [List.drop_of_length_le (by omega)]
      simp [sortM_self hs]
  | d + 1, i, hi, L, hL, hs, hb => by
    have hil : i < us.length := by omega
    have hm := List.getElem_mem hil
    have hd : us.drop i = us[i] :: us.drop (i + 1) := List.drop_eq_getElem_cons hil
    rw [hd, List.flatMap_cons, List.length_append] at hb
    have h1 := hrec us[i] hm L hL hs (by omega)
    have hlen : (sortM (L ++ g us[i])).length = L.length + (g us[i]).length := by rw [(sortM_perm _).length_eq, List.length_append]
    have h2 := mkAll_loop m us g hg hul hrec d (i + 1) (by omega) (sortM (L ++ g us[i])) (sortM_mk fun x hx => by
      rcases List.mem_append.1 hx with h | h
      · exact hL x h
      · exact hg us[i] hm x h) (sortM_sorted _) (by omega)
    have he : sortM (sortM (L ++ g us[i]) ++ (us.drop (i + 1)).flatMap g) = sortM (L ++ (us.drop i).flatMap g) := by
      refine sortM_congr ?_
      rw [hd, List.flatMap_cons, ← List.append_assoc]
      exact (sortM_perm _).append_right _
    rw [he] at h2
    refine Ev.step (f := fun k => (spec_mkAll.f k L us[i] m).bind fun t => spec_mkAll.l0 k t m us (us.length : Int) (wrap64 ((i : Int) + 1))) (fun k => ?_) (Ev.bind h1 ?_)
    · simp only [spec_mkAll.l0]
      rw [if_pos (by omega), if_pos (by omega), if_pos (by omega), rdL1_lt us i hil]
    · rw [w64_succ hil (by omega)]
      exact h2
def upTo (m : Int) (n : Nat) (t : List Int) : List (List Int) := if rd t 2 ≤ m then dfs m n t else []
theorem ups_cut {m : Int} (hm : m ≤ 1000000000) (f : List Int → List (List Int)) {t : List Int} (h : isMk t = true) : (upsL 1000000000 t).flatMap (fun u => if rd u 2 ≤ m then f u else []) = (upsL m t).flatMap f := by
  obtain ⟨x, y, z, rfl⟩ := mk_three h
  show ((if 3 * x * z - y ≤ 1000000000 then [[x, z, 3 * x * z - y]] else []) ++ (if 3 * y * z - x ≤ 1000000000 ∧ x ≠ y then [[y, z, 3 * y * z - x]] else [])).flatMap _ = ((if 3 * x * z - y ≤ m then [[x, z, 3 * x * z - y]] else []) ++ (if 3 * y * z - x ≤ m ∧ x ≠ y then [[y, z, 3 * y * z - x]] else [])).flatMap f
  have hr : ∀ a b c : Int, rd [a, b, c] 2 = c := fun _ _ _ => rfl
  generalize 3 * x * z - y = n1
  generalize 3 * y * z - x = n0
  have one : ∀ (p q : Prop) [Decidable p] [Decidable q] (u : List Int), (q ↔ p ∧ rd u 2 ≤ m) → (if p then [u] else []).flatMap (fun u => if rd u 2 ≤ m then f u else []) = (if q then [u] else []).flatMap f := by
    intro p q _ _ u hq
    by_cases h1 : p
    · by_cases h2 : rd u 2 ≤ m
      · rw [if_pos h1, if_pos (hq.2 ⟨h1, h2⟩)]
        simp [h2]
      · rw [if_pos h1, if_neg (fun h => h2 (hq.1 h).2)]
        simp [h2]
    · rw [if_neg h1, if_neg (fun h => h1 (hq.1 h).1)]
      rfl
  rw [List.flatMap_append, List.flatMap_append]
  congr 1
  · refine one _ _ _ ?_
    rw [hr]
    omega
  · refine one _ _ _ ?_
    rw [hr]
    constructor
    · rintro ⟨h1, h2⟩; exact ⟨⟨by omega, h2⟩, h1⟩
    · rintro ⟨⟨h1, h2⟩, h3⟩; exact ⟨h3, h2⟩
theorem mkAll_no {m : Int} {t : List Int} (h : isMk t = true) (hb : rd t 2 > m) (L : List (List Int)) : Ev (fun k => spec_mkAll.f k L t m) L := by
  have hl := mk_len_ h
  refine Ev.step (f := fun _ => some L) (fun k => ?_) (Ev.is rfl)
  rw [spec_mkAll.f]
  rw [if_pos (by omega), if_pos hb]
theorem mkAll_ev {m : Int} (hm : m ≤ 1000000000) : ∀ (n : Nat) (t : List Int), isMk t = true → m < rd t 2 * 2 ^ (n + 1) → ∀ L : List (List Int), (∀ x ∈ L, isMk x = true) → (L.Pairwise fun a b => ¬ cfM b a < 0) → L.length + (upTo m n t).length ≤ 5000000000 → Ev (fun k => spec_mkAll.f k L t m) (sortM (L ++ upTo m n t)) := by
  intro n
  induction n with
  | zero =>
    intro t h hb L hL hs hl
    by_cases hc : rd t 2 ≤ m
    · have hup : upTo m 0 t = [t] := by unfold upTo; rw [if_pos hc]; rfl
      rw [hup] at hl ⊢
      rw [List.length_singleton] at hl
      have hlt := mk_len_ h
      have h1 := mkPut_ev hL h hs (by omega)
      have h2 := mkUp_ev h
      have hmk : ∀ x ∈ t :: L, isMk x = true := fun x hx => by
        rcases List.mem_cons.1 hx with e | h3
        · rw [e]; exact h
        · exact hL x h3
      have h3 := mkAll_loop m (upsL 1000000000 t) (fun _ => []) (by simp) (upsL_len _ h) (fun u hu L' hL' hs' hl' => by
        have h4 := upsL_mk (Int.le_refl _) h hu
        have h5 := mkAll_no h4.1 (by omega) L' (m := m)
        rw [List.append_nil, sortM_self hs']
        exact h5) (upsL 1000000000 t).length 0 (by omega) (sortM (t :: L)) (sortM_mk hmk) (sortM_sorted _) (by
          have e0 : ((upsL 1000000000 t).drop 0).flatMap (fun _ => ([] : List (List Int))) = [] := by simp
          rw [(sortM_perm _).length_eq, e0, List.length_cons, List.length_nil]
          omega)
      have he : sortM (sortM (t :: L) ++ ((upsL 1000000000 t).drop 0).flatMap (fun _ => [])) = sortM (L ++ [t]) := by
        refine sortM_congr ?_
        have e0 : ((upsL 1000000000 t).drop 0).flatMap (fun _ => ([] : List (List Int))) = [] := by simp
        rw [e0, List.append_nil]
        exact (sortM_perm _).trans (List.perm_append_comm (l₁ := [t]))
      rw [he] at h3
      refine Ev.step (f := fun k => (spec_mkPut.f k L t).bind fun a => (spec_mkUp.f k t).bind fun b => spec_mkAll.l0 k a m b (b.length : Int) 0) (fun k => ?_) (Ev.bind h1 (Ev.bind h2 h3))
      rw [spec_mkAll.f]
      rw [if_pos (by omega), if_neg (by omega)]
    · have hup : upTo m 0 t = [] := by unfold upTo; rw [if_neg hc]
      rw [hup, List.append_nil, sortM_self hs]
      exact mkAll_no h (by omega) L
  | succ n ih =>
    intro t h hb L hL hs hl
    by_cases hc : rd t 2 ≤ m
    · have hup : upTo m (n + 1) t = t :: (upsL m t).flatMap (dfs m n) := by unfold upTo; rw [if_pos hc]; rfl
      rw [hup] at hl ⊢
      rw [List.length_cons] at hl
      have hlt := mk_len_ h
      have h1 := mkPut_ev hL h hs (by omega)
      have h2 := mkUp_ev h
      have hmk : ∀ x ∈ t :: L, isMk x = true := fun x hx => by
        rcases List.mem_cons.1 hx with e | h3
        · rw [e]; exact h
        · exact hL x h3
      have hcut := ups_cut hm (dfs m n) h
      have h3 := mkAll_loop m (upsL 1000000000 t) (upTo m n) (fun u hu x hx => by
        unfold upTo at hx
        split at hx
        · exact dfs_mk hm n u (upsL_mk (Int.le_refl _) h hu).1 x hx
        · simp at hx) (upsL_len _ h) (fun u hu L' hL' hs' hl' => by
        have h4 := upsL_mk (Int.le_refl _) h hu
        refine ih u h4.1 ?_ L' hL' hs' hl'
        have e : rd t 2 * 2 ^ (n + 1 + 1) = (2 * rd t 2) * 2 ^ (n + 1) := by rw [Int.pow_succ 2 (n + 1)]; generalize (2 : Int) ^ (n + 1) = q; grind
        have hp : (0 : Int) ≤ 2 ^ (n + 1) := Int.le_of_lt (Int.pow_pos (by decide))
        have := Int.mul_le_mul_of_nonneg_right h4.2.1 hp
        omega) (upsL 1000000000 t).length 0 (by omega) (sortM (t :: L)) (sortM_mk hmk) (sortM_sorted _) (by
          rw [(sortM_perm _).length_eq, List.drop_zero, List.length_cons]
          show L.length + 1 + ((upsL 1000000000 t).flatMap (fun u => if rd u 2 ≤ m then dfs m n u else [])).length ≤ _
          rw [hcut]
          omega)
      have he : sortM (sortM (t :: L) ++ ((upsL 1000000000 t).drop 0).flatMap (upTo m n)) = sortM (L ++ t :: (upsL m t).flatMap (dfs m n)) := by
        refine sortM_congr ?_
        rw [List.drop_zero]
        show (sortM (t :: L) ++ (upsL 1000000000 t).flatMap (fun u => if rd u 2 ≤ m then dfs m n u else [])).Perm _
        rw [hcut]
        refine ((sortM_perm _).append_right _).trans ?_
        rw [List.cons_append]
        exact List.perm_middle.symm
      rw [he] at h3
      refine Ev.step (f := fun k => (spec_mkPut.f k L t).bind fun a => (spec_mkUp.f k t).bind fun b => spec_mkAll.l0 k a m b (b.length : Int) 0) (fun k => ?_) (Ev.bind h1 (Ev.bind h2 h3))
      rw [spec_mkAll.f]
      rw [if_pos (by omega), if_neg (by omega)]
    · have hup : upTo m (n + 1) t = [] := by unfold upTo; rw [if_neg hc]
      rw [hup, List.append_nil, sortM_self hs]
      exact mkAll_no h (by omega) L
theorem mkUpTo_ev {m : Int} (h1 : 1 ≤ m) (hm : m ≤ 1000000000) : Ev (fun k => spec_mkUpTo.f k m) (allUpTo m) := by
  have hl := treeOf_len hm one_mk
  have hup : upTo m 31 [1, 1, 1] = treeOf m [1, 1, 1] := by
    unfold upTo treeOf
    rw [if_pos (show rd [1, 1, 1] 2 ≤ m from h1)]
  have h := mkAll_ev hm 31 [1, 1, 1] one_mk (by
    rw [show rd [1, 1, 1] 2 = 1 from rfl, show (2 : Int) ^ (31 + 1) = 4294967296 by decide]
    omega) [] (by simp) .nil (by rw [hup]; simp; omega)
  rw [hup, List.nil_append] at h
  unfold spec_mkUpTo.f
  exact Ev.bind h (Ev.is rfl)
end Go.Proofs.Ytkdgpbcecnmdhaa.P

-- PFimplwithin
namespace Go.Proofs.Ytkdgpbcecnmdhaa.P
open Go.RowKit Go.Proofs.YtkdgpbcecnmdhaaW.PrintWords Go.Proofs.YtkdgpbcecnmdhaaW.PrintLast
set_option linter.unusedVariables false
set_option linter.unusedSimpArgs false

/-! ### impl_within: function 33 -/
def impl_within.f (a0 : Int) (a1 : Int) (a2 : Int) : Option (Bool) := if a0 ≥ a1 then (some (decide (a0 ≤ a2))) else (some false)
set_option maxHeartbeats 8000000 in
set_option maxRecDepth 100000 in
theorem impl_within.calls (a0 : Int) (a1 : Int) (a2 : Int) (r : Bool) (w : World) (h : impl_within.f a0 a1 a2 = some r) :
  Calls Try.prog 33 #[.int .i64 a0, .int .i64 a1, .int .i64 a2] w fun e w' => e = .returned (.bool r) ∧ Drawn0 w w' := by
 have H : (if a0 ≥ a1 then (some (decide (a0 ≤ a2))) else (some false)) = some r := h
 clear h
 by_cases c4 : a0 ≥ a1
 ·rw [if_pos c4] at H
  have c4b0 : decide (a1 ≤ a0) = true := decide_eq_true c4
  clear c4
  obtain rfl := Option.some.inj H
  go_enter Try.func33, Try.ntmps33
  go_wp2
  go_ret
  exact ⟨by first | rfl | (simp; done) | (simp [*]; done), by repeat (first | exact Drawn0.refl _ | apply Drawn0.step)⟩
 ·rw [if_neg c4] at H
  have c4b0 : decide (a1 ≤ a0) = false := decide_eq_false c4
  clear c4
  obtain rfl := Option.some.inj H
  go_enter Try.func33, Try.ntmps33
  go_wp2
  go_ret
  exact ⟨by first | rfl | (simp; done) | (simp [*]; done), by repeat (first | exact Drawn0.refl _ | apply Drawn0.step)⟩

end Go.Proofs.Ytkdgpbcecnmdhaa.P

-- UmkMost
namespace Go.Proofs.Ytkdgpbcecnmdhaa.P
set_option linter.unusedVariables false
set_option linter.unusedSimpArgs false
open Go.RowKit Go.Proofs.YtkdgpbcecnmdhaaW.PrintWords Go.Proofs.YtkdgpbcecnmdhaaW.PrintLast Go.Proofs.YtkdgpbcecnmdhaaW.PrintMore
theorem most_in (m : Int) : spec_mkMost.f m = some (inB 1 1000000000 m) := by
  unfold spec_mkMost.f spec_l1In.f inB
  by_cases h : 1 ≤ m <;> simp [h]
theorem within_most (m : Int) : impl_within.f m 1 1000000000 = some (inB 1 1000000000 m) := by
  unfold impl_within.f inB
  by_cases h : 1 ≤ m <;> simp [h]
theorem most_iff {m : Int} : inB 1 1000000000 m = true ↔ 1 ≤ m ∧ m ≤ 1000000000 := by simp [inB]
theorem allUpTo_len {m : Int} (hm : m ≤ 1000000000) : (allUpTo m).length ≤ 4294967296 := by
  unfold allUpTo
  rw [(sortM_perm _).length_eq]
  exact treeOf_len hm one_mk
theorem allUpTo_mk {m : Int} (hm : m ≤ 1000000000) : ∀ x ∈ allUpTo m, isMk x = true := by
  intro x hx
  unfold allUpTo at hx
  exact dfs_mk hm 31 [1, 1, 1] one_mk x ((sortM_perm _).mem_iff.1 hx)
theorem allUpTo_sorted (m : Int) : (allUpTo m).Pairwise fun a b => ¬ cfM b a < 0 := sortM_sorted _
end Go.Proofs.Ytkdgpbcecnmdhaa.P

-- UmkWith
namespace Go.Proofs.Ytkdgpbcecnmdhaa.P
set_option linter.unusedVariables false
set_option linter.unusedSimpArgs false
open Go.RowKit Go.Proofs.YtkdgpbcecnmdhaaW.PrintWords Go.Proofs.YtkdgpbcecnmdhaaW.PrintLast Go.Proofs.YtkdgpbcecnmdhaaW.PrintMore
def withF (m : Int) (x : List Int) : Bool := !(rd x 2 != m)
def withL (m : Int) : List (List Int) := (allUpTo m).filter (withF m)
theorem withF_iff {m : Int} {x : List Int} : withF m x = true ↔ rd x 2 = m := by simp [withF]
def withAll (m : Int) : List (List Int) × Bool := if inB 1 1000000000 m = true then (withL m, true) else ([], false)
theorem withL_len {m : Int} (hm : m ≤ 1000000000) : (withL m).length ≤ 4294967296 := Nat.le_trans (List.length_filter_le _ _) (allUpTo_len hm)
theorem withL_mk {m : Int} (hm : m ≤ 1000000000) : ∀ x ∈ withL m, isMk x = true ∧ rd x 2 = m := by
  intro x hx
  obtain ⟨h1, h2⟩ := List.mem_filter.1 hx
  exact ⟨allUpTo_mk hm x h1, withF_iff.1 h2⟩
theorem filter_take_succ {α : Type} (p : α → Bool) (l : List α) (i : Nat) (h : i < l.length) : (l.take (i + 1)).filter p = (l.take i).filter p ++ if p l[i] then [l[i]] else [] := by
  rw [List.take_succ_eq_append_getElem h, List.filter_append]
  congr 1
  cases hp : p l[i] <;> simp [hp]
theorem mkWith_loop {m : Int} (hm : m ≤ 1000000000) : ∀ (d i : Nat), i + d = (allUpTo m).length → Ev (fun k => spec_mkWith.l0 k m (((allUpTo m).take i).filter (withF m)) (allUpTo m) ((allUpTo m).length : Int) (i : Int)) (withL m)
  | 0, i, hi => by
    refine Ev.step (f := fun _ => some (withL m)) (fun k => ?_) (Ev.is rfl)
    simp only [spec_mkWith.l0]
    rw [if_neg (by omega), List.take_of_length_le (by omega)]
    rfl
  | d + 1, i, hi => by
    have hil : i < (allUpTo m).length := by omega
    have hl := allUpTo_len hm
    have hr := mkWith_loop hm d (i + 1) (by omega)
    have hn : (((allUpTo m).take i).filter (withF m)).length ≤ (allUpTo m).length := Nat.le_trans (List.length_filter_le _ _) (by rw [List.length_take]; omega)
    have h3 : 2 < ((rd_L1 (allUpTo m) (i : Int)).length : Int) := by
      rw [rdL1_lt _ i hil, mk_len_ (allUpTo_mk hm _ (List.getElem_mem hil))]
      decide
    rw [filter_take_succ (withF m) _ i hil] at hr
    refine Ev.step (fun k => ?_) hr
    simp only [spec_mkWith.l0]
    rw [if_pos (by omega), if_pos (by omega), if_pos (by omega), if_pos h3, w64_succ hil (by omega)]
    by_cases he : rd (rd_L1 (allUpTo m) (i : Int)) 2 = m
    · rw [if_pos he, if_pos (by omega)]
      rw [rdL1_lt _ i hil] at he
      rw [rdL1_lt _ i hil, if_pos (withF_iff.2 he)]
    · rw [if_neg he]
      rw [rdL1_lt _ i hil] at he
      rw [if_neg (fun h => he (withF_iff.1 h)), List.append_nil]
theorem mkWith_ev {m : Int} (h1 : 1 ≤ m) (hm : m ≤ 1000000000) : Ev (fun k => spec_mkWith.f k m) (withL m) := by
  unfold spec_mkWith.f
  exact Ev.bind (mkUpTo_ev h1 hm) (mkWith_loop hm (allUpTo m).length 0 (by omega))
theorem allUpTo_ne (m : Int) : allUpTo m ≠ [] := by
  intro h
  have hl : (allUpTo m).length = (treeOf m [1, 1, 1]).length := (sortM_perm _).length_eq
  rw [h] at hl
  simp [treeOf, dfs] at hl
theorem TriplesWith_ev (m : Int) : Ev (fun k => impl_TriplesWith.f k m) (withAll m) := by
  unfold impl_TriplesWith.f withAll
  cases h : inB 1 1000000000 m with
  | false =>
    simp only [Bool.false_eq_true, if_false]
    exact Ev.is rfl
  | true =>
    have hm := (most_iff.1 h).2
    have hl := allUpTo_len hm
    simp only [if_true]
    refine Ev.bind (markovs_ev hm) ?_
    have hc : allUpTo m ≠ [] ∧ (allUpTo m).length < 5864062014805 ∧ (allUpTo m).all prM = true := ⟨allUpTo_ne m, by omega, List.all_eq_true.2 fun x hx => mk_prM (allUpTo_mk hm x hx)⟩
    rw [if_pos hc]
    exact Ev.is rfl
end Go.Proofs.Ytkdgpbcecnmdhaa.P

-- PureFnExactIsMarkovNumber
namespace Go.Proofs.Ytkdgpbcecnmdhaa.Pure
set_option linter.unusedVariables false
set_option linter.unusedSimpArgs false
open Go.RowKit Go.Proofs.Ytkdgpbcecnmdhaa.P Go.Proofs.YtkdgpbcecnmdhaaW.PrintWords Go.Proofs.YtkdgpbcecnmdhaaW.PrintLast
def isAll (m : Int) : Bool × Bool := if inB 1 1000000000 m = true then (decide (((withL m).length : Int) > 0), true) else (false, false)
theorem spec_IsMarkovNumber_ev (m : Int) : Ev (fun k => spec_IsMarkovNumber.f k m) (isAll m) := by
  unfold spec_IsMarkovNumber.f isAll
  refine Ev.bind0 (most_in m) ?_
  cases h : inB 1 1000000000 m with
  | false =>
    simp only [Bool.false_eq_true, if_false]
    exact Ev.is rfl
  | true =>
    simp only [if_true]
    exact Ev.bind (mkWith_ev (most_iff.1 h).1 (most_iff.1 h).2) (Ev.is rfl)
theorem IsMarkovNumber_ev (m : Int) : Ev (fun k => impl_IsMarkovNumber.f k m) (isAll m) := by
  unfold impl_IsMarkovNumber.f isAll
  refine Ev.bind (TriplesWith_ev m) (Ev.is ?_)
  unfold withAll
  cases h : inB 1 1000000000 m <;> rfl
theorem FnExactIsMarkovNumber : laws_FnExactIsMarkovNumber.Pure := by
  intro m hm
  refine Ev.rounds ?_
  unfold laws_FnExactIsMarkovNumber.f
  refine Ev.bind (spec_IsMarkovNumber_ev m) (Ev.bind (IsMarkovNumber_ev m) ?_)
  simp only [bne_self_eq_false, Bool.false_eq_true, if_false]
  exact Ev.is rfl
end Go.Proofs.Ytkdgpbcecnmdhaa.Pure
