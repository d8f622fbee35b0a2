/- MarkovNumbersUpTo answers what the reference answers, for every bound; what it hands back is its own. No condition. -/
import Derived.Test.YtkdgpbcecnmdhaaPackFnExactMarkovNumbersUpTo2
import Derived.Sort.Statements
import Derived.Shelf.RegionOpenPlain
import Derived.WalkKit
import Derived.Deep.LoopGhost
import Derived.Deep.Draws
import Derived.Lib.Walk
import Derived.Sort.WalkB12
import Derived.Lib.SliceRun
import Derived.Lib.SlKept
import Derived.Shelf.SlicesE.Kit
import Derived.Sort.WalkA
import Derived.Test.YtkdgpbcecnmdhaaLib
import Derived.Shelf.SlSortCmp.NoneTotal
-- PFcmpCompareint
namespace Go.Proofs.Ytkdgpbcecnmdhaa.P
open Go.RowKit Go.Proofs.YtkdgpbcecnmdhaaW.PrintWords Go.Proofs.YtkdgpbcecnmdhaaW.PrintLast
set_option linter.unusedVariables false
set_option linter.unusedSimpArgs false

/-! ### cmp_Compare_int: function 67 -/
def cmp_Compare_int.f (a0 : Int) (a1 : Int) : Option (Int) := (cmp_isNaN_int.f a0).bind fun t493 => ((cmp_isNaN_int.f a1).bind fun t494 => (if t493 = true then (if t494 = true then (some 0) else (some (-1))) else (if t494 = true then (some 1) else (if a0 < a1 then (some (-1)) else (if a0 > a1 then (some 1) else (some 0))))))
set_option maxHeartbeats 8000000 in
set_option maxRecDepth 100000 in
theorem cmp_Compare_int.calls (a0 : Int) (a1 : Int) (r : Int) (w : World) (h : cmp_Compare_int.f a0 a1 = some r) :
  Calls Try.prog 67 #[.int .i64 a0, .int .i64 a1] w fun e w' => e = .returned (.int .i64 r) ∧ Drawn0 w w' := by
 have H : ((cmp_isNaN_int.f a0).bind fun t493 => ((cmp_isNaN_int.f a1).bind fun t494 => (if t493 = true then (if t494 = true then (some 0) else (some (-1))) else (if t494 = true then (some 1) else (if a0 < a1 then (some (-1)) else (if a0 > a1 then (some 1) else (some 0))))))) = some r := h
 clear h
 replace H := Option.bind_eq_some_iff.mp H
 obtain ⟨t493, A30, H⟩ := H
 replace H : ((cmp_isNaN_int.f a1).bind fun t494 => (if t493 = true then (if t494 = true then (some 0) else (some (-1))) else (if t494 = true then (some 1) else (if a0 < a1 then (some (-1)) else (if a0 > a1 then (some 1) else (some 0)))))) = some r := H
 have A3 := Aside0.mk A30
 clear A30
 replace H := Option.bind_eq_some_iff.mp H
 obtain ⟨t494, A40, H⟩ := H
 replace H : (if t493 = true then (if t494 = true then (some 0) else (some (-1))) else (if t494 = true then (some 1) else (if a0 < a1 then (some (-1)) else (if a0 > a1 then (some 1) else (some 0))))) = some r := H
 have A4 := Aside0.mk A40
 clear A40
 by_cases c5 : t493 = true
 ·subst c5
  have H1 : (if t494 = true then (some 0) else (some (-1))) = some r := by rw [if_pos rfl] at H; exact H
  clear H
  have H := H1
  clear H1
  by_cases c6 : t494 = true
  ·subst c6
   have H1 : (some 0) = some r := by rw [if_pos rfl] at H; exact H
   clear H
   have H := H1
   clear H1
   obtain rfl := Option.some.inj H
   go_enter Try.func67, Try.ntmps67
   go_wp2_with (first | ((with_reducible refine gate_callee (f := 71) rfl ?_); refine goesL_ (some 8) rfl rfl Try.func71 (by kernel_rfl) rfl #[.int .i64 a0] rfl (by (try simp only [List.map_toArray, List.map_cons, List.map_nil]); first | done | rfl | (simp only [List.length_drop, List.length_take]; rfl)) ?_; (with_reducible refine (cmp_isNaN_int.calls a0 true _ A3.out).mono ?_); rintro e w' ⟨rfl, ⟨nd, rfl⟩⟩; refine ⟨_, rfl, ?_⟩) | ((with_reducible refine gate_callee (f := 71) rfl ?_); refine goesL_ (some 10) rfl rfl Try.func71 (by kernel_rfl) rfl #[.int .i64 a1] rfl (by (try simp only [List.map_toArray, List.map_cons, List.map_nil]); first | done | rfl | (simp only [List.length_drop, List.length_take]; rfl)) ?_; (with_reducible refine (cmp_isNaN_int.calls a1 true _ A4.out).mono ?_); rintro e w' ⟨rfl, ⟨nd, rfl⟩⟩; refine ⟨_, rfl, ?_⟩))
   go_ret
   exact ⟨by first | rfl | (simp; done) | (simp [*]; done), by repeat (first | exact Drawn0.refl _ | apply Drawn0.step)⟩
  ·replace c6 := Bool.eq_false_iff.mpr c6
   subst c6
   have H1 : (some (-1)) = some r := by rw [if_neg (show ¬ (false = true) by decide)] at H; exact H
   clear H
   have H := H1
   clear H1
   obtain rfl := Option.some.inj H
   go_enter Try.func67, Try.ntmps67
   go_wp2_with (first | ((with_reducible refine gate_callee (f := 71) rfl ?_); refine goesL_ (some 8) rfl rfl Try.func71 (by kernel_rfl) rfl #[.int .i64 a0] rfl (by (try simp only [List.map_toArray, List.map_cons, List.map_nil]); first | done | rfl | (simp only [List.length_drop, List.length_take]; rfl)) ?_; (with_reducible refine (cmp_isNaN_int.calls a0 true _ A3.out).mono ?_); rintro e w' ⟨rfl, ⟨nd, rfl⟩⟩; refine ⟨_, rfl, ?_⟩) | ((with_reducible refine gate_callee (f := 71) rfl ?_); refine goesL_ (some 10) rfl rfl Try.func71 (by kernel_rfl) rfl #[.int .i64 a1] rfl (by (try simp only [List.map_toArray, List.map_cons, List.map_nil]); first | done | rfl | (simp only [List.length_drop, List.length_take]; rfl)) ?_; (with_reducible refine (cmp_isNaN_int.calls a1 false _ A4.out).mono ?_); rintro e w' ⟨rfl, ⟨nd, rfl⟩⟩; refine ⟨_, rfl, ?_⟩))
   go_ret
   exact ⟨by first | rfl | (simp; done) | (simp [*]; done), by repeat (first | exact Drawn0.refl _ | apply Drawn0.step)⟩
 ·replace c5 := Bool.eq_false_iff.mpr c5
  subst c5
  have H1 : (if t494 = true then (some 1) else (if a0 < a1 then (some (-1)) else (if a0 > a1 then (some 1) else (some 0)))) = some r := by rw [if_neg (show ¬ (false = true) by decide)] at H; exact H
  clear H
  have H := H1
  clear H1
  by_cases c7 : t494 = true
  ·subst c7
   have H1 : (some 1) = some r := by rw [if_pos rfl] at H; exact H
   clear H
   have H := H1
   clear H1
   obtain rfl := Option.some.inj H
   go_enter Try.func67, Try.ntmps67
   go_wp2_with (first | ((with_reducible refine gate_callee (f := 71) rfl ?_); refine goesL_ (some 8) rfl rfl Try.func71 (by kernel_rfl) rfl #[.int .i64 a0] rfl (by (try simp only [List.map_toArray, List.map_cons, List.map_nil]); first | done | rfl | (simp only [List.length_drop, List.length_take]; rfl)) ?_; (with_reducible refine (cmp_isNaN_int.calls a0 false _ A3.out).mono ?_); rintro e w' ⟨rfl, ⟨nd, rfl⟩⟩; refine ⟨_, rfl, ?_⟩) | ((with_reducible refine gate_callee (f := 71) rfl ?_); refine goesL_ (some 10) rfl rfl Try.func71 (by kernel_rfl) rfl #[.int .i64 a1] rfl (by (try simp only [List.map_toArray, List.map_cons, List.map_nil]); first | done | rfl | (simp only [List.length_drop, List.length_take]; rfl)) ?_; (with_reducible refine (cmp_isNaN_int.calls a1 true _ A4.out).mono ?_); rintro e w' ⟨rfl, ⟨nd, rfl⟩⟩; refine ⟨_, rfl, ?_⟩))
   go_ret
   exact ⟨by first | rfl | (simp; done) | (simp [*]; done), by repeat (first | exact Drawn0.refl _ | apply Drawn0.step)⟩
  ·replace c7 := Bool.eq_false_iff.mpr c7
   subst c7
   have H1 : (if a0 < a1 then (some (-1)) else (if a0 > a1 then (some 1) else (some 0))) = some r := by rw [if_neg (show ¬ (false = true) by decide)] at H; exact H
   clear H
   have H := H1
   clear H1
   by_cases c8 : a0 < a1
   ·rw [if_pos c8] at H
    have c8b0 : decide (a0 < a1) = true := decide_eq_true c8
    clear c8
    obtain rfl := Option.some.inj H
    go_enter Try.func67, Try.ntmps67
    go_wp2_with (first | ((with_reducible refine gate_callee (f := 71) rfl ?_); refine goesL_ (some 8) rfl rfl Try.func71 (by kernel_rfl) rfl #[.int .i64 a0] rfl (by (try simp only [List.map_toArray, List.map_cons, List.map_nil]); first | done | rfl | (simp only [List.length_drop, List.length_take]; rfl)) ?_; (with_reducible refine (cmp_isNaN_int.calls a0 false _ A3.out).mono ?_); rintro e w' ⟨rfl, ⟨nd, rfl⟩⟩; refine ⟨_, rfl, ?_⟩) | ((with_reducible refine gate_callee (f := 71) rfl ?_); refine goesL_ (some 10) rfl rfl Try.func71 (by kernel_rfl) rfl #[.int .i64 a1] rfl (by (try simp only [List.map_toArray, List.map_cons, List.map_nil]); first | done | rfl | (simp only [List.length_drop, List.length_take]; rfl)) ?_; (with_reducible refine (cmp_isNaN_int.calls a1 false _ A4.out).mono ?_); rintro e w' ⟨rfl, ⟨nd, rfl⟩⟩; refine ⟨_, rfl, ?_⟩))
    go_ret
    exact ⟨by first | rfl | (simp; done) | (simp [*]; done), by repeat (first | exact Drawn0.refl _ | apply Drawn0.step)⟩
   ·rw [if_neg c8] at H
    have c8b0 : decide (a0 < a1) = false := decide_eq_false c8
    clear c8
    by_cases c9 : a0 > a1
    ·rw [if_pos c9] at H
     have c9b0 : decide (a1 < a0) = true := decide_eq_true c9
     clear c9
     obtain rfl := Option.some.inj H
     go_enter Try.func67, Try.ntmps67
     go_wp2_with (first | ((with_reducible refine gate_callee (f := 71) rfl ?_); refine goesL_ (some 8) rfl rfl Try.func71 (by kernel_rfl) rfl #[.int .i64 a0] rfl (by (try simp only [List.map_toArray, List.map_cons, List.map_nil]); first | done | rfl | (simp only [List.length_drop, List.length_take]; rfl)) ?_; (with_reducible refine (cmp_isNaN_int.calls a0 false _ A3.out).mono ?_); rintro e w' ⟨rfl, ⟨nd, rfl⟩⟩; refine ⟨_, rfl, ?_⟩) | ((with_reducible refine gate_callee (f := 71) rfl ?_); refine goesL_ (some 10) rfl rfl Try.func71 (by kernel_rfl) rfl #[.int .i64 a1] rfl (by (try simp only [List.map_toArray, List.map_cons, List.map_nil]); first | done | rfl | (simp only [List.length_drop, List.length_take]; rfl)) ?_; (with_reducible refine (cmp_isNaN_int.calls a1 false _ A4.out).mono ?_); rintro e w' ⟨rfl, ⟨nd, rfl⟩⟩; refine ⟨_, rfl, ?_⟩))
     go_ret
     exact ⟨by first | rfl | (simp; done) | (simp [*]; done), by repeat (first | exact Drawn0.refl _ | apply Drawn0.step)⟩
    ·rw [if_neg c9] at H
     have c9b0 : decide (a1 < a0) = false := decide_eq_false c9
     clear c9
     obtain rfl := Option.some.inj H
     go_enter Try.func67, Try.ntmps67
     go_wp2_with (first | ((with_reducible refine gate_callee (f := 71) rfl ?_); refine goesL_ (some 8) rfl rfl Try.func71 (by kernel_rfl) rfl #[.int .i64 a0] rfl (by (try simp only [List.map_toArray, List.map_cons, List.map_nil]); first | done | rfl | (simp only [List.length_drop, List.length_take]; rfl)) ?_; (with_reducible refine (cmp_isNaN_int.calls a0 false _ A3.out).mono ?_); rintro e w' ⟨rfl, ⟨nd, rfl⟩⟩; refine ⟨_, rfl, ?_⟩) | ((with_reducible refine gate_callee (f := 71) rfl ?_); refine goesL_ (some 10) rfl rfl Try.func71 (by kernel_rfl) rfl #[.int .i64 a1] rfl (by (try simp only [List.map_toArray, List.map_cons, List.map_nil]); first | done | rfl | (simp only [List.length_drop, List.length_take]; rfl)) ?_; (with_reducible refine (cmp_isNaN_int.calls a1 false _ A4.out).mono ?_); rintro e w' ⟨rfl, ⟨nd, rfl⟩⟩; refine ⟨_, rfl, ?_⟩))
     go_ret
     exact ⟨by first | rfl | (simp; done) | (simp [*]; done), by repeat (first | exact Drawn0.refl _ | apply Drawn0.step)⟩

end Go.Proofs.Ytkdgpbcecnmdhaa.P

-- PFslicesCompareintint
namespace Go.Proofs.Ytkdgpbcecnmdhaa.P
open Go.RowKit Go.Proofs.YtkdgpbcecnmdhaaW.PrintWords Go.Proofs.YtkdgpbcecnmdhaaW.PrintLast
set_option linter.unusedVariables false
set_option linter.unusedSimpArgs false

/-! ### slices_Compare_int_int: function 51 -/
def slices_Compare_int_int.l0 : Nat → List Int → List Int → List Int → Int → Int → Option (Int)
 | 0, _, _, _, _, _ => none
 | k + 1, x0, x1, x9, x10, x11 => if x11 < x10 then (if 0 ≤ x11 then (if x11 < (x9.length : Int) then (if x11 ≥ (x1.length : Int) then (some 1) else (if x11 < (x1.length : Int) then ((cmp_Compare_int.f (rd x9 x11) (rd x1 x11)).bind fun t497 => (if t497 = 0 then (slices_Compare_int_int.l0 k x0 x1 x9 x10 (wrap64 (x11 + 1))) else (some t497))) else (none))) else (none)) else (none)) else (if (x0.length : Int) < (x1.length : Int) then (some (-1)) else (some 0))
def slices_Compare_int_int.f (k : Nat) (l0 : List Int) (l1 : List Int) : Option (Int) := slices_Compare_int_int.l0 k l0 l1 l0 (l0.length : Int) 0
theorem slices_Compare_int_int.mono_l : ∀ k, (∀ y0 y1 y2 y3 y4, LeO (slices_Compare_int_int.l0 k y0 y1 y2 y3 y4) (slices_Compare_int_int.l0 (k + 1) y0 y1 y2 y3 y4))
 | 0 => fun _ _ _ _ _ r h => by simp [slices_Compare_int_int.l0] at h
 | k + 1 => by
  have ih0 := slices_Compare_int_int.mono_l k
  ·intro y0 y1 y2 y3 y4
   unfold slices_Compare_int_int.l0
   repeat' first
   | (with_reducible exact ih0 _ _ _ _ _)
   | (with_reducible exact LeO.refl _)
   | (with_reducible exact LeO.none _)
   | (with_reducible refine LeO.ite ?_ ?_)
   | (with_reducible refine LeO.bind ?_ (fun _ => ?_))
   | exact ih0 _ _ _ _ _
   | exact LeO.none _
   | refine LeO.ite ?_ ?_
   | refine LeO.bind ?_ (fun _ => ?_)
theorem slices_Compare_int_int.mono : ∀ a0 a1 k, LeO (slices_Compare_int_int.f k a0 a1) (slices_Compare_int_int.f (k + 1) a0 a1) := by
 intro a0 a1 k
 have ih0 := slices_Compare_int_int.mono_l k
 unfold slices_Compare_int_int.f
 repeat' first
   | (with_reducible exact ih0 _ _ _ _ _)
   | (with_reducible exact LeO.refl _)
   | (with_reducible exact LeO.none _)
   | (with_reducible refine LeO.ite ?_ ?_)
   | (with_reducible refine LeO.bind ?_ (fun _ => ?_))
   | exact ih0 _ _ _ _ _
   | exact LeO.none _
   | refine LeO.ite ?_ ?_
   | refine LeO.bind ?_ (fun _ => ?_)
set_option maxHeartbeats 8000000 in
set_option maxRecDepth 100000 in
theorem slices_Compare_int_int.calls (k : Nat) (A0 : Option Addr) (c0 : Nat) (l0 : List Int) (A1 : Option Addr) (c1 : Nat) (l1 : List Int) (r : Int) (w : World) (hr0 : Kd.C (Kd.int .i64) w A0 l0.length l0) (hc0 : l0.length ≤ c0) (hr1 : Kd.C (Kd.int .i64) w A1 l1.length l1) (hc1 : l1.length ≤ c1) (h : slices_Compare_int_int.f k l0 l1 = some r) :
  Calls Try.prog 51 #[.slice A0 l0.length c0, .slice A1 l1.length c1] w fun e w' => e = .returned (.int .i64 r) ∧ Drawn0 w w' := by
 have HR0 := Aside0.mk hr0
 have HC0 := Aside0.mk hc0
 clear hr0 hc0
 have HR1 := Aside0.mk hr1
 have HC1 := Aside0.mk hc1
 clear hr1 hc1
 have H : (slices_Compare_int_int.l0 k l0 l1 l0 (l0.length : Int) 0) = some r := h
 clear h
 have H' := Aside0.mk H
 clear H
 go_enter Try.func51, Try.ntmps51
 go_wp2
 go_loopg [11] k (fun kq v11 w' => ∃ (x11_1 : Int), v11 = .int .i64 x11_1 ∧ Aside0 (slices_Compare_int_int.l0 kq l0 l1 l0 (l0.length : Int) x11_1 = some r) ∧ Aside0 (kq ≤ k) ∧ Drawn0 w w')
 case atStart => exact ⟨(0), (by first | rfl | (simp; done) | (simp [*]; done)), H', ⟨Nat.le_refl _⟩, by repeat (first | exact Drawn0.refl _ | apply Drawn0.step)⟩
 case round =>
  clear H'
  try clear c1
  try clear p2
  obtain ⟨x11_1, rfl, HA, HK1, ⟨m1, rfl⟩⟩ := hrel
  cases gk with
  | zero => exact absurd HA.out (by simp [slices_Compare_int_int.l0])
  | succ k1 =>
   have H := HA.out
   clear HA
   simp only [slices_Compare_int_int.l0] at H
   by_cases c3 : x11_1 < (l0.length : Int)
   ·rw [if_pos c3] at H
    have c3b0 : decide (x11_1 < (l0.length : Int)) = true := decide_eq_true c3
    clear c3
    by_cases c4 : 0 ≤ x11_1
    ·rw [if_pos c4] at H
     have c4b0 : decide (0 ≤ x11_1) = true := decide_eq_true c4
     clear c4
     by_cases c5 : x11_1 < (l0.length : Int)
     ·rw [if_pos c5] at H
      have c5b0 : decide (x11_1 < (l0.length : Int)) = true := decide_eq_true c5
      clear c5
      by_cases c6 : x11_1 ≥ (l1.length : Int)
      ·rw [if_pos c6] at H
       have c6b0 : decide ((l1.length : Int) ≤ x11_1) = true := decide_eq_true c6
       clear c6
       obtain rfl := Option.some.inj H
       have p495 : 0 ≤ (x11_1 : Int) := of_decide_eq_true (by first | (with_reducible assumption) | assumption)
       have q495 : x11_1 < (l0.length : Int) := of_decide_eq_true (by first | (with_reducible assumption) | assumption)
       obtain ⟨ad495, e495, hx495_0⟩ := Kd.at_int HR0.out x11_1 p495 q495
       cases e495
       replace p495 := eq_true p495
       replace q495 := eq_true q495
       go_wp2
       go_ret
       exact ⟨by first | rfl | (simp; done) | (simp [*]; done), by repeat (first | exact Drawn0.refl _ | apply Drawn0.step)⟩
      ·rw [if_neg c6] at H
       have c6b0 : decide ((l1.length : Int) ≤ x11_1) = false := decide_eq_false c6
       clear c6
       by_cases c7 : x11_1 < (l1.length : Int)
       ·rw [if_pos c7] at H
        have c7b0 : decide (x11_1 < (l1.length : Int)) = true := decide_eq_true c7
        clear c7
        replace H := Option.bind_eq_some_iff.mp H
        obtain ⟨t497, A80, H⟩ := H
        replace H : (if t497 = 0 then (slices_Compare_int_int.l0 k1 l0 l1 l0 (l0.length : Int) (wrap64 (x11_1 + 1))) else (some t497)) = some r := H
        have A8 := Aside0.mk A80
        clear A80
        by_cases c9 : t497 = 0
        ·rw [if_pos c9] at H
         have c9b0 : (t497 == 0) = true := beq_iff_eq.mpr c9
         have c9b1 : (t497 != 0) = false := bne_eq_false_iff_eq.mpr c9
         clear c9
         have H' := Aside0.mk H
         clear H
         have p495 : 0 ≤ (x11_1 : Int) := of_decide_eq_true (by first | (with_reducible assumption) | assumption)
         have q495 : x11_1 < (l0.length : Int) := of_decide_eq_true (by first | (with_reducible assumption) | assumption)
         obtain ⟨ad495, e495, hx495_0⟩ := Kd.at_int HR0.out x11_1 p495 q495
         cases e495
         replace p495 := eq_true p495
         replace q495 := eq_true q495
         have p496 : 0 ≤ (x11_1 : Int) := of_decide_eq_true (by first | (with_reducible assumption) | assumption)
         have q496 : x11_1 < (l1.length : Int) := of_decide_eq_true (by first | (with_reducible assumption) | assumption)
         obtain ⟨ad496, e496, hx496_0⟩ := Kd.at_int HR1.out x11_1 p496 q496
         cases e496
         replace p496 := eq_true p496
         replace q496 := eq_true q496
         go_wp2_with (first | ((with_reducible refine gate_callee (f := 67) rfl ?_); refine goesL_ (some 26) rfl rfl Try.func67 (by kernel_rfl) rfl #[.int .i64 (rd l0 x11_1), .int .i64 (rd l1 x11_1)] rfl (by (try simp only [List.map_toArray, List.map_cons, List.map_nil]); first | done | rfl | (simp only [List.length_drop, List.length_take]; rfl)) ?_; (with_reducible refine (cmp_Compare_int.calls (rd l0 x11_1) (rd l1 x11_1) t497 _ A8.out).mono ?_); rintro e w' ⟨rfl, ⟨nd, rfl⟩⟩; refine ⟨_, rfl, ?_⟩))
         go_roundg k1
         case measure => have := HK1.out; omega
         case rel => exact ⟨(wrap64 (x11_1 + 1)), (by first | rfl | (simp; done) | (simp [*]; done)), H', ⟨by have := HK1.out; omega⟩, by repeat (first | exact Drawn0.refl _ | apply Drawn0.step)⟩
        ·rw [if_neg c9] at H
         have c9b0 : (t497 == 0) = false := beq_eq_false_iff_ne.mpr c9
         have c9b1 : (t497 != 0) = true := bne_iff_ne.mpr c9
         obtain rfl := Option.some.inj H
         have p495 : 0 ≤ (x11_1 : Int) := of_decide_eq_true (by first | (with_reducible assumption) | assumption)
         have q495 : x11_1 < (l0.length : Int) := of_decide_eq_true (by first | (with_reducible assumption) | assumption)
         obtain ⟨ad495, e495, hx495_0⟩ := Kd.at_int HR0.out x11_1 p495 q495
         cases e495
         replace p495 := eq_true p495
         replace q495 := eq_true q495
         have p496 : 0 ≤ (x11_1 : Int) := of_decide_eq_true (by first | (with_reducible assumption) | assumption)
         have q496 : x11_1 < (l1.length : Int) := of_decide_eq_true (by first | (with_reducible assumption) | assumption)
         obtain ⟨ad496, e496, hx496_0⟩ := Kd.at_int HR1.out x11_1 p496 q496
         cases e496
         replace p496 := eq_true p496
         replace q496 := eq_true q496
         go_wp2_with (first | ((with_reducible refine gate_callee (f := 67) rfl ?_); refine goesL_ (some 26) rfl rfl Try.func67 (by kernel_rfl) rfl #[.int .i64 (rd l0 x11_1), .int .i64 (rd l1 x11_1)] rfl (by (try simp only [List.map_toArray, List.map_cons, List.map_nil]); first | done | rfl | (simp only [List.length_drop, List.length_take]; rfl)) ?_; (with_reducible refine (cmp_Compare_int.calls (rd l0 x11_1) (rd l1 x11_1) t497 _ A8.out).mono ?_); rintro e w' ⟨rfl, ⟨nd, rfl⟩⟩; refine ⟨_, rfl, ?_⟩))
         go_ret
         exact ⟨by first | rfl | (simp; done) | (simp [*]; done), by repeat (first | exact Drawn0.refl _ | apply Drawn0.step)⟩
       ·rw [if_neg c7] at H
        exact absurd H (by simp)
     ·rw [if_neg c5] at H
      exact absurd H (by simp)
    ·rw [if_neg c4] at H
     exact absurd H (by simp)
   ·rw [if_neg c3] at H
    have c3b0 : decide (x11_1 < (l0.length : Int)) = false := decide_eq_false c3
    clear c3
    by_cases c10 : (l0.length : Int) < (l1.length : Int)
    ·rw [if_pos c10] at H
     have c10b0 : decide ((l0.length : Int) < (l1.length : Int)) = true := decide_eq_true c10
     have c10b1 : decide (l0.length < l1.length) = true := decide_eq_true (Int.ofNat_lt.mp c10)
     clear c10
     obtain rfl := Option.some.inj H
     go_wp2
     go_ret
     exact ⟨by first | rfl | (simp; done) | (simp [*]; done), by repeat (first | exact Drawn0.refl _ | apply Drawn0.step)⟩
    ·rw [if_neg c10] at H
     have c10b0 : decide ((l0.length : Int) < (l1.length : Int)) = false := decide_eq_false c10
     have c10b1 : decide (l0.length < l1.length) = false := decide_eq_false (fun h => c10 (Int.ofNat_lt.mpr h))
     clear c10
     obtain rfl := Option.some.inj H
     go_wp2
     go_ret
     exact ⟨by first | rfl | (simp; done) | (simp [*]; done), by repeat (first | exact Drawn0.refl _ | apply Drawn0.step)⟩

end Go.Proofs.Ytkdgpbcecnmdhaa.P

-- PFslicesEqualintint
namespace Go.Proofs.Ytkdgpbcecnmdhaa.P
open Go.RowKit Go.Proofs.YtkdgpbcecnmdhaaW.PrintWords Go.Proofs.YtkdgpbcecnmdhaaW.PrintLast
set_option linter.unusedVariables false
set_option linter.unusedSimpArgs false

/-! ### slices_Equal_int_int: function 64 -/
def slices_Equal_int_int.l0 : Nat → List Int → List Int → Int → Int → Option (Bool)
 | 0, _, _, _, _ => none
 | k + 1, x0, x1, x12, x13 => if x13 < x12 then (if 0 ≤ x13 then (if x13 < (x0.length : Int) then (if x13 < (x1.length : Int) then (if (rd x0 x13) = (rd x1 x13) then (slices_Equal_int_int.l0 k x0 x1 x12 (wrap64 (x13 + 1))) else (some false)) else (none)) else (none)) else (none)) else (some true)
def slices_Equal_int_int.f (k : Nat) (l0 : List Int) (l1 : List Int) : Option (Bool) := if (l0.length : Int) = (l1.length : Int) then (slices_Equal_int_int.l0 k l0 l1 (l0.length : Int) 0) else (some false)
theorem slices_Equal_int_int.mono_l : ∀ k, (∀ y0 y1 y2 y3, LeO (slices_Equal_int_int.l0 k y0 y1 y2 y3) (slices_Equal_int_int.l0 (k + 1) y0 y1 y2 y3))
 | 0 => fun _ _ _ _ r h => by simp [slices_Equal_int_int.l0] at h
 | k + 1 => by
  have ih0 := slices_Equal_int_int.mono_l k
  ·intro y0 y1 y2 y3
   unfold slices_Equal_int_int.l0
   repeat' first
   | (with_reducible exact ih0 _ _ _ _)
   | (with_reducible exact LeO.refl _)
   | (with_reducible exact LeO.none _)
   | (with_reducible refine LeO.ite ?_ ?_)
   | (with_reducible refine LeO.bind ?_ (fun _ => ?_))
   | exact ih0 _ _ _ _
   | exact LeO.none _
   | refine LeO.ite ?_ ?_
   | refine LeO.bind ?_ (fun _ => ?_)
theorem slices_Equal_int_int.mono : ∀ a0 a1 k, LeO (slices_Equal_int_int.f k a0 a1) (slices_Equal_int_int.f (k + 1) a0 a1) := by
 intro a0 a1 k
 have ih0 := slices_Equal_int_int.mono_l k
 unfold slices_Equal_int_int.f
 repeat' first
   | (with_reducible exact ih0 _ _ _ _)
   | (with_reducible exact LeO.refl _)
   | (with_reducible exact LeO.none _)
   | (with_reducible refine LeO.ite ?_ ?_)
   | (with_reducible refine LeO.bind ?_ (fun _ => ?_))
   | exact ih0 _ _ _ _
   | exact LeO.none _
   | refine LeO.ite ?_ ?_
   | refine LeO.bind ?_ (fun _ => ?_)
set_option maxHeartbeats 8000000 in
set_option maxRecDepth 100000 in
theorem slices_Equal_int_int.calls (k : Nat) (A0 : Option Addr) (c0 : Nat) (l0 : List Int) (A1 : Option Addr) (c1 : Nat) (l1 : List Int) (r : Bool) (w : World) (hr0 : Kd.C (Kd.int .i64) w A0 l0.length l0) (hc0 : l0.length ≤ c0) (hr1 : Kd.C (Kd.int .i64) w A1 l1.length l1) (hc1 : l1.length ≤ c1) (h : slices_Equal_int_int.f k l0 l1 = some r) :
  Calls Try.prog 64 #[.slice A0 l0.length c0, .slice A1 l1.length c1] w fun e w' => e = .returned (.bool r) ∧ Drawn0 w w' := by
 have HR0 := Aside0.mk hr0
 have HC0 := Aside0.mk hc0
 clear hr0 hc0
 have HR1 := Aside0.mk hr1
 have HC1 := Aside0.mk hc1
 clear hr1 hc1
 have H : (if (l0.length : Int) = (l1.length : Int) then (slices_Equal_int_int.l0 k l0 l1 (l0.length : Int) 0) else (some false)) = some r := h
 clear h
 by_cases c3 : (l0.length : Int) = (l1.length : Int)
 ·rw [if_pos c3] at H
  have c3b0 : ((l0.length : Int) == (l1.length : Int)) = true := beq_iff_eq.mpr c3
  have c3b1 : ((l0.length : Int) != (l1.length : Int)) = false := bne_eq_false_iff_eq.mpr c3
  have c3b2 : (l0.length == l1.length) = true := by first | simpa using c3 | (simp at c3 ⊢; omega)
  clear c3
  have H' := Aside0.mk H
  clear H
  go_enter Try.func64, Try.ntmps64
  go_wp2
  repeat (go_quiet (fail); try go_wp2)
  go_loopg [13] k (fun kq v13 w' => ∃ (x13_1 : Int), v13 = .int .i64 x13_1 ∧ Aside0 (slices_Equal_int_int.l0 kq l0 l1 (l0.length : Int) x13_1 = some r) ∧ Aside0 (kq ≤ k) ∧ Drawn0 w w')
  case atStart => exact ⟨(0), (by first | rfl | (simp; done) | (simp [*]; done)), H', ⟨Nat.le_refl _⟩, by repeat (first | exact Drawn0.refl _ | apply Drawn0.step)⟩
  case round =>
   clear H'
   try clear c1
   try clear p2
   try clear c3
   try clear c3b0
   try clear c3b1
   try clear c3b2
   obtain ⟨x13_1, rfl, HA, HK1, ⟨m1, rfl⟩⟩ := hrel
   cases gk with
   | zero => exact absurd HA.out (by simp [slices_Equal_int_int.l0])
   | succ k1 =>
    have H := HA.out
    clear HA
    simp only [slices_Equal_int_int.l0] at H
    by_cases c4 : x13_1 < (l0.length : Int)
    ·rw [if_pos c4] at H
     have c4b0 : decide (x13_1 < (l0.length : Int)) = true := decide_eq_true c4
     clear c4
     by_cases c5 : 0 ≤ x13_1
     ·rw [if_pos c5] at H
      have c5b0 : decide (0 ≤ x13_1) = true := decide_eq_true c5
      clear c5
      by_cases c6 : x13_1 < (l0.length : Int)
      ·rw [if_pos c6] at H
       have c6b0 : decide (x13_1 < (l0.length : Int)) = true := decide_eq_true c6
       clear c6
       by_cases c7 : x13_1 < (l1.length : Int)
       ·rw [if_pos c7] at H
        have c7b0 : decide (x13_1 < (l1.length : Int)) = true := decide_eq_true c7
        clear c7
        by_cases c8 : (rd l0 x13_1) = (rd l1 x13_1)
        ·rw [if_pos c8] at H
         have c8b0 : ((rd l0 x13_1) == (rd l1 x13_1)) = true := beq_iff_eq.mpr c8
         have c8b1 : ((rd l0 x13_1) != (rd l1 x13_1)) = false := bne_eq_false_iff_eq.mpr c8
         clear c8
         have H' := Aside0.mk H
         clear H
         have p498 : 0 ≤ (x13_1 : Int) := of_decide_eq_true (by first | (with_reducible assumption) | assumption)
         have q498 : x13_1 < (l0.length : Int) := of_decide_eq_true (by first | (with_reducible assumption) | assumption)
         obtain ⟨ad498, e498, hx498_0⟩ := Kd.at_int HR0.out x13_1 p498 q498
         cases e498
         replace p498 := eq_true p498
         replace q498 := eq_true q498
         have p499 : 0 ≤ (x13_1 : Int) := of_decide_eq_true (by first | (with_reducible assumption) | assumption)
         have q499 : x13_1 < (l1.length : Int) := of_decide_eq_true (by first | (with_reducible assumption) | assumption)
         obtain ⟨ad499, e499, hx499_0⟩ := Kd.at_int HR1.out x13_1 p499 q499
         cases e499
         replace p499 := eq_true p499
         replace q499 := eq_true q499
         go_wp2
         repeat (go_quiet (fail); try go_wp2)
         go_roundg k1
         case measure => have := HK1.out; omega
         case rel => exact ⟨(wrap64 (x13_1 + 1)), (by first | rfl | (simp; done) | (simp [*]; done)), H', ⟨by have := HK1.out; omega⟩, by repeat (first | exact Drawn0.refl _ | apply Drawn0.step)⟩
        ·rw [if_neg c8] at H
         have c8b0 : ((rd l0 x13_1) == (rd l1 x13_1)) = false := beq_eq_false_iff_ne.mpr c8
         have c8b1 : ((rd l0 x13_1) != (rd l1 x13_1)) = true := bne_iff_ne.mpr c8
         obtain rfl := Option.some.inj H
         have p498 : 0 ≤ (x13_1 : Int) := of_decide_eq_true (by first | (with_reducible assumption) | assumption)
         have q498 : x13_1 < (l0.length : Int) := of_decide_eq_true (by first | (with_reducible assumption) | assumption)
         obtain ⟨ad498, e498, hx498_0⟩ := Kd.at_int HR0.out x13_1 p498 q498
         cases e498
         replace p498 := eq_true p498
         replace q498 := eq_true q498
         have p499 : 0 ≤ (x13_1 : Int) := of_decide_eq_true (by first | (with_reducible assumption) | assumption)
         have q499 : x13_1 < (l1.length : Int) := of_decide_eq_true (by first | (with_reducible assumption) | assumption)
         obtain ⟨ad499, e499, hx499_0⟩ := Kd.at_int HR1.out x13_1 p499 q499
         cases e499
         replace p499 := eq_true p499
         replace q499 := eq_true q499
         go_wp2
         repeat (go_quiet (fail); try go_wp2)
         go_ret
         exact ⟨by first | rfl | (simp; done) | (simp [*]; done), by repeat (first | exact Drawn0.refl _ | apply Drawn0.step)⟩
       ·rw [if_neg c7] at H
        exact absurd H (by simp)
      ·rw [if_neg c6] at H
       exact absurd H (by simp)
     ·rw [if_neg c5] at H
      exact absurd H (by simp)
    ·rw [if_neg c4] at H
     have c4b0 : decide (x13_1 < (l0.length : Int)) = false := decide_eq_false c4
     clear c4
     obtain rfl := Option.some.inj H
     go_wp2
     repeat (go_quiet (fail); try go_wp2)
     go_ret
     exact ⟨by first | rfl | (simp; done) | (simp [*]; done), by repeat (first | exact Drawn0.refl _ | apply Drawn0.step)⟩
 ·rw [if_neg c3] at H
  have c3b0 : ((l0.length : Int) == (l1.length : Int)) = false := beq_eq_false_iff_ne.mpr c3
  have c3b1 : ((l0.length : Int) != (l1.length : Int)) = true := bne_iff_ne.mpr c3
  have c3b2 : (l0.length == l1.length) = false := by first | simpa using c3 | (simp at c3 ⊢; omega)
  obtain rfl := Option.some.inj H
  go_enter Try.func64, Try.ntmps64
  go_wp2
  repeat (go_quiet (fail); try go_wp2)
  go_ret
  exact ⟨by first | rfl | (simp; done) | (simp [*]; done), by repeat (first | exact Drawn0.refl _ | apply Drawn0.step)⟩

/-- THE ONE PURE STATEMENT of slices_Equal_int_int: yours. -/
def slices_Equal_int_int.Pure : Prop := ∀ (l0 : List Int) (l1 : List Int), l0.length ≤ maxLen → l0.length * 8 ≤ 140737488351232 → (∀ x ∈ l0, (Lit.int .i64 x).wf = true) → l1.length ≤ maxLen → l1.length * 8 ≤ 140737488351232 → (∀ x ∈ l1, (Lit.int .i64 x).wf = true) → ∃ k, slices_Equal_int_int.f k l0 l1 = some true
theorem slices_Equal_int_int.walk (P : slices_Equal_int_int.Pure) (a0 : Option Addr) (len0 cap0 : Nat) (z0 : List Int) (a1 : Option Addr) (len1 cap1 : Nat) (z1 : List Int) (w : World) (w0 : (a0 = none ∧ len0 = 0 ∧ cap0 = 0 ∧ z0 = []) ∨ ∃ x, a0 = some x ∧ len0 ≤ cap0 ∧ cap0 ≤ maxLen ∧ z0.length = cap0 ∧ (∀ i, i < z0.length → w.cell? (x.add i) = some (.int .i64 (z0.getD i 0))) ∧ ∀ n ∈ z0, (Lit.int .i64 n).wf = true) (y0 : len0 * 8 ≤ 140737488351232) (w1 : (a1 = none ∧ len1 = 0 ∧ cap1 = 0 ∧ z1 = []) ∨ ∃ x, a1 = some x ∧ len1 ≤ cap1 ∧ cap1 ≤ maxLen ∧ z1.length = cap1 ∧ (∀ i, i < z1.length → w.cell? (x.add i) = some (.int .i64 (z1.getD i 0))) ∧ ∀ n ∈ z1, (Lit.int .i64 n).wf = true) (y1 : len1 * 8 ≤ 140737488351232) :
  Calls Try.prog 64 #[.slice a0 len0 cap0, .slice a1 len1 cap1] w fun e w' => e = .returned (.bool true) ∧ Below w.heap.size w w' := by
 obtain ⟨l0, rfl, hr0, hm0, hw0, hc0⟩ := ReadsInt.ofRowC w0
 obtain ⟨l1, rfl, hr1, hm1, hw1, hc1⟩ := ReadsInt.ofRowC w1
 obtain ⟨k, h⟩ := P l0 l1 hm0 y0 hw0 hm1 y1 hw1
 refine (slices_Equal_int_int.calls k _ _ l0 _ _ l1 true w (Kd.C_of_reads (d := (0 : Int)) (h1 := fun _ => rfl) hr0) hc0 (Kd.C_of_reads (d := (0 : Int)) (h1 := fun _ => rfl) hr1) hc1 h).mono ?_
 rintro e w' ⟨rfl, hd⟩
 exact ⟨rfl, hd.below⟩

end Go.Proofs.Ytkdgpbcecnmdhaa.P

-- Ucmp
namespace Go.Proofs.Ytkdgpbcecnmdhaa.P
open Go.RowKit Go.Proofs.YtkdgpbcecnmdhaaW.PrintWords Go.Proofs.YtkdgpbcecnmdhaaW.PrintLast
set_option linter.unusedVariables false
set_option linter.unusedSimpArgs false

def cmpL : List Int → List Int → Int
  | [], [] => 0
  | [], _ :: _ => -1
  | _ :: _, [] => 1
  | x :: a, y :: b => if x < y then -1 else if y < x then 1 else cmpL a b
theorem cmpL_self : ∀ a, cmpL a a = 0
  | [] => rfl
  | x :: a => by simp [cmpL, cmpL_self a]
theorem cmpL_anti : ∀ a b, cmpL b a = - cmpL a b
  | [], [] => rfl
  | [], _ :: _ => rfl
  | _ :: _, [] => rfl
  | x :: a, y :: b => by
    simp only [cmpL, cmpL_anti a b]
    split <;> split <;> first | rfl | omega
theorem cmpL_eq : ∀ a b, cmpL a b = 0 → a = b
  | [], [], _ => rfl
  | [], _ :: _, h => by simp [cmpL] at h
  | _ :: _, [], h => by simp [cmpL] at h
  | x :: a, y :: b, h => by
    simp only [cmpL] at h
    split at h
    · omega
    · split at h
      · omega
      · rw [cmpL_eq a b h, show x = y by omega]
theorem cmpL_trans : ∀ a b c, cmpL a b < 0 → cmpL b c < 0 → cmpL a c < 0
  | [], [], _, h, _ => by simp [cmpL] at h
  | [], _ :: _, [], _, h => by simp [cmpL] at h
  | [], _ :: _, _ :: _, _, _ => by simp [cmpL]
  | _ :: _, [], _, h, _ => by simp [cmpL] at h
  | _ :: _, _ :: _, [], _, h => by simp [cmpL] at h
  | x :: a, y :: b, z :: c, h, g => by
    have ih := cmpL_trans a b c
    simp only [cmpL] at h g ⊢
    split at h <;> split at g <;> (try split at h) <;> (try split at g) <;> (try split) <;> (try split) <;> first | omega | (apply ih <;> assumption)
theorem cmpL_bound : ∀ a b, -1 ≤ cmpL a b ∧ cmpL a b ≤ 1
  | [], [] => by simp [cmpL]
  | [], _ :: _ => by simp [cmpL]
  | _ :: _, [] => by simp [cmpL]
  | x :: a, y :: b => by
    have ih := cmpL_bound a b
    simp only [cmpL]
    split
    · omega
    · split <;> omega
/-- A comparison that tells unequal ones apart and is a strict order makes a total order. -/
structure Total (cf : List Int → List Int → Int) : Prop where
  anti : ∀ a b, cf a b < 0 ↔ 0 < cf b a
  trans : ∀ a b c, cf a b < 0 → cf b c < 0 → cf a c < 0
  eq : ∀ a b, cf a b = 0 → a = b
  self : ∀ a, cf a a = 0
theorem Total.swo {cf : List Int → List Int → Int} (h : Total cf) : Go.Sort.SWO (fun a b => decide (cf a b < 0)) where
  irrefl := fun x => by have := h.self x; simp; omega
  trans := fun x y z hx hy => by simp only [decide_eq_true_eq] at *; exact h.trans x y z hx hy
  ntrans := fun x y z hx hy => by
    simp only [decide_eq_false_iff_not] at *
    intro hz
    by_cases e1 : cf x y = 0
    · exact hy (h.eq x y e1 ▸ hz)
    · by_cases e2 : cf y z = 0
      · exact hx (h.eq y z e2 ▸ hz)
      · have h1 : cf y x < 0 := by rw [h.anti]; omega
        have h2 : cf z y < 0 := by rw [h.anti]; omega
        have h3 := h.trans z y x h2 h1
        have h4 := (h.anti x z).1 hz
        omega
theorem cmpL_total : Total cmpL where
  anti := fun a b => by rw [cmpL_anti a b]; omega
  trans := cmpL_trans
  eq := cmpL_eq
  self := cmpL_self
/-- Two sorted lists with the same elements as often are one. -/
theorem Total.unique {cf : List Int → List Int → Int} (h : Total cf) {xs ys : List (List Int)} (hp : xs.Perm ys) (hx : xs.Pairwise fun a b => ¬ cf b a < 0) (hy : ys.Pairwise fun a b => ¬ cf b a < 0) : xs = ys := by
  refine List.Perm.eq_of_pairwise (le := fun a b => ¬ cf b a < 0) ?_ hx hy hp
  intro a b _ _ h1 h2
  by_cases e : cf a b = 0
  · exact h.eq a b e
  · have := h.anti b a
    omega
/-- Two strictly sorted lists with the same elements are one. -/
theorem Total.uniqueS {cf : List Int → List Int → Int} (h : Total cf) : ∀ {xs ys : List (List Int)}, (xs.Pairwise fun a b => cf a b < 0) → (ys.Pairwise fun a b => cf a b < 0) → (∀ z, z ∈ xs ↔ z ∈ ys) → xs = ys
  | [], [], _, _, _ => rfl
  | [], y :: ys, _, _, hm => by have := (hm y).2 (by simp); simp at this
  | x :: xs, [], _, _, hm => by have := (hm x).1 (by simp); simp at this
  | x :: xs, y :: ys, hx, hy, hm => by
    rw [List.pairwise_cons] at hx hy
    have hxy : x = y := by
      rcases List.mem_cons.1 ((hm x).1 (by simp)) with e | h1
      · exact e
      · rcases List.mem_cons.1 ((hm y).2 (by simp)) with e | h2
        · exact e.symm
        · have h3 := hy.1 x h1
          have h4 := hx.1 y h2
          have := (h.anti x y).1 h4
          omega
    subst hxy
    congr 1
    refine h.uniqueS hx.2 hy.2 fun z => ?_
    constructor
    · intro hz
      rcases List.mem_cons.1 ((hm z).1 (List.mem_cons_of_mem _ hz)) with e | h1
      · subst e; have := hx.1 z hz; have := h.self z; omega
      · exact h1
    · intro hz
      rcases List.mem_cons.1 ((hm z).2 (List.mem_cons_of_mem _ hz)) with e | h1
      · subst e; have := hy.1 z hz; have := h.self z; omega
      · exact h1

theorem rd_app (pre : List Int) (x : Int) (a : List Int) : rd (pre ++ x :: a) (pre.length : Int) = x := by
  simp [rd]
theorem compare_loop (l m : List Int) (hl : l.length < 9223372036854775807) : ∀ (a b pre pre' : List Int) (k : Nat), l = pre ++ a → m = pre' ++ b → pre.length = pre'.length → a.length < k → slices_Compare_int_int.l0 k l m l (l.length : Int) (pre.length : Int) = some (cmpL a b)
  | a, b, pre, pre', 0, _, _, _, hk => by omega
  | [], b, pre, pre', k + 1, el, em, ep, _ => by
    have h1 : l.length = pre.length := by rw [el]; simp
    have h2 : m.length = pre'.length + b.length := by rw [em]; simp
    simp only [slices_Compare_int_int.l0]
    rw [if_neg (by omega)]
    cases b with
    | nil => rw [if_neg (by simp at h2; omega)]; rfl
    | cons y b => rw [if_pos (by simp at h2; omega)]; rfl
  | x :: a, b, pre, pre', k + 1, el, em, ep, hk => by
    have h1 : l.length = pre.length + (a.length + 1) := by rw [el]; simp
    have h2 : m.length = pre'.length + b.length := by rw [em]; simp
    simp only [slices_Compare_int_int.l0]
    rw [if_pos (by omega), if_pos (by omega), if_pos (by omega)]
    cases b with
    | nil => rw [if_pos (by simp at h2; omega)]; rfl
    | cons y b =>
      simp only [List.length_cons] at h2 hk
      rw [if_neg (by omega), if_pos (by omega)]
      have e1 : rd l (pre.length : Int) = x := by rw [el]; exact rd_app _ _ _
      have e2 : rd m (pre.length : Int) = y := by rw [em, ep]; exact rd_app _ _ _
      rw [e1, e2]
      have hw : wrap64 ((pre.length : Int) + 1) = ((pre ++ [x]).length : Int) := by
        rw [show wrap64 ((pre.length : Int) + 1) = (pre.length : Int) + 1 from ?_]
        · simp
        · unfold wrap64; omega
      have ih := compare_loop l m hl a b (pre ++ [x]) (pre' ++ [y]) k (by rw [el]; simp) (by rw [em]; simp) (by simp [ep]) (by omega)
      rw [hw]
      simp only [cmp_Compare_int.f, cmp_isNaN_int.f]
      simp only [cmpL]
      rcases Int.lt_trichotomy x y with hlt | heq | hgt
      · simp [hlt, show ¬ y < x by omega, cmp_isNaN_int.f]
      · subst heq
        simpa [cmp_isNaN_int.f] using ih
      · simp [hgt, show ¬ x < y by omega, cmp_isNaN_int.f]
theorem compare_ev (l m : List Int) (hl : l.length < 9223372036854775807) : slices_Compare_int_int.f (l.length + 1) l m = some (cmpL l m) := by
  have := compare_loop l m hl l m [] [] (l.length + 1) rfl rfl rfl (by omega)
  simpa [slices_Compare_int_int.f] using this
theorem equal_loop (l m : List Int) (hlm : l.length = m.length) (hl : l.length < 9223372036854775807) : ∀ (a b pre pre' : List Int) (k : Nat), l = pre ++ a → m = pre' ++ b → pre.length = pre'.length → a.length < k → slices_Equal_int_int.l0 k l m (l.length : Int) (pre.length : Int) = some (decide (a = b))
  | a, b, pre, pre', 0, _, _, _, hk => by omega
  | [], b, pre, pre', k + 1, el, em, ep, _ => by
    have h1 : l.length = pre.length := by rw [el]; simp
    have h2 : m.length = pre'.length + b.length := by rw [em]; simp
    simp only [slices_Equal_int_int.l0]
    rw [if_neg (by omega), show b = [] from List.eq_nil_of_length_eq_zero (by omega)]
    rfl
  | x :: a, b, pre, pre', k + 1, el, em, ep, hk => by
    have h1 : l.length = pre.length + (a.length + 1) := by rw [el]; simp
    have h2 : m.length = pre'.length + b.length := by rw [em]; simp
    simp only [slices_Equal_int_int.l0]
    rw [if_pos (by omega), if_pos (by omega), if_pos (by omega), if_pos (by omega)]
    cases b with
    | nil => simp at h2; omega
    | cons y b =>
      simp only [List.length_cons] at h2 hk
      have e1 : rd l (pre.length : Int) = x := by rw [el]; exact rd_app _ _ _
      have e2 : rd m (pre.length : Int) = y := by rw [em, ep]; exact rd_app _ _ _
      rw [e1, e2]
      have hw : wrap64 ((pre.length : Int) + 1) = ((pre ++ [x]).length : Int) := by
        rw [show wrap64 ((pre.length : Int) + 1) = (pre.length : Int) + 1 from ?_]
        · simp
        · unfold wrap64; omega
      have ih := equal_loop l m hlm hl a b (pre ++ [x]) (pre' ++ [y]) k (by rw [el]; simp) (by rw [em]; simp) (by simp [ep]) (by omega)
      rw [hw]
      by_cases e : x = y
      · subst e
        rw [if_pos rfl, ih]
        simp
      · rw [if_neg e]
        simp [e]
theorem equal_ev (l m : List Int) (hl : l.length < 9223372036854775807) : slices_Equal_int_int.f (l.length + 1) l m = some (decide (l = m)) := by
  unfold slices_Equal_int_int.f
  by_cases h : l.length = m.length
  · rw [if_pos (by omega)]
    have := equal_loop l m h hl l m [] [] (l.length + 1) rfl rfl rfl (by omega)
    simpa using this
  · rw [if_neg (by omega)]
    have : l ≠ m := fun e => h (by rw [e])
    simp [this]
end Go.Proofs.Ytkdgpbcecnmdhaa.P

-- UrowsCompact
namespace Go.Proofs.Ytkdgpbcecnmdhaa.P
set_option linter.unusedVariables false
set_option linter.unusedSimpArgs false
open Go.Shelf Go.Lib Go.Sort Go.RowKit Go.Proofs.YtkdgpbcecnmdhaaW.PrintWords Go.Proofs.YtkdgpbcecnmdhaaW.PrintLast

/-- Which places are kept. -/
def kpOf {α : Type} [Inhabited α] (p : α → α → Bool) (d : Array α) (j : Nat) : Bool := j == 0 || !p d[j]! d[j - 1]!

set_option maxHeartbeats 4000000 in
set_option maxRecDepth 1000000 in
theorem compact_walk {α : Type} [Inhabited α] (enc : α → Value) (hO : OneCell enc) (p : α → α → Bool) (zr : α) (hz : enc zr = .slice none 0 0) (blk off cap : Nat) (d : Array α) (w : World)
    (hp : ∀ (dk : Array α) (u v : α) (q : Nat), dk.size = d.size → Calls Try.prog 64 #[enc u, enc v] (putRow enc (Sort.ahead w q) blk off dk) fun e w' => e = .returned (.bool (p u v)) ∧ ∃ qq, w' = (putRow enc (Sort.ahead w q) blk off dk).drewN qq)
    (hH : Holds enc w blk off d) (hsz : d.size ≤ 9223372036854775807) (hcap : d.size ≤ cap) :
    Calls Try.prog 63 #[.slice (some ⟨blk, off, none⟩) d.size cap, .func (.func 64) #[] #[]] w fun e w' => e = .returned (.slice (some ⟨blk, off, none⟩) (keptUpTo (kpOf p d) d d.size).length cap) ∧ ∃ q, w' = putRow enc (Sort.ahead w q) blk off (keptUpTo (kpOf p d) d d.size ++ List.replicate (d.size - (keptUpTo (kpOf p d) d d.size).length) zr).toArray := by
  have eg : ∀ args w, (callFunc 64 args).run Try.prog w = .ok (.enter 64 args) w := fun args w => enters_of Try.func64 (by kernel_rfl) rfl args w
  have t39 := Try.underlying25
  have t22 := Try.underlying30
  have hcl0 := hO.cells
  simp only [Value.cells] at hcl0
  have hst := hO.store Try.prog
  obtain ⟨kp, HK⟩ : ∃ kp : Nat → Bool, Hid (kp = kpOf p d) := ⟨_, rfl⟩
  rw [← HK.out]
  have hk0 : kp 0 = true := by rw [HK.out]; rfl
  have same : ∀ q, (∀ j, j < d.size → kp j = true) → (keptUpTo kp d d.size).length = d.size ∧ putRow enc (Sort.ahead w q) blk off d = putRow enc (Sort.ahead w q) blk off (keptUpTo kp d d.size ++ List.replicate (d.size - (keptUpTo kp d d.size).length) zr).toArray := by
    intro q hall
    have e : keptUpTo kp d d.size = d.toList := by rw [keptUpTo_all kp d _ hall, range_map_get]
    rw [e]
    refine ⟨by simp, ?_⟩
    simp only [Array.length_toList, Nat.sub_self, List.replicate_zero, List.append_nil, Array.toArray_toList]
  have HS : Aside (∀ q, (∀ j, j < d.size → kp j = true) → (keptUpTo kp d d.size).length = d.size ∧ putRow enc (Sort.ahead w q) blk off d = putRow enc (Sort.ahead w q) blk off (keptUpTo kp d d.size ++ List.replicate (d.size - (keptUpTo kp d d.size).length) zr).toArray) := same
  have HP : Aside (∀ (dk : Array α) (u v : α) (q : Nat), dk.size = d.size → Calls Try.prog 64 #[enc u, enc v] (putRow enc (Sort.ahead w q) blk off dk) fun e w' => e = .returned (.bool (p u v)) ∧ ∃ qq, w' = (putRow enc (Sort.ahead w q) blk off dk).drewN qq) := hp
  have HH : Aside (Holds enc w blk off d) := hH
  have ZR : Aside (enc zr = .slice none 0 0) := hz
  have HCL : Aside (OneCell enc) := hO
  clear same hp hH hz hO
  by_cases h2 : d.size < 2
  · have hsm : Aside (∀ j, j < d.size → kp j = true) := fun j hj => by
      obtain rfl : j = 0 := by omega
      exact hk0
    go_enter Try.func63, Try.ntmps63
    go_wp2
    go_ret
    obtain ⟨e1, e2⟩ := HS.out 0 hsm.out
    refine ⟨by rw [e1]; rfl, 0, ?_⟩
    rw [← e2]
    exact (putRow_self enc (Sort.ahead w 0) blk off d (holds_ahead enc w 0 blk off d HH.out)).symm
  · go_enter Try.func63, Try.ntmps63
    go_wp2
    go_loopg [5] d.size (fun g s3 wr => ∃ k q : Nat, 1 ≤ k ∧ k ≤ d.size ∧ d.size - k ≤ g ∧ s3 = .int .i64 k ∧ wr = putRow enc (Sort.ahead w q) blk off d ∧ Aside (∀ j, j < k → kp j = true))
    case atStart =>
      refine ⟨1, 0, Nat.le_refl _, by omega, by omega, rfl, (putRow_self enc (Sort.ahead w 0) blk off d (holds_ahead enc w 0 blk off d HH.out)).symm, (show Aside _ from fun j hj => ?_)⟩
      obtain rfl : j = 0 := by omega
      exact hk0
    case round =>
      obtain ⟨k, q, hk1, hk, hg, rfl, hwr, A⟩ := hrel
      have W2 : Aside (wr = putRow enc (Sort.ahead w q) blk off d) := hwr
      have hHk : Holds enc wr blk off d := by rw [hwr]; exact holds_putRow enc _ blk off d d (holds_ahead enc w q blk off d HH.out) rfl
      by_cases hlt : k < d.size
      · have hc : ∀ n, Calls Try.prog 64 #[enc d[k]!, enc d[k - 1]!] (wr.drewN n) fun e w' => e = .returned (.bool (p d[k]! d[k - 1]!)) ∧ ∃ m, w' = (wr.drewN n).drewN m := fun n => by
          have := HP.out d d[k]! d[k - 1]! (q + n) rfl
          rw [← putRow_drewN, ← hwr] at this
          exact this
        obtain ⟨c1, f1⟩ := hHk k hlt
        obtain ⟨c0, f0⟩ := hHk (k - 1) (by omega)
        clear hHk hwr
        generalize hx : d[k]! = x at c1 hc
        generalize hy : d[k - 1]! = y at c0 hc
        have B : Aside (d[k]! = x ∧ d[k - 1]! = y) := ⟨hx, hy⟩
        clear hx hy
        obtain ⟨jp, rfl⟩ : ∃ jp, k = jp + 1 := ⟨k - 1, by omega⟩
        simp only [Nat.add_sub_cancel] at c0 f0
        have hwp : IntKind.i64.wrap (jp : Int) = (jp : Int) := by rw [IntKind.wrap_i64]; omega
        have jz : (jp : Int) + 1 < (d.size : Int) := by omega
        have jz1 : (jp : Int) < (d.size : Int) := by omega
        have p0 : (0 : Int) ≤ (jp : Int) + 1 := by omega
        have e0 : ((jp : Int) + 1).toNat = jp + 1 := by omega
        have c1' : wr.cell? ⟨blk, off + (jp + 1), none⟩ = some (enc x) := c1
        have c0' : wr.cell? ⟨blk, off + jp, none⟩ = some (enc y) := c0
        clear c1 c0 f1 f0
        cases hq : p x y with
        | true =>
          rw [hq] at hc
          have hdup : Aside (kp (jp + 1) = false) := (by
            show kp (jp + 1) = false
            rw [HK.out]
            unfold kpOf
            rw [B.out.1, B.out.2, hq]
            simp)
          go_wp2_with fail
          go_quiet (first | (go_at_call 64; refine Calls.quiet_of (hc _)))
          clear c1' c0' hc
          have W3 : Aside (wr.drewN nq = putRow enc (Sort.ahead w (q + nq)) blk off d) := by show _ = _; rw [W2.out]; exact putRow_drewN _ _ _ _ _ _ _
          generalize wr.drewN nq = wr3 at W3 ⊢
          go_wp2
          go_loopg [5, 7] d.size (fun g s5 s7 wr => ∃ (kk k2 q2 : Nat) (dk : Array α), s5 = .int .i64 kk ∧ s7 = .int .i64 k2 ∧ 1 ≤ k2 ∧ jp + 1 + k2 ≤ d.size ∧ d.size - (jp + 1 + k2) ≤ g ∧ wr = putRow enc (Sort.ahead w q2) blk off dk ∧ Aside (KeptInv kp d (jp + 1 + k2) kk dk))
          case atStart => exact ⟨jp + 1, 1, q + nq, d, by go_num, rfl, Nat.le_refl _, by omega, by omega, W3.out, KeptInv.start A.out hdup.out⟩
          case round =>
            clear W3 W2 hdup
            obtain ⟨kk, k2, q2, dk, rfl, rfl, h1, hle, hg2, hwr, I2⟩ := hrel
            have hkk := I2.out.lt
            have hds := I2.out.size
            have hHk : Holds enc wr blk off dk := by rw [hwr]; exact holds_putRow enc _ blk off d dk (holds_ahead enc w q2 blk off d HH.out) hds
            have W5 : Aside (wr = putRow enc (Sort.ahead w q2) blk off dk) := hwr
            obtain ⟨j2, rfl⟩ : ∃ j2, k2 = j2 + 1 := ⟨k2 - 1, by omega⟩
            by_cases hlt2 : jp + 1 + (j2 + 1) < d.size
            · have hc : ∀ n, Calls Try.prog 64 #[enc d[jp + 1 + (j2 + 1)]!, enc d[jp + 1 + j2]!] (wr.drewN n) fun e w' => e = .returned (.bool (p d[jp + 1 + (j2 + 1)]! d[jp + 1 + j2]!)) ∧ ∃ m, w' = (wr.drewN n).drewN m := fun n => by
                have := HP.out dk d[jp + 1 + (j2 + 1)]! d[jp + 1 + j2]! (q2 + n) hds
                rw [← putRow_drewN, ← hwr] at this
                exact this
              obtain ⟨cm, _⟩ := hHk (jp + 1 + (j2 + 1)) (by omega)
              obtain ⟨cp, _⟩ := hHk (jp + 1 + j2) (by omega)
              obtain ⟨ck, fk⟩ := hHk kk (by omega)
              rw [I2.out.high (jp + 1 + (j2 + 1)) (by omega)] at cm
              rw [I2.out.high (jp + 1 + j2) (by omega)] at cp
              have cm' : wr.cell? ⟨blk, off + (jp + 1) + (j2 + 1), none⟩ = some (enc d[jp + 1 + (j2 + 1)]!) := by rw [← cm]; congr 2; omega
              have cp' : wr.cell? ⟨blk, off + (jp + 1) + j2, none⟩ = some (enc d[jp + 1 + j2]!) := by rw [← cp]; congr 2; omega
              clear hHk hwr cm cp
              generalize hu : d[jp + 1 + (j2 + 1)]! = u at cm' hc
              generalize hv : d[jp + 1 + j2]! = v at cp' hc
              generalize dk[kk]! = old at ck
              have C : Aside (d[jp + 1 + (j2 + 1)]! = u ∧ d[jp + 1 + j2]! = v) := ⟨hu, hv⟩
              clear hu hv
              have hwp2 : IntKind.i64.wrap (j2 : Int) = (j2 : Int) := by rw [IntKind.wrap_i64]; omega
              have y1 : (jp : Int) + 1 + ((j2 : Int) + 1) < (d.size : Int) := by omega
              have y2 : (j2 : Int) + 1 < (d.size : Int) - ((jp : Int) + 1) := by omega
              have y3 : (j2 : Int) < (d.size : Int) - ((jp : Int) + 1) := by omega
              have y4 : (0 : Int) ≤ (j2 : Int) + 1 := by omega
              have y5 : ((j2 : Int) + 1).toNat = j2 + 1 := by omega
              have y6 : (kk : Int) < (d.size : Int) := by omega
              have y7 : ((d.size - (jp + 1) : Nat) : Int) = (d.size : Int) - ((jp : Int) + 1) := by omega
              cases hq2 : p u v with
              | true =>
                rw [hq2] at hc
                go_wp2_with fail
                go_quiet (first | (go_at_call 64; refine Calls.quiet_of (hc _)))
                go_wp2
                go_roundg (d.size - (jp + 1 + (j2 + 1 + 1)))
                case measure => omega
                case rel => exact ⟨kk, j2 + 1 + 1, q2 + nq, dk, rfl, by go_num, by omega, by omega, Nat.le_refl _, by rw [W5.out]; exact putRow_drewN _ _ _ _ _ _ _, I2.out.skip (by rw [HK.out]; unfold kpOf; rw [show jp + 1 + (j2 + 1) - 1 = jp + 1 + j2 by omega, C.out.1, C.out.2, hq2]; simp)⟩
              | false =>
                rw [hq2] at hc
                go_wp2_with fail
                go_quiet (first | (go_at_call 64; refine Calls.quiet_of (hc _)))
                go_wp2_with fail
                have W6 : Aside (wr.drewN nq = putRow enc (Sort.ahead w (q2 + nq)) blk off dk) := by show _ = _; rw [W5.out]; exact putRow_drewN _ _ _ _ _ _ _
                have cm2 : (wr.drewN nq).cell? ⟨blk, off + (jp + 1) + (j2 + 1), none⟩ = some (enc u) := cm'
                have ck2 : (wr.drewN nq).cell? ⟨blk, off + kk, none⟩ = some (enc old) := ck
                have fk2 : (wr.drewN nq).frozen? ⟨blk, off + kk, none⟩ = false := fk
                clear cm' cp' ck fk hc
                generalize wr.drewN nq = wr6 at W6 cm2 ck2 fk2 ⊢
                go_wp2
                go_roundg (d.size - (jp + 1 + (j2 + 1 + 1)))
                case measure => omega
                case rel =>
                  refine ⟨kk + 1, j2 + 1 + 1, q2 + nq, dk.setIfInBounds kk u, by go_num, by go_num, by omega, by omega, Nat.le_refl _, ?_, (show Aside _ from ?_)⟩
                  · rw [W6.out]
                    exact putRow_set enc _ blk off dk kk u (by omega)
                  · have := I2.out.keep hlt2 (by rw [HK.out]; unfold kpOf; rw [show jp + 1 + (j2 + 1) - 1 = jp + 1 + j2 by omega, C.out.1, C.out.2, hq2]; simp)
                    rwa [C.out.1] at this
            · have hend : jp + 1 + (j2 + 1) = d.size := by omega
              have hcl : ∀ ty, (Builtin.clear_ #[25] ty #[.slice (some ⟨blk, off + kk, none⟩) (d.size - kk) (cap - kk)]).run Try.prog wr = .ok (.tuple #[]) (wr.setCells blk (off + kk) (List.replicate (d.size - kk) (enc zr))) :=
                fun ty => Lib.run_clear_slice wr _ _ ty _ t39 (fun w => by rw [ZR.out]; exact Try.zeroValue30 w) (HCL.out.cells zr) (HCL.out zr) blk (off + kk) _ _ (by omega) (fun j hj => by rw [show off + kk + j = off + (kk + j) by omega, (hHk (kk + j) (by omega)).1]; rfl) (fun j hj => by rw [show off + kk + j = off + (kk + j) by omega]; exact (hHk (kk + j) (by omega)).2)
              have y4 : (0 : Int) ≤ (j2 : Int) + 1 := by omega
              have y2 : ¬ (j2 : Int) + 1 < (d.size : Int) - ((jp : Int) + 1) := by omega
              have y7 : ((d.size - (jp + 1) : Nat) : Int) = (d.size : Int) - ((jp : Int) + 1) := by omega
              clear hHk hwr
              go_wp2
              go_ret
              have hI := I2.out
              rw [hend] at hI
              refine ⟨by rw [hI.len]; rfl, q2, ?_⟩
              rw [hI.len, ← hI.done zr, ← putRow_setCells enc _ blk off _ dk kk (by simp; omega), ← W5.out, List.map_replicate]
        | false =>
          rw [hq] at hc
          go_wp2_with fail
          go_quiet (first | (go_at_call 64; refine Calls.quiet_of (hc _)))
          go_wp2
          go_roundg (d.size - (jp + 1 + 1))
          case measure => omega
          case rel =>
            refine ⟨jp + 1 + 1, q + nq, by omega, by omega, Nat.le_refl _, by go_num, by rw [W2.out]; exact putRow_drewN _ _ _ _ _ _ _, (show Aside _ from fun j hj => ?_)⟩
            by_cases e : j = jp + 1
            · subst e
              rw [HK.out]
              unfold kpOf
              rw [B.out.1, B.out.2, hq]
              simp
            · exact A.out j (by omega)
      · have : k = d.size := by omega
        subst this
        clear hHk hwr
        go_wp2
        go_ret
        obtain ⟨e1, e2⟩ := HS.out q A.out
        exact ⟨by rw [e1]; rfl, q, by rw [← e2]; exact W2.out⟩
end Go.Proofs.Ytkdgpbcecnmdhaa.P

-- UrowsSort
namespace Go.Proofs.Ytkdgpbcecnmdhaa.P
set_option linter.unusedVariables false
set_option linter.unusedSimpArgs false
open Go.RowKit Go.Proofs.YtkdgpbcecnmdhaaW.PrintWords Go.Proofs.YtkdgpbcecnmdhaaW.PrintLast

/-- A row's inner row: its value, and what it holds. -/
structure RowAt (w : World) (base : Nat) (ok : Nat → Prop) (Pr : List Int → Prop) where
  l : List Int
  v : Value
  hR : Kd.R (Kd.int .i64) 3 w base ok v l
  hP : Pr l
theorem RowAt.one {w : World} {base : Nat} {ok : Nat → Prop} {Pr : List Int → Prop} (x : RowAt w base ok Pr) : x.v.oneCell' = true := by
  obtain ⟨A, c, e⟩ := Kd.R_slice x.hR
  rw [e]
  rfl
theorem rows_at {w : World} {base : Nat} {ok : Nat → Prop} {Pr : List Int → Prop} : ∀ (vs : List Value) (L : List (List Int)), vs.length = L.length → (∀ (j : Nat) (u : Value) (x : List Int), vs[j]? = some u → L[j]? = some x → Kd.R (Kd.int .i64) 3 w base ok u x) → (∀ x ∈ L, Pr x) → ∃ ds : List (RowAt w base ok Pr), ds.map RowAt.v = vs ∧ ds.map RowAt.l = L
  | [], [], _, _, _ => ⟨[], rfl, rfl⟩
  | [], _ :: _, h, _, _ => by simp at h
  | _ :: _, [], h, _, _ => by simp at h
  | u :: vs, x :: L, hl, h, hP => by
    obtain ⟨ds, e1, e2⟩ := rows_at vs L (by simpa using hl) (fun j u x hu hx => h (j + 1) u x (by simpa using hu) (by simpa using hx)) (fun x hx => hP x (List.mem_cons_of_mem _ hx))
    exact ⟨⟨x, u, h 0 u x rfl rfl, hP x (by simp)⟩ :: ds, by simp [e1], by simp [e2]⟩
theorem sortWorld_other {α : Type} [Inhabited α] (enc : α → Value) (w : World) (g n : Nat) (d : Array α) (os : Array Obj) (k : Nat) (hk : k < w.heap.size) (hg : k ≠ g) : (Go.Sort.grow (Go.Sort.putRow enc (Go.Sort.ahead w n) g 0 d) os).heap[k]? = w.heap[k]? := by
  have hsz : (Go.Sort.putRow enc (Go.Sort.ahead w n) g 0 d).heap.size = w.heap.size := by simp
  rw [Go.Sort.heap_grow_old _ _ (by rw [hsz]; exact hk)]
  simp only [Go.Sort.putRow, Go.Sort.mapBlock, Array.getElem?_modify]
  rw [if_neg (by omega)]
  rfl
/-- Rows whose values are those of some others, in another order or fewer, behind a world that turned the row alone. -/
theorem rows_back {w w' : World} {base : Nat} {ok ok' : Nat → Prop} {Pr : List Int → Prop} {ds' : List (RowAt w base ok Pr)} (hap : (ds'.map RowAt.v).Pairwise Apart) (hm : ∀ k, ok k → k < w.heap.size → w'.heap[k]? = w.heap[k]?) (ho : ∀ k, ok k → ok' k) : RowVals w' base ok' (ds'.map RowAt.v) (ds'.map RowAt.l) where
  len := by simp
  row := fun j u x hu hx => by
    rw [List.getElem?_map] at hu hx
    cases hz : ds'[j]? with
    | none => rw [hz] at hu; simp at hu
    | some z =>
      rw [hz] at hu hx
      obtain rfl := Option.some.inj hu
      obtain rfl := Option.some.inj hx
      exact Kd.R_mono (Kd.R_step z.hR hm) ho
  apart := hap

set_option maxHeartbeats 1000000 in
theorem rows_sort (cf : List Int → List Int → Int) (hT : Total cf) (Pr : List Int → Prop) (gf : Nat) (cb : Array Value)
    (eg : ∀ args w, (callFunc gf args).run Try.prog w = .ok (.enter gf args) w)
    (hcmp : ∀ (W : World) (A B : Option Addr) (c c' : Nat) (x y : List Int), Pr x → Pr y → Kd.C (Kd.int .i64) W A x.length x → x.length ≤ c → Kd.C (Kd.int .i64) W B y.length y → y.length ≤ c' → Calls Try.prog gf (#[.slice A x.length c, .slice B y.length c'] ++ cb) W fun e w' => e = .returned (.int .i64 (cf x y)) ∧ Drawn0 W w')
    (P0_ : Nat → Prop) (v : Value) (xs : List (List Int)) (w0 w : World) (hB : Below w0.heap.size w0 w) (hP : ∀ x ∈ xs, Pr x) (hz : xs.length < 4611686018427387904) (ho : Kd.S KII 30 w w0.heap.size P0_ v xs) :
    Calls Try.prog 49 #[v, .func (.func gf) #[] cb] w fun e w' => e = .returned (.tuple #[]) ∧ ∃ ys, ys.Perm xs ∧ (ys.Pairwise fun a b => ¬ cf b a < 0) ∧ Kd.S KII 30 w' w0.heap.size (fun k_ => (P0_ k_ ∨ w.heap.size ≤ k_)) v ys ∧ Below w0.heap.size w0 w' ∧ Kept w w' (fun k_ => P0_ k_) := by
  obtain ⟨vs, h0, hown, hv⟩ := S_vals ho
  obtain ⟨hlen, hcase⟩ := hown
  have hnone : ∀ (p : Option Addr) (cap : Nat), v = .slice p 0 cap → xs = [] → Calls Try.prog 49 #[v, .func (.func gf) #[] cb] w fun e w' => e = .returned (.tuple #[]) ∧ ∃ ys, ys.Perm xs ∧ (ys.Pairwise fun a b => ¬ cf b a < 0) ∧ Kd.S KII 30 w' w0.heap.size (fun k_ => (P0_ k_ ∨ w.heap.size ≤ k_)) v ys ∧ Below w0.heap.size w0 w' ∧ Kept w w' (fun k_ => P0_ k_) := by
    intro p cap ev ex
    subst ev ex
    refine (AnyF.slices_SortFunc_none (P := Try.prog) { Try.laysSlF6_f49 with } p cap (.func (.func gf) #[] cb) w).mono ?_
    rintro e w' ⟨rfl, rfl⟩
    exact ⟨rfl, [], .refl _, .nil, Kd.S_mono ho (fun _ h_ => .inl h_), hB, Kept.refl _ _⟩
  rcases hcase with ⟨ev, hn⟩ | ⟨g, cap, cur, ev, hg, hb, hc, hm, hs, ht⟩
  · exact hnone _ _ ev (List.eq_nil_of_length_eq_zero hn)
  · by_cases hx : xs = []
    · exact hnone _ cap (by rw [ev, hx]; rfl) hx
    · subst ev
      obtain ⟨ds, e1, e2⟩ := rows_at (Pr := Pr) vs xs hv.len hv.row hP
      have hds : ds ≠ [] := fun e => hx (by rw [← e2, e]; rfl)
      letI : Inhabited (RowAt w w0.heap.size (fun k => P0_ k ∧ some k ≠ (Value.slice (some ⟨g, 0, none⟩) xs.length cap).ownBlock) Pr) := ⟨ds.head hds⟩
      have hdl : ds.length = xs.length := by have := congrArg List.length e2; simpa using this
      have ht' : cur.toList.take ds.length = ds.map RowAt.v := by rw [hdl, e1]; simpa using ht
      have hok : P0_ g := h0 g rfl
      have hlt : g < w.heap.size := (Array.getElem?_eq_some_iff.1 hb).1
      have hng : ∀ k, (P0_ k ∧ some k ≠ (Value.slice (some ⟨g, 0, none⟩) xs.length cap).ownBlock) → k ≠ g := fun k hk e => hk.2 (by rw [e]; rfl)
      have hC := Go.Proofs.Any.slices_SortFunc (P := Try.prog) Try.laysSlF6_f49 (RowAt.v (w := w) (base := w0.heap.size) (ok := fun k => P0_ k ∧ some k ≠ (Value.slice (some ⟨g, 0, none⟩) xs.length cap).ownBlock) (Pr := Pr)) RowAt.one (fun a b => cf a.l b.l)
        { irrefl := fun x => hT.swo.irrefl x.l, trans := fun x y z => hT.swo.trans x.l y.l z.l, ntrans := fun x y z => hT.swo.ntrans x.l y.l z.l } gf cb g 0 cap ds.toArray w eg
        (CmpReads.lays fun m os dk hsd x y => by
          have hx := Kd.R_step (w1 := sortWorld RowAt.v w g 0 m dk os) x.hR (fun k hk hlk => sortWorld_other _ _ _ _ _ _ k hlk (hng k hk))
          have hy := Kd.R_step (w1 := sortWorld RowAt.v w g 0 m dk os) y.hR (fun k hk hlk => sortWorld_other _ _ _ _ _ _ k hlk (hng k hk))
          obtain ⟨A, c, ea, ha, hra⟩ := Kd.R_reads hx
          obtain ⟨B, c', eb, hbb, hrb⟩ := Kd.R_reads hy
          rw [ea, eb]
          refine (hcmp _ A B c c' x.l y.l x.hP y.hP hra ha hrb hbb).mono ?_
          rintro e w' ⟨rfl, ⟨q, rfl⟩⟩
          exact ⟨rfl, q, rfl⟩)
        (scalar_holds hb ht') hlt (by simpa [hdl] using hz)
      rw [show ds.toArray.size = xs.length by simpa using hdl] at hC
      refine hC.mono ?_
      rintro e w' ⟨rfl, d', n, os, hp, hso, hw⟩
      have hsz : d'.size = ds.length := by simpa using hp.1
      have hperm : d'.toList.Perm ds := by
        have := hp.2.2
        rw [show d'.extract 0 xs.length = d' by rw [← hdl, ← hsz]; exact Array.extract_size, show ds.toArray.extract 0 xs.length = ds.toArray by rw [show xs.length = ds.toArray.size by simpa using hdl.symm]; exact Array.extract_size] at this
        simpa using this
      have hS := scalar_sorted (enc := RowAt.v) (h1 := RowAt.one) (xs := ds) (ys := d'.toList) (cap := cap) (ok := P0_) hB hok hg hb (by rw [hdl]; exact hc) hm (by simpa using hs) (by simpa using hsz) n os w' (by rw [hw]; simp [sortWorld])
      obtain ⟨hown1, hown2⟩ := scalar_R.1 hS.1
      have hap : (d'.toList.map RowAt.v).Pairwise Apart := by
        refine ((hperm.map RowAt.v).pairwise_iff (fun h => Apart.symm h)).2 ?_
        rw [e1]
        exact hv.apart
      refine ⟨rfl, d'.toList.map RowAt.l, by rw [← e2]; exact hperm.map _, ?_, ?_, hS.2⟩
      · rw [List.pairwise_map, List.pairwise_iff_getElem]
        intro i j hi hj hij
        have h1 := hso i j (Nat.zero_le _) hij (by rw [← hdl, ← hsz]; simpa using hj)
        have h2 : i < d'.size := by simpa using hi
        have h3 : j < d'.size := by simpa using hj
        rw [getElem!_pos d' i h2, getElem!_pos d' j h3] at h1
        simpa [ltOf] using h1
      · have hl2 : (d'.toList.map RowAt.l).length = xs.length := by simp [hsz, hdl]
        refine vals_S (vs := d'.toList.map RowAt.v) (fun k hk => .inl (by simp [Value.ownBlock] at hk; exact hk ▸ hok)) ?_ (rows_back hap (fun k hk hlk => ?_) (fun k hk => ⟨.inl hk.1, hk.2⟩))
        · rw [List.length_map]
          rw [hdl] at hown2
          exact hown2
        · rw [hw]
          exact sortWorld_other _ _ _ _ _ _ k hlk (hng k hk)

/-- What is kept of a sorted row: its elements, once each. -/
theorem kept_sorted {α : Type} [Inhabited α] (key : α → List Int) (p : α → α → Bool) (hp : ∀ u v, p u v = decide (key u = key v)) (d : Array α) (hs : (d.toList.map key).Pairwise fun a b => ¬ cmpL b a < 0) :
    ((Go.Lib.keptUpTo (kpOf p d) d d.size).map key).Pairwise (fun a b => cmpL a b < 0) ∧ ∀ z, z ∈ (Go.Lib.keptUpTo (kpOf p d) d d.size).map key ↔ z ∈ d.toList.map key := by
  have hle : ∀ i j, i ≤ j → j < d.size → ¬ cmpL (key d[j]!) (key d[i]!) < 0 := by
    intro i j hij hj
    rcases Nat.lt_or_eq_of_le hij with h | h
    · rw [List.pairwise_map, List.pairwise_iff_getElem] at hs
      have := hs i j (by simp; omega) (by simpa using hj) h
      rw [getElem!_pos d i (by omega), getElem!_pos d j hj]
      simpa using this
    · subst h
      rw [cmpL_self]
      omega
  constructor
  · rw [List.pairwise_map]
    unfold Go.Lib.keptUpTo
    rw [List.pairwise_map]
    have hr : ((List.range d.size).filter (kpOf p d)).Pairwise fun i j => i < j ∧ j < d.size ∧ kpOf p d j = true := by
      have h1 : ((List.range d.size).filter (kpOf p d)).Pairwise (· < ·) := List.Pairwise.sublist List.filter_sublist List.pairwise_lt_range
      rw [List.pairwise_iff_getElem] at h1 ⊢
      intro i j hi hj hij
      have h2 := List.getElem_mem hj
      rw [List.mem_filter, List.mem_range] at h2
      exact ⟨h1 i j hi hj hij, h2⟩
    refine hr.imp ?_
    rintro i j ⟨hij, hj, hk⟩
    have h1 := hle i (j - 1) (by omega) (by omega)
    have h2 := hle (j - 1) j (by omega) hj
    have h3 : key d[j]! ≠ key d[j - 1]! := by
      unfold kpOf at hk
      rw [hp] at hk
      simp at hk
      rcases hk with h | h
      · omega
      · exact h
    by_cases e1 : cmpL (key d[j - 1]!) (key d[j]!) = 0
    · exact absurd (cmpL_eq _ _ e1).symm h3
    · have h4 : cmpL (key d[j - 1]!) (key d[j]!) < 0 := by rw [cmpL_anti] at h2; omega
      by_cases e2 : cmpL (key d[i]!) (key d[j - 1]!) = 0
      · rw [cmpL_eq _ _ e2]; exact h4
      · refine cmpL_trans _ _ _ ?_ h4
        rw [cmpL_anti] at h1
        omega
  · intro z
    constructor
    · intro hz
      obtain ⟨x, hx, rfl⟩ := List.mem_map.1 hz
      unfold Go.Lib.keptUpTo at hx
      obtain ⟨j, hj, rfl⟩ := List.mem_map.1 hx
      rw [List.mem_filter, List.mem_range] at hj
      refine List.mem_map.2 ⟨_, ?_, rfl⟩
      rw [getElem!_pos d j hj.1]
      simp
    · intro hz
      obtain ⟨x, hx, rfl⟩ := List.mem_map.1 hz
      obtain ⟨j, hj, rfl⟩ := List.getElem_of_mem hx
      have hj' : j < d.size := by simpa using hj
      have hgo : ∀ m, m < d.size → ∃ i, i < d.size ∧ kpOf p d i = true ∧ key d[i]! = key d[m]! := by
        intro m
        induction m with
        | zero => intro hm; exact ⟨0, hm, rfl, rfl⟩
        | succ m ih =>
          intro hm
          by_cases hk : kpOf p d (m + 1) = true
          · exact ⟨m + 1, hm, hk, rfl⟩
          · obtain ⟨i, hi, hki, he⟩ := ih (by omega)
            refine ⟨i, hi, hki, he.trans ?_⟩
            unfold kpOf at hk
            rw [hp] at hk
            simp at hk
            exact hk.symm
      obtain ⟨i, hi, hki, he⟩ := hgo j hj'
      refine List.mem_map.2 ⟨d[i]!, ?_, ?_⟩
      · unfold Go.Lib.keptUpTo
        exact List.mem_map.2 ⟨i, List.mem_filter.2 ⟨List.mem_range.2 hi, hki⟩, rfl⟩
      · rw [he, getElem!_pos d j hj']
        simp

set_option maxHeartbeats 1000000 in
theorem rows_compact (P0_ : Nat → Prop) (v : Value) (xs : List (List Int)) (w0 w : World) (hB : Below w0.heap.size w0 w) (hP : ∀ x ∈ xs, x.length < 9223372036854775807) (hs : xs.Pairwise fun a b => ¬ cmpL b a < 0) (ho : Kd.S KII 30 w w0.heap.size P0_ v xs) :
    Calls Try.prog 63 #[v, .func (.func 64) #[] #[]] w fun e w' => ∃ v', e = .returned v' ∧ ∃ ys, (ys.Pairwise fun a b => cmpL a b < 0) ∧ (∀ z, z ∈ ys ↔ z ∈ xs) ∧ Kd.S KII 30 w' w0.heap.size (fun k_ => (P0_ k_ ∨ w.heap.size ≤ k_)) v' ys ∧ Below w0.heap.size w0 w' ∧ Kept w w' (fun k_ => P0_ k_) := by
  obtain ⟨vs, h0, hown, hv⟩ := S_vals ho
  obtain ⟨hlen, hcase⟩ := hown
  rcases hcase with ⟨ev, hn⟩ | ⟨g, cap, cur, ev, hg, hb, hc, hm, hcs, ht⟩
  · obtain rfl : xs = [] := List.eq_nil_of_length_eq_zero hn
    subst ev
    go_enter Try.func63, Try.ntmps63
    go_wp2
    go_ret
    exact ⟨_, rfl, [], .nil, by simp, Kd.S_nil _ _ _ _ _, hB, Kept.refl _ _⟩
  · subst ev
    obtain ⟨ds, e1, e2⟩ := rows_at (Pr := fun x => x.length < 9223372036854775807) vs xs hv.len hv.row hP
    let nil_ : RowAt w w0.heap.size (fun k => P0_ k ∧ some k ≠ (Value.slice (some ⟨g, 0, none⟩) xs.length cap).ownBlock) (fun x => x.length < 9223372036854775807) := ⟨[], .slice none 0 0, Kd.R_nil _ _ _ _ _, by decide⟩
    letI : Inhabited (RowAt w w0.heap.size (fun k => P0_ k ∧ some k ≠ (Value.slice (some ⟨g, 0, none⟩) xs.length cap).ownBlock) (fun x => x.length < 9223372036854775807)) := ⟨nil_⟩
    have hdl : ds.length = xs.length := by have := congrArg List.length e2; simpa using this
    have ht' : cur.toList.take ds.length = ds.map RowAt.v := by rw [hdl, e1]; simpa using ht
    have hok : P0_ g := h0 g rfl
    have hlt : g < w.heap.size := (Array.getElem?_eq_some_iff.1 hb).1
    have hng : ∀ k, (P0_ k ∧ some k ≠ (Value.slice (some ⟨g, 0, none⟩) xs.length cap).ownBlock) → k ≠ g := fun k hk e => hk.2 (by rw [e]; rfl)
    have hgrow0 : ∀ W : World, Go.Sort.grow W #[] = W := fun W => Go.Sort.grow_empty W
    have hC := compact_walk (RowAt.v (w := w) (base := w0.heap.size) (ok := fun k => P0_ k ∧ some k ≠ (Value.slice (some ⟨g, 0, none⟩) xs.length cap).ownBlock) (Pr := fun x => x.length < 9223372036854775807)) RowAt.one (fun a b => decide (a.l = b.l)) nil_ rfl g 0 cap ds.toArray w
      (fun dk x y q hsd => by
        have hst : ∀ k, (P0_ k ∧ some k ≠ (Value.slice (some ⟨g, 0, none⟩) xs.length cap).ownBlock) → k < w.heap.size → (Go.Sort.putRow RowAt.v (Go.Sort.ahead w q) g 0 dk).heap[k]? = w.heap[k]? := fun k hk hlk => by
          have := sortWorld_other RowAt.v w g q dk #[] k hlk (hng k hk)
          rwa [hgrow0] at this
        have hx := Kd.R_step (w1 := Go.Sort.putRow RowAt.v (Go.Sort.ahead w q) g 0 dk) x.hR hst
        have hy := Kd.R_step (w1 := Go.Sort.putRow RowAt.v (Go.Sort.ahead w q) g 0 dk) y.hR hst
        obtain ⟨A, c, ea, ha, hra⟩ := Kd.R_reads hx
        obtain ⟨B, c', eb, hbb, hrb⟩ := Kd.R_reads hy
        rw [ea, eb]
        refine (slices_Equal_int_int.calls (x.l.length + 1) A c x.l B c' y.l (decide (x.l = y.l)) _ hra ha hrb hbb (equal_ev x.l y.l x.hP)).mono ?_
        rintro e w' ⟨rfl, ⟨q', rfl⟩⟩
        exact ⟨rfl, q', rfl⟩)
      (scalar_holds hb ht') (by have : cap ≤ 9223372036854775807 := hm; simp only [List.size_toArray]; omega) (by simp only [List.size_toArray]; omega)
    rw [show ds.toArray.size = xs.length by simpa using hdl] at hC
    refine hC.mono ?_
    rintro e w' ⟨rfl, q, hw⟩
    obtain ⟨ks, hks⟩ : ∃ ks, ks = Go.Lib.keptUpTo (kpOf (fun a b : RowAt w w0.heap.size (fun k => P0_ k ∧ some k ≠ (Value.slice (some ⟨g, 0, none⟩) xs.length cap).ownBlock) (fun x => x.length < 9223372036854775807) => decide (a.l = b.l)) ds.toArray) ds.toArray ds.toArray.size := ⟨_, rfl⟩
    have hks2 : Go.Lib.keptUpTo (kpOf (fun a b : RowAt w w0.heap.size (fun k => P0_ k ∧ some k ≠ (Value.slice (some ⟨g, 0, none⟩) xs.length cap).ownBlock) (fun x => x.length < 9223372036854775807) => decide (a.l = b.l)) ds.toArray) ds.toArray xs.length = ks := by rw [hks]; congr 1; simpa using hdl.symm
    rw [hks2] at hw ⊢
    have hrange : (List.range ds.toArray.size).map (fun j => ds.toArray[j]!) = ds := by
      apply List.ext_getElem
      · simp
      · intro i hi1 hi2
        simp [hi2]
    have hsub : ks.Sublist ds := by
      rw [hks]
      unfold Go.Lib.keptUpTo
      have h1 := List.Sublist.map (fun j => ds.toArray[j]!) (List.filter_sublist (p := kpOf (fun a b : RowAt w w0.heap.size (fun k => P0_ k ∧ some k ≠ (Value.slice (some ⟨g, 0, none⟩) xs.length cap).ownBlock) (fun x => x.length < 9223372036854775807) => decide (a.l = b.l)) ds.toArray) (l := List.range ds.toArray.size))
      rw [hrange] at h1
      exact h1
    have hlk : ks.length ≤ ds.length := hsub.length_le
    have hS := scalar_sorted (enc := RowAt.v) (h1 := RowAt.one) (xs := ds) (ys := ks ++ List.replicate (xs.length - ks.length) nil_) (cap := cap) (ok := P0_) hB hok hg hb (by rw [hdl]; exact hc) hm (by simpa using hcs) (by simp; omega) q #[] w' (by rw [hw, hgrow0])
    have hTk := scalar_take hS.1 ks.length (by simp)
    rw [List.take_left] at hTk
    obtain ⟨hown1, hown2⟩ := scalar_R.1 hTk
    have hKS := kept_sorted (fun a : RowAt w w0.heap.size (fun k => P0_ k ∧ some k ≠ (Value.slice (some ⟨g, 0, none⟩) xs.length cap).ownBlock) (fun x => x.length < 9223372036854775807) => a.l) (fun a b => decide (a.l = b.l)) (fun u v => rfl) ds.toArray (by rw [show ds.toArray.toList.map (fun a => a.l) = xs from e2]; exact hs)
    rw [← hks] at hKS
    have hap : (ks.map RowAt.v).Pairwise Apart := List.Pairwise.sublist (hsub.map RowAt.v) (by rw [e1]; exact hv.apart)
    refine ⟨_, rfl, ks.map RowAt.l, hKS.1, fun z => (hKS.2 z).trans (by rw [show ds.toArray.toList.map (fun a => a.l) = xs from e2]), ?_, hS.2⟩
    refine vals_S (vs := ks.map RowAt.v) hown1 ?_ (rows_back hap (fun k hk hlk2 => ?_) (fun k hk => ⟨.inl hk.1, hk.2⟩))
    · rw [List.length_map]
      exact hown2
    · rw [hw]
      have := sortWorld_other RowAt.v w g q (ks ++ List.replicate (xs.length - ks.length) nil_).toArray #[] k hlk2 (hng k hk)
      rwa [hgrow0] at this
end Go.Proofs.Ytkdgpbcecnmdhaa.P

-- UrowsCat
namespace Go.Proofs.Ytkdgpbcecnmdhaa.P
set_option linter.unusedVariables false
set_option linter.unusedSimpArgs false
open Go.RowKit Go.Proofs.YtkdgpbcecnmdhaaW.PrintWords Go.Proofs.YtkdgpbcecnmdhaaW.PrintLast

abbrev OneV := {v : Value // v.oneCell' = true}
theorem rows_one {w : World} {base : Nat} {ok : Nat → Prop} {vs : List Value} {L : List (List Int)} (h : RowVals w base ok vs L) : ∃ us : List OneV, us.map (·.1) = vs := by
  have hone : ∀ u ∈ vs, u.oneCell' = true := by
    intro u hu
    obtain ⟨j, hj, rfl⟩ := List.getElem_of_mem hu
    have hL : j < L.length := by have := h.len; omega
    obtain ⟨A, c, e⟩ := Kd.R_slice (h.row j vs[j] L[j] (List.getElem?_eq_getElem hj) (List.getElem?_eq_getElem hL))
    rw [e]
    rfl
  exact ⟨vs.attach.map (fun u => ⟨u.1, hone u.1 u.2⟩), by simp⟩
/-- A row of rows, seen as a row of values. -/
theorem S_scal {w : World} {base : Nat} {ok : Nat → Prop} {v : Value} {L : List (List Int)} (h : Kd.S KII 30 w base ok v L) :
    ∃ us : List OneV, (Kd.scalar (fun x : OneV => x.1) (fun x => x.2)).R 30 w base ok v us ∧ us.length = L.length ∧ RowVals w base (fun k => ok k ∧ some k ≠ v.ownBlock) (us.map (·.1)) L := by
  obtain ⟨vs, h0, hown, hv⟩ := S_vals h
  obtain ⟨us, rfl⟩ := rows_one hv
  have hl : us.length = L.length := by have := hv.len; simpa using this
  exact ⟨us, scalar_R.2 ⟨h0, by rw [hl]; exact hown⟩, hl, hv⟩
theorem scal_S {w : World} {base : Nat} {ok : Nat → Prop} {v : Value} {us : List OneV} {L : List (List Int)} (h : (Kd.scalar (fun x : OneV => x.1) (fun x => x.2)).R 30 w base ok v us) (hv : RowVals w base (fun k => ok k ∧ some k ≠ v.ownBlock) (us.map (·.1)) L) : Kd.S KII 30 w base ok v L := by
  obtain ⟨h1, h2⟩ := scalar_R.1 h
  have hl : us.length = L.length := by have := hv.len; simpa using this
  exact vals_S h1 (by rw [← hl]; exact h2) hv
/-- Rows that lie above some mark. -/
theorem RowVals.above {w : World} {B base : Nat} {ok ok' : Nat → Prop} {vs : List Value} {L : List (List Int)} (h : RowVals w B ok vs L) (hb : base ≤ B) (ho : ∀ k, ok k → B ≤ k → ok' k) : RowVals w base ok' vs L where
  len := h.len
  row := fun j u x hu hx => by
    have hr := h.row j u x hu hx
    exact Kd.R_lower (Kd.R_mono (Kd.R_bound hr) (fun k hk => ho k hk.1 hk.2.1)) hb
  apart := h.apart
theorem RowVals.own {w : World} {base : Nat} {ok : Nat → Prop} {vs : List Value} {L : List (List Int)} (h : RowVals w base ok vs L) {u : Value} (hu : u ∈ vs) {k : Nat} (hk : u.ownBlock = some k) : ok k ∧ base ≤ k ∧ k < w.heap.size := by
  obtain ⟨j, hj, rfl⟩ := List.getElem_of_mem hu
  have hL : j < L.length := by have := h.len; omega
  have hr := Kd.R_bound (h.row j vs[j] L[j] (List.getElem?_eq_getElem hj) (List.getElem?_eq_getElem hL))
  have := hr.1 k hk
  exact ⟨this.1, this.2.1, this.2.2.1⟩
/-- Rows in a later world. -/
theorem RowVals.step {w w1 : World} {base : Nat} {ok ok' : Nat → Prop} {vs : List Value} {L : List (List Int)} (h : RowVals w base ok vs L) (hm : ∀ k, ok k → k < w.heap.size → w1.heap[k]? = w.heap[k]?) (ho : ∀ k, ok k → k < w.heap.size → ok' k) : RowVals w1 base ok' vs L where
  len := h.len
  row := fun j u x hu hx => by
    have hr := h.row j u x hu hx
    exact Kd.R_mono (Kd.R_step (Kd.R_bound hr) (fun k hk hlt => hm k hk.1 hlt)) (fun k hk => ho k hk.1 hk.2.2.1)
  apart := h.apart
theorem RowVals.cat {w : World} {base : Nat} {ok : Nat → Prop} {vs us : List Value} {L M : List (List Int)} (h : RowVals w base ok vs L) (h' : RowVals w base ok us M) (ha : ∀ a ∈ vs, ∀ b ∈ us, Apart a b) : RowVals w base ok (vs ++ us) (L ++ M) where
  len := by simp [h.len, h'.len]
  row := fun j u x hu hx => by
    have hl := h.len
    by_cases hj : j < vs.length
    · rw [List.getElem?_append_left hj] at hu
      rw [List.getElem?_append_left (by omega)] at hx
      exact h.row j u x hu hx
    · rw [List.getElem?_append_right (by omega)] at hu
      rw [List.getElem?_append_right (by omega), ← hl] at hx
      exact h'.row _ u x hu hx
  apart := List.pairwise_append.2 ⟨h.apart, h'.apart, ha⟩
/-- What a call has made, laid behind what was there: both rows' inner rows in one row. -/
theorem S_cat {W w1 : World} {base B : Nat} {v v1 u : Value} {us ns : List OneV} {L M : List (List Int)} (hbB : base ≤ B) (hB : B ≤ W.heap.size)
    (hV : RowVals W base (fun k => k < B ∧ some k ≠ v.ownBlock) (us.map (·.1)) L) (hvB : ∀ k, v.ownBlock = some k → k < B)
    (hU : RowVals W B (fun k => some k ≠ u.ownBlock) (ns.map (·.1)) M)
    (hg : W.grownBy w1 v.ownBlock) (hat : v1.ownBlock = v.ownBlock ∨ ∃ b, v1.ownBlock = some b ∧ W.heap.size ≤ b)
    (hR : (Kd.scalar (fun x : OneV => x.1) (fun x => x.2)).R 30 w1 base (fun _ => True) v1 (us ++ ns)) : Kd.S KII 30 w1 base (fun _ => True) v1 (L ++ M) := by
  have hne : ∀ k, k < W.heap.size → some k ≠ v.ownBlock → some k ≠ v1.ownBlock := by
    intro k hk hn e
    rcases hat with h1 | ⟨b, h1, h2⟩
    · exact hn (by rw [e, h1])
    · rw [h1] at e
      injection e with e
      omega
  refine scal_S hR ?_
  rw [List.map_append]
  refine RowVals.cat (hV.step (fun k hk hlt => hg.block k hlt hk.2) (fun k hk hlt => ⟨trivial, hne k hlt hk.2⟩)) ?_ ?_
  · have h1 : RowVals W base (fun k => some k ≠ v.ownBlock) (ns.map (·.1)) M := hU.above hbB (fun k hk hbk e => by
      have := hvB k e.symm
      omega)
    exact h1.step (fun k hk hlt => hg.block k hlt hk) (fun k hk hlt => ⟨trivial, hne k hlt hk⟩)
  · intro a ha b hb k hak hbk
    have h1 := hV.own ha hak
    have h2 := hU.own hb hbk
    omega
end Go.Proofs.Ytkdgpbcecnmdhaa.P

-- UcmpM
namespace Go.Proofs.Ytkdgpbcecnmdhaa.P
set_option linter.unusedVariables false
set_option linter.unusedSimpArgs false
open Go.RowKit Go.Proofs.YtkdgpbcecnmdhaaW.PrintWords Go.Proofs.YtkdgpbcecnmdhaaW.PrintLast

def cfM (a b : List Int) : Int := if rd a 2 = rd b 2 then cmpL a b else rd a 2 - rd b 2
theorem cfM_total : Total cfM where
  anti := fun a b => by
    unfold cfM
    by_cases h : rd a 2 = rd b 2
    · rw [if_pos h, if_pos h.symm, cmpL_anti b a]
      omega
    · rw [if_neg h, if_neg (fun e => h e.symm)]
      omega
  trans := fun a b c => by
    unfold cfM
    intro h1 h2
    by_cases e1 : rd a 2 = rd b 2
    · rw [if_pos e1] at h1
      by_cases e2 : rd b 2 = rd c 2
      · rw [if_pos e2] at h2
        rw [if_pos (e1.trans e2)]
        exact cmpL_trans _ _ _ h1 h2
      · rw [if_neg e2] at h2
        rw [if_neg (by omega)]
        omega
    · rw [if_neg e1] at h1
      by_cases e2 : rd b 2 = rd c 2
      · rw [if_neg (by omega)]
        omega
      · rw [if_neg e2] at h2
        rw [if_neg (by omega)]
        omega
  eq := fun a b h => by
    unfold cfM at h
    by_cases e : rd a 2 = rd b 2
    · rw [if_pos e] at h
      exact cmpL_eq _ _ h
    · rw [if_neg e] at h
      omega
  self := fun a => by
    unfold cfM
    rw [if_pos rfl, cmpL_self]
def insM (x : List Int) : List (List Int) → List (List Int)
  | [] => [x]
  | y :: t => if cfM x y < 0 then x :: y :: t else y :: insM x t
def sortM : List (List Int) → List (List Int)
  | [] => []
  | x :: t => insM x (sortM t)
theorem insM_perm (x : List Int) : ∀ l, (insM x l).Perm (x :: l)
  | [] => .refl _
  | y :: t => by
    unfold insM
    split
    · exact .refl _
    · exact ((insM_perm x t).cons y).trans (List.Perm.swap x y t)
theorem insM_sorted (x : List Int) : ∀ l, (l.Pairwise fun a b => ¬ cfM b a < 0) → (insM x l).Pairwise fun a b => ¬ cfM b a < 0
  | [], _ => by simp [insM]
  | y :: t, h => by
    unfold insM
    rw [List.pairwise_cons] at h
    have hn := cfM_total.swo.ntrans
    simp only [decide_eq_false_iff_not] at hn
    split
    · rename_i h1
      have h2 : ¬ cfM y x < 0 := by have := (cfM_total.anti x y).1 h1; omega
      rw [List.pairwise_cons, List.pairwise_cons]
      refine ⟨fun z hz => ?_, h.1, h.2⟩
      rcases List.mem_cons.1 hz with e | hz
      · subst e; exact h2
      · exact hn z y x (h.1 z hz) h2
    · rename_i h1
      rw [List.pairwise_cons]
      refine ⟨fun z hz => ?_, insM_sorted x t h.2⟩
      rcases List.mem_cons.1 ((insM_perm x t).mem_iff.1 hz) with e | hz
      · subst e; exact h1
      · exact h.1 z hz
theorem sortM_perm : ∀ l, (sortM l).Perm l
  | [] => .refl _
  | x :: t => (insM_perm x _).trans ((sortM_perm t).cons x)
theorem sortM_sorted : ∀ l, (sortM l).Pairwise fun a b => ¬ cfM b a < 0
  | [] => .nil
  | x :: t => insM_sorted x _ (sortM_sorted t)
theorem sortM_is {l m : List (List Int)} (hp : m.Perm l) (hs : m.Pairwise fun a b => ¬ cfM b a < 0) : m = sortM l :=
  cfM_total.unique (hp.trans (sortM_perm l).symm) hs (sortM_sorted l)
def prM (x : List Int) : Bool := decide (2 < x.length ∧ x.length < 9223372036854775807 ∧ 0 ≤ rd x 2 ∧ rd x 2 ≤ 1000000000)
theorem prM_iff {x : List Int} : prM x = true ↔ 2 < x.length ∧ x.length < 9223372036854775807 ∧ 0 ≤ rd x 2 ∧ rd x 2 ≤ 1000000000 := by simp [prM]
end Go.Proofs.Ytkdgpbcecnmdhaa.P

-- UsortDedup
namespace Go.Proofs.Ytkdgpbcecnmdhaa.P
set_option linter.unusedVariables false
set_option linter.unusedSimpArgs false

def insS (x : List Int) : List (List Int) → List (List Int)
  | [] => [x]
  | y :: t => if cmpL x y < 0 then x :: y :: t else if cmpL x y = 0 then y :: t else y :: insS x t
def sortDedup : List (List Int) → List (List Int)
  | [] => []
  | x :: t => insS x (sortDedup t)
theorem insS_mem (x z : List Int) : ∀ l, z ∈ insS x l ↔ z = x ∨ z ∈ l
  | [] => by simp [insS]
  | y :: t => by
    unfold insS
    split
    · simp
    · split
      · rename_i h
        have := cmpL_eq x y h
        subst this
        simp
      · simp only [List.mem_cons, insS_mem x z t]
        constructor
        · rintro (h | h | h) <;> simp [h]
        · rintro (h | h | h) <;> simp [h]
theorem insS_sorted (x : List Int) : ∀ l, (l.Pairwise fun a b => cmpL a b < 0) → (insS x l).Pairwise fun a b => cmpL a b < 0
  | [], _ => by simp [insS]
  | y :: t, h => by
    unfold insS
    rw [List.pairwise_cons] at h
    split
    · rename_i h1
      rw [List.pairwise_cons, List.pairwise_cons]
      refine ⟨fun z hz => ?_, h.1, h.2⟩
      rcases List.mem_cons.1 hz with e | hz
      · subst e; exact h1
      · exact cmpL_trans _ _ _ h1 (h.1 z hz)
    · split
      · rw [List.pairwise_cons]; exact h
      · rename_i h1 h2
        rw [List.pairwise_cons]
        refine ⟨fun z hz => ?_, insS_sorted x t h.2⟩
        rcases (insS_mem x z t).1 hz with e | hz
        · subst e
          rw [cmpL_anti]
          omega
        · exact h.1 z hz
theorem sortDedup_mem (z : List Int) : ∀ l, z ∈ sortDedup l ↔ z ∈ l
  | [] => by simp [sortDedup]
  | x :: t => by simp [sortDedup, insS_mem, sortDedup_mem z t]
theorem sortDedup_sorted : ∀ l, (sortDedup l).Pairwise fun a b => cmpL a b < 0
  | [] => by simp [sortDedup]
  | x :: t => insS_sorted x _ (sortDedup_sorted t)
theorem sortDedup_is {l m : List (List Int)} (h1 : m.Pairwise fun a b => cmpL a b < 0) (h2 : ∀ z, z ∈ m ↔ z ∈ l) : m = sortDedup l :=
  cmpL_total.uniqueS h1 (sortDedup_sorted l) (fun z => (h2 z).trans (sortDedup_mem z l).symm)
end Go.Proofs.Ytkdgpbcecnmdhaa.P

-- GcloneInts
namespace Go.Proofs.Ytkdgpbcecnmdhaa.P
open Go.RowKit Go.Proofs.YtkdgpbcecnmdhaaW.PrintWords Go.Proofs.YtkdgpbcecnmdhaaW.PrintLast
set_option linter.unusedVariables false
set_option linter.unusedSimpArgs false

def slices_Clone_int_int.f (l0 : List Int) : Option (List Int) := if l0.length < 17592186044416 then some l0 else none
theorem slices_Clone_int_int.calls (A0 : Option Addr) (c0 : Nat) (l0 : List Int) (r : List Int) (w : World) (hr0 : Kd.C (Kd.int .i64) w A0 l0.length l0) (hc0 : l0.length ≤ c0) (h : slices_Clone_int_int.f l0 = some r) :
  Calls Try.prog 57 #[.slice A0 l0.length c0] w fun e w' => ∃ v0_ : Value, e = .returned (v0_) ∧ Kd.R (Kd.int .i64) 3 w' w.heap.size (fun _ => True) v0_ r ∧ Below w.heap.size w w' := by
  have hr : l0 = r ∧ l0.length < 17592186044416 := by
    unfold slices_Clone_int_int.f at h
    split at h
    · exact ⟨by simpa using h, by assumption⟩
    · simp at h
  obtain ⟨rfl, hlen⟩ := hr
  cases A0 with
  | none =>
    have h0 : l0 = [] := by
      rcases Nat.eq_zero_or_pos l0.length with h1 | h1
      · exact List.eq_nil_of_length_eq_zero h1
      · obtain ⟨ad, h2, _⟩ := hr0.2.2 h1
        simp at h2
    subst h0
    refine (Go.Proofs.Try.slices_Clone_int_nil 0 c0 w).mono ?_
    rintro e w' ⟨rfl, rfl⟩
    exact ⟨_, rfl, Kd.R_nil _ _ _ _ _, Below.refl _ _⟩
  | some a =>
    by_cases h0 : l0.length = 0
    · have h1 : l0 = [] := List.eq_nil_of_length_eq_zero h0
      subst h1
      refine (Go.Proofs.Try.slices_Clone_int_zero a c0 w).mono ?_
      rintro e w' ⟨v', rfl, hown, _, hb⟩
      exact ⟨v', rfl, scalar_R.2 ⟨fun _ _ => trivial, hown⟩, hb⟩
    · obtain ⟨ad, he, hc⟩ := hr0.2.2 (by omega)
      injection he with he
      subst he
      have hcell : ∀ j, j < l0.length → w.cell? (a.add j) = some (.int .i64 (l0.getD j 0)) := fun j hj => by
        obtain ⟨c, hcl, hp, hcell⟩ := hc j l0[j] (List.getElem?_eq_getElem hj)
        have hc1 : c = [Value.int .i64 l0[j]] := hp
        subst hc1
        have h2 := hcell 0 _ rfl
        rw [Nat.add_zero, show j * (Kd.int .i64).sz = j from Nat.mul_one j] at h2
        rw [h2]
        simp [List.getD_eq_getElem?_getD, hj]
      obtain ⟨b, off, spot⟩ := a
      have hspot : spot = none := by
        have h2 := hcell 0 (by omega)
        cases spot with
        | none => rfl
        | some k =>
          simp only [Addr.add, if_true, World.cell?] at h2
          split at h2 <;> simp at h2
      subst hspot
      refine (Go.Proofs.Try.slices_Clone_int b off l0.length c0 l0 w (Nat.le_refl _) (by omega) (fun j hj => ?_)).mono ?_
      · rw [← hcell j hj]
        congr 1
        by_cases h1 : j = 0
        · subst h1
          simp [Addr.add]
        · simp [Addr.add, h1]
      · rintro e w' ⟨v', rfl, hown, _, hb⟩
        exact ⟨v', rfl, scalar_R.2 ⟨fun _ _ => trivial, by rw [List.take_length] at hown; exact hown⟩, hb⟩
end Go.Proofs.Ytkdgpbcecnmdhaa.P

-- GsortInts
namespace Go.Proofs.Ytkdgpbcecnmdhaa.P
open Go.RowKit Go.Proofs.YtkdgpbcecnmdhaaW.PrintWords Go.Proofs.YtkdgpbcecnmdhaaW.PrintLast
set_option linter.unusedVariables false
set_option linter.unusedSimpArgs false

def slices_Sort_int_int.f (l0 : List Int) : Option (List Int) := if l0.length < 4611686018427387904 then some (l0.mergeSort fun x y => decide (x ≤ y)) else none
theorem slices_Sort_int_int.calls (P0_ : Nat → Prop) (u9000_ : Value) (l0 : List Int) (r : List Int) (w0 w : World) (hB : Below w0.heap.size w0 w) (ho0 : Kd.R (Kd.int .i64) 3 w w0.heap.size P0_ u9000_ l0) (h : slices_Sort_int_int.f l0 = some r) :
  Calls Try.prog 58 #[u9000_] w fun e w' => e = .returned (.tuple #[]) ∧ Kd.R (Kd.int .i64) 3 w' w0.heap.size (fun k_ => (P0_ k_ ∨ w.heap.size ≤ k_)) u9000_ r ∧ Below w0.heap.size w0 w' ∧ Kept w w' (fun k_ => P0_ k_) := by
  have hr : l0.mergeSort (fun x y => decide (x ≤ y)) = r ∧ l0.length < 4611686018427387904 := by
    unfold slices_Sort_int_int.f at h
    split at h
    · exact ⟨by simpa using h, by assumption⟩
    · simp at h
  obtain ⟨rfl, hz⟩ := hr
  rcases scalar_open ho0 with ⟨rfl, rfl⟩ | ⟨g, cap, cur, rfl, hok, hg, hb, hc, hm, hs, ht⟩
  · refine (Go.Proofs.Try.slices_Sort_int_none none 0 w).mono ?_
    rintro e w' ⟨rfl, rfl⟩
    refine ⟨rfl, ?_, hB, Kept.refl _ _⟩
    rw [show (([] : List Int).mergeSort fun x y => decide (x ≤ y)) = [] by simp]
    exact Kd.R_nil _ _ _ _ _
  · have hlt : g < w.heap.size := (Array.getElem?_eq_some_iff.1 hb).1
    refine (Go.Proofs.Try.slices_Sort_int g 0 cap l0 w (scalar_holds hb ht) hlt hz).mono ?_
    rintro e w' ⟨rfl, n, os, hw⟩
    exact ⟨rfl, scalar_sorted hB hok hg hb hc hm hs (List.length_mergeSort _) n os w' hw⟩
end Go.Proofs.Ytkdgpbcecnmdhaa.P

-- PFimplmoved
namespace Go.Proofs.Ytkdgpbcecnmdhaa.P
open Go.RowKit Go.Proofs.YtkdgpbcecnmdhaaW.PrintWords Go.Proofs.YtkdgpbcecnmdhaaW.PrintLast
set_option linter.unusedVariables false
set_option linter.unusedSimpArgs false

/-! ### impl_moved: function 44 -/
def impl_moved.f (l0 : List Int) (a1 : Int) : Option (List Int) := (slices_Clone_int_int.f l0).bind fun t358 => (if 0 ≤ (Int.tmod (wrap64 (a1 + 1)) 3) then (if (Int.tmod (wrap64 (a1 + 1)) 3) < (l0.length : Int) then (if 0 ≤ (Int.tmod (wrap64 (a1 + 2)) 3) then (if (Int.tmod (wrap64 (a1 + 2)) 3) < (l0.length : Int) then (if 0 ≤ a1 then (if a1 < (l0.length : Int) then (if a1 < (t358.length : Int) then ((slices_Sort_int_int.f (t358.set (a1 : Int).toNat (wrap64 ((wrap64 ((wrap64 (3 * (rd l0 (Int.tmod (wrap64 (a1 + 1)) 3)))) * (rd l0 (Int.tmod (wrap64 (a1 + 2)) 3)))) - (rd l0 a1))))).bind fun t365 => (some t365)) else (none)) else (none)) else (none)) else (none)) else (none)) else (none)) else (none))
def impl_moved.T2 : Bool × List (List Nat × List Nat) := (true, [([], []), ([], []), ([], []), ([], []), ([3], [3]), ([4], [4]), ([2, 5], [2, 5]), ([6], [6]), ([7], [7]), ([], []), ([], []), ([10], [10]), ([11], [11]), ([9, 12], [9, 12]), ([13], [13]), ([8, 14], [8, 14]), ([], []), ([], []), ([16, 17], [16, 17]), ([18], [18]), ([15, 19], [15, 19]), ([0, 1, 0, 1, 2, 3, 4, 5, 6, 7, 8, 9, 10, 11, 12, 13, 14, 15, 16, 17, 18, 19, 20], [0, 1]), ([21, 20, 0, 1, 2, 3, 4, 5, 6, 7, 8, 9, 10, 11, 12, 13, 14, 15, 16, 17, 18, 19, 20], [20, 21])])
def impl_moved.B2 : List Nat := [0, 0, 0, 0, 8, 24, 60, 124, 252, 0, 0, 1024, 3072, 7680, 15872, 32764, 0, 0, 196608, 458752, 1048572, 2097151, 4194303]
theorem impl_moved.tab2 : rtab .any (opsOf Try.f44 2) = impl_moved.T2 := by kernel_rfl
theorem impl_moved.bits2 : waitsOk impl_moved.T2.2 impl_moved.B2 = true := by kernel_rfl
set_option maxHeartbeats 8000000 in
set_option maxRecDepth 100000 in
theorem impl_moved.calls (A0 : Option Addr) (c0 : Nat) (l0 : List Int) (a1 : Int) (r : List Int) (w : World) (hr0 : Kd.C (Kd.int .i64) w A0 l0.length l0) (hc0 : l0.length ≤ c0) (h : impl_moved.f l0 a1 = some r) :
  Calls Try.prog 44 #[.slice A0 l0.length c0, .int .i64 a1] w fun e w' => ∃ v0_ : Value, e = .returned (v0_) ∧ Kd.R (Kd.int .i64) 3 w' w.heap.size (fun _ => True) v0_ r ∧ Below w.heap.size w w' := by
 have HR0 := Aside0.mk hr0
 have HC0 := Aside0.mk hc0
 clear hr0 hc0
 have HB := Aside0.mk (Below.refl w.heap.size w)
 have H : ((slices_Clone_int_int.f l0).bind fun t358 => (if 0 ≤ (Int.tmod (wrap64 (a1 + 1)) 3) then (if (Int.tmod (wrap64 (a1 + 1)) 3) < (l0.length : Int) then (if 0 ≤ (Int.tmod (wrap64 (a1 + 2)) 3) then (if (Int.tmod (wrap64 (a1 + 2)) 3) < (l0.length : Int) then (if 0 ≤ a1 then (if a1 < (l0.length : Int) then (if a1 < (t358.length : Int) then ((slices_Sort_int_int.f (t358.set (a1 : Int).toNat (wrap64 ((wrap64 ((wrap64 (3 * (rd l0 (Int.tmod (wrap64 (a1 + 1)) 3)))) * (rd l0 (Int.tmod (wrap64 (a1 + 2)) 3)))) - (rd l0 a1))))).bind fun t365 => (some t365)) else (none)) else (none)) else (none)) else (none)) else (none)) else (none)) else (none))) = some r := h
 clear h
 replace H := Option.bind_eq_some_iff.mp H
 obtain ⟨t358, A30, H⟩ := H
 replace H : (if 0 ≤ (Int.tmod (wrap64 (a1 + 1)) 3) then (if (Int.tmod (wrap64 (a1 + 1)) 3) < (l0.length : Int) then (if 0 ≤ (Int.tmod (wrap64 (a1 + 2)) 3) then (if (Int.tmod (wrap64 (a1 + 2)) 3) < (l0.length : Int) then (if 0 ≤ a1 then (if a1 < (l0.length : Int) then (if a1 < (t358.length : Int) then ((slices_Sort_int_int.f (t358.set (a1 : Int).toNat (wrap64 ((wrap64 ((wrap64 (3 * (rd l0 (Int.tmod (wrap64 (a1 + 1)) 3)))) * (rd l0 (Int.tmod (wrap64 (a1 + 2)) 3)))) - (rd l0 a1))))).bind fun t365 => (some t365)) else (none)) else (none)) else (none)) else (none)) else (none)) else (none)) else (none)) = some r := H
 have A3 := Aside0.mk A30
 clear A30
 obtain ⟨ji4, hji4⟩ : ∃ j_ : Int, (Int.tmod (wrap64 (a1 + 1)) 3) = j_ := ⟨_, rfl⟩
 replace H : (if 0 ≤ (ji4) then (if (ji4) < (l0.length : Int) then (if 0 ≤ (Int.tmod (wrap64 (a1 + 2)) 3) then (if (Int.tmod (wrap64 (a1 + 2)) 3) < (l0.length : Int) then (if 0 ≤ a1 then (if a1 < (l0.length : Int) then (if a1 < (t358.length : Int) then ((slices_Sort_int_int.f (t358.set (a1 : Int).toNat (wrap64 ((wrap64 ((wrap64 (3 * (rd l0 (ji4)))) * (rd l0 (Int.tmod (wrap64 (a1 + 2)) 3)))) - (rd l0 a1))))).bind fun t365 => (some t365)) else (none)) else (none)) else (none)) else (none)) else (none)) else (none)) else (none)) = some r := by first | (rw [hji4] at H; exact H) | (simp only [hji4] at H ⊢; exact H)
 (try rw [hji4] at A3)
 by_cases c5 : 0 ≤ (ji4)
 ·rw [if_pos c5] at H
  have c5b0 : decide (0 ≤ (ji4)) = true := decide_eq_true c5
  clear c5
  by_cases c6 : (ji4) < (l0.length : Int)
  ·rw [if_pos c6] at H
   have c6b0 : decide ((ji4) < (l0.length : Int)) = true := decide_eq_true c6
   clear c6
   obtain ⟨ji7, hji7⟩ : ∃ j_ : Int, (Int.tmod (wrap64 (a1 + 2)) 3) = j_ := ⟨_, rfl⟩
   replace H : (if 0 ≤ (ji7) then (if (ji7) < (l0.length : Int) then (if 0 ≤ a1 then (if a1 < (l0.length : Int) then (if a1 < (t358.length : Int) then ((slices_Sort_int_int.f (t358.set (a1 : Int).toNat (wrap64 ((wrap64 ((wrap64 (3 * (rd l0 (ji4)))) * (rd l0 (ji7)))) - (rd l0 a1))))).bind fun t365 => (some t365)) else (none)) else (none)) else (none)) else (none)) else (none)) = some r := by first | (rw [hji7] at H; exact H) | (simp only [hji7] at H ⊢; exact H)
   (try rw [hji7] at A3)
   by_cases c8 : 0 ≤ (ji7)
   ·rw [if_pos c8] at H
    have c8b0 : decide (0 ≤ (ji7)) = true := decide_eq_true c8
    clear c8
    by_cases c9 : (ji7) < (l0.length : Int)
    ·rw [if_pos c9] at H
     have c9b0 : decide ((ji7) < (l0.length : Int)) = true := decide_eq_true c9
     clear c9
     by_cases c10 : 0 ≤ a1
     ·rw [if_pos c10] at H
      have c10b0 : decide (0 ≤ a1) = true := decide_eq_true c10
      clear c10
      by_cases c11 : a1 < (l0.length : Int)
      ·rw [if_pos c11] at H
       have c11b0 : decide (a1 < (l0.length : Int)) = true := decide_eq_true c11
       clear c11
       by_cases c12 : a1 < (t358.length : Int)
       ·rw [if_pos c12] at H
        have c12b0 : decide (a1 < (t358.length : Int)) = true := decide_eq_true c12
        clear c12
        obtain ⟨y364, hy364⟩ : ∃ y_ : List Int, y_ = (t358.set (a1 : Int).toNat (wrap64 ((wrap64 ((wrap64 (3 * (rd l0 (ji4)))) * (rd l0 (ji7)))) - (rd l0 a1)))) := ⟨_, rfl⟩
        replace H : ((slices_Sort_int_int.f y364).bind fun t365 => (some t365)) = some r := by first | (rw [hy364]; with_reducible exact H) | (have H2_ := (Option.bind_some _ _).symm.trans H; rw [hy364]; with_reducible exact H2_) | (have H2_ := (Option.bind_some _ _).symm.trans H; with_reducible exact H2_) | with_reducible exact H | (rw [hy364]; exact H) | exact H
        have Ny364 := Aside0.mk hy364
        clear hy364
        replace H := Option.bind_eq_some_iff.mp H
        obtain ⟨t365, A140, H⟩ := H
        replace H : (some t365) = some r := H
        have A14 := Aside0.mk A140
        clear A140
        obtain rfl := Option.some.inj H
        go_enter Try.func44, Try.ntmps44
        try go_wp2_with (first | ((with_reducible refine gate_callee (f := 57) rfl ?_); refine goesL_ (some 7) rfl rfl Try.func57 (by kernel_rfl) rfl #[.slice A0 l0.length c0] rfl (by (try simp only [List.map_toArray, List.map_cons, List.map_nil]); first | done | rfl | (simp only [List.length_drop, List.length_take]; rfl)) ?_; (with_reducible refine (slices_Clone_int_int.calls _ _ l0 t358 _ ?side1 ?side2 A3.out).mono ?_); (case side1 => repeat (first | exact HR0.out | (with_reducible refine Kd.C_alloc ?_ _) | (with_reducible refine Kd.C_drewN ?_ _) | (with_reducible refine Kd.C_drew ?_))); (case side2 => exact HC0.out); rintro e w15 ⟨v359, rfl, ho0, hb⟩; refine ⟨_, rfl, ?_⟩; have n0_ := Aside0.mk (Kd.R_lower ho0 (below_size (by repeat (first | (with_reducible first | exact HB.out | apply below_alloc | apply pw_below_drewN | apply below_drew1) | exact HB.out)))); have n1_ := Aside0.mk (below_step (by repeat (first | (with_reducible first | exact HB.out | apply below_alloc | apply pw_below_drewN | apply below_drew1) | exact HB.out)) hb); clear HB; have HO360 := n0_; have HB := n1_; clear n0_ n1_; (try clear hb); (try clear hb2); (try clear hk); (try clear hi); (try clear ho0)))
        have n0_ := Aside0.mk (Kd.R_drew HO360.out)
        have n1_ := Aside0.mk (below_drew1 HB.out)
        clear HO360
        clear HB
        have HO360 := n0_
        have HB := n1_
        clear n0_ n1_
        have p361 : 0 ≤ ((ji4) : Int) := of_decide_eq_true (by first | (with_reducible assumption) | assumption)
        have q361 : (ji4) < (l0.length : Int) := of_decide_eq_true (by first | (with_reducible assumption) | assumption)
        obtain ⟨ad361, e361, hx361_0⟩ := Kd.at_int HR0.out (ji4) p361 q361
        have hw361_0 := hx361_0
        cases e361
        replace hx361_0 := (HB.out.cell (World.block_lt_of_cell? w _ hx361_0)).trans hx361_0
        replace p361 := eq_true p361
        replace q361 := eq_true q361
        have p362 : 0 ≤ ((ji7) : Int) := of_decide_eq_true (by first | (with_reducible assumption) | assumption)
        have q362 : (ji7) < (l0.length : Int) := of_decide_eq_true (by first | (with_reducible assumption) | assumption)
        obtain ⟨ad362, e362, hx362_0⟩ := Kd.at_int HR0.out (ji7) p362 q362
        have hw362_0 := hx362_0
        obtain rfl : ad361 = ad362 := (by injection e362)
        replace hx362_0 := (HB.out.cell (World.block_lt_of_cell? w _ hx362_0)).trans hx362_0
        replace p362 := eq_true p362
        replace q362 := eq_true q362
        have p363 : 0 ≤ (a1 : Int) := of_decide_eq_true (by first | (with_reducible assumption) | assumption)
        have q363 : a1 < (l0.length : Int) := of_decide_eq_true (by first | (with_reducible assumption) | assumption)
        obtain ⟨ad363, e363, hx363_0⟩ := Kd.at_int HR0.out a1 p363 q363
        have hw363_0 := hx363_0
        obtain rfl : ad361 = ad363 := (by injection e363)
        replace hx363_0 := (HB.out.cell (World.block_lt_of_cell? w _ hx363_0)).trans hx363_0
        replace p363 := eq_true p363
        replace q363 := eq_true q363
        have p13 : 0 ≤ (a1 : Int) := of_decide_eq_true (by first | (with_reducible assumption) | assumption)
        have q13 : (a1 : Int) < ((t358.length : Int) : Int) := of_decide_eq_true (by first | (with_reducible assumption) | assumption)
        obtain ⟨go13, co13, eo13, gb13, gl13, cl13, HG13⟩ := Kd.R_form HO360.out (by omega)
        (first | cases eo13 | (injection eo13 with ea_ en_ ec_; (first | subst ea_ | (injection ea_ with ea_; subst ea_)); subst ec_; clear en_))
        have GB13 := Aside0.mk gb13
        have GG13 := Aside0.mk HG13
        clear gb13 gl13 HG13
        obtain ⟨hx13_0, hf13_0⟩ := Kd.R_celln 0 HO360.out (a1 : Int) p13 q13
        replace p13 := eq_true p13
        replace q13 := eq_true q13
        have HP17 := Kd.R_putn HO360.out (a1 : Int) (wrap64 ((wrap64 ((wrap64 (3 * (rd l0 (ji4)))) * (rd l0 (ji7)))) - (rd l0 a1)))
        rw [← Ny364.out] at HP17
        have HQ17 := Aside0.mk HP17
        clear HP17
        refine start_ (n := 23) (S := fun w' => w'.cell? (ad361.add ((ji4)).toNat) = some (.int .i64 (rd l0 (ji4))) ∧ w'.cell? (ad361.add ((ji7)).toNat) = some (.int .i64 (rd l0 (ji7))) ∧ w'.cell? (ad361.add (a1).toNat) = some (.int .i64 (rd l0 a1))) (ds := [22]) #[false, false, false, false, false, false, false, false, false, false, false, false, false, false, false, false, false, false, false, false, false, false, false] (by kernel_rfl) rfl rfl ⟨((HB.out.cell (World.block_lt_of_cell? w _ hw361_0)).trans hw361_0), ((HB.out.cell (World.block_lt_of_cell? w _ hw362_0)).trans hw362_0), ((HB.out.cell (World.block_lt_of_cell? w _ hw363_0)).trans hw363_0)⟩ (fun hHeld => ?_); refine with_tabW impl_moved.tab2 impl_moved.bits2 (fun HT_ HW_ => ?_)
        generalize w15.drew = w16 at HO360 HB GG13 HQ17 hf13_0 hx13_0 hx361_0 hx362_0 hx363_0 hHeld ⊢
        refine pure_ (i := 0) (N := some 8) (v := ?_) (a' := ?_) #[true, false, false, false, false, false, false, false, false, false, false, false, false, false, false, false, false, false, false, false, false, false, false] rfl rfl (any_of HT_.out (by kernel_rfl)) (fun _ _ _ h => h) (Or.inl ⟨by rfl, ?_⟩) ?_ ?_
        rotate_left
        ·intro w'
         go_simp
         with_reducible rfl
        rotate_left
        ·simp only [Act.put, List.setIfInBounds_toArray, List.set_cons_zero, List.set_cons_succ, i64_w, i32_w]
         rfl
        refine pure_ (i := 1) (N := some 9) (v := ?_) (a' := ?_) #[true, true, false, false, false, false, false, false, false, false, false, false, false, false, false, false, false, false, false, false, false, false, false] rfl rfl (any_of HT_.out (by kernel_rfl)) (fun _ _ _ h => h) (Or.inl ⟨by rfl, ?_⟩) ?_ ?_
        rotate_left
        ·intro w'
         go_simp
         with_reducible rfl
        rotate_left
        ·simp only [Act.put, List.setIfInBounds_toArray, List.set_cons_zero, List.set_cons_succ, i64_w, i32_w]
         rfl
        refine pure_ (i := 2) (N := some 10) (v := ?_) (a' := ?_) #[true, true, true, false, false, false, false, false, false, false, false, false, false, false, false, false, false, false, false, false, false, false, false] rfl rfl (any_of HT_.out (by kernel_rfl)) (fun _ _ _ h => h) (Or.inl ⟨by rfl, ?_⟩) ?_ ?_
        rotate_left
        ·intro w'
         go_simp
         with_reducible rfl
        rotate_left
        ·simp only [Act.put, List.setIfInBounds_toArray, List.set_cons_zero, List.set_cons_succ, i64_w, i32_w]
         rfl
        refine pure_ (i := 3) (N := some 11) (v := ?_) (a' := ?_) #[true, true, true, true, false, false, false, false, false, false, false, false, false, false, false, false, false, false, false, false, false, false, false] rfl rfl (any_of HT_.out (by kernel_rfl)) (fun _ _ _ h => h) (Or.inl ⟨by rfl, ?_⟩) ?_ ?_
        rotate_left
        ·intro w'
         go_simp
         with_reducible rfl
        rotate_left
        ·simp only [Act.put, List.setIfInBounds_toArray, List.set_cons_zero, List.set_cons_succ, i64_w, i32_w]
         rfl
        refine pure_ (i := 4) (N := some 12) (v := ?_) (a' := ?_) #[true, true, true, true, true, false, false, false, false, false, false, false, false, false, false, false, false, false, false, false, false, false, false] rfl rfl (any_of HT_.out (by kernel_rfl)) (fun _ _ _ h => h) (Or.inl ⟨by rfl, ?_⟩) ?_ ?_
        rotate_left
        ·intro w'
         go_simp
         with_reducible rfl
        rotate_left
        ·simp only [Act.put, List.setIfInBounds_toArray, List.set_cons_zero, List.set_cons_succ, i64_w, i32_w]
         rfl
        refine pure_ (i := 5) (N := some 13) (v := ?_) (a' := ?_) #[true, true, true, true, true, true, false, false, false, false, false, false, false, false, false, false, false, false, false, false, false, false, false] rfl rfl (any_of HT_.out (by kernel_rfl)) (fun _ _ _ h => h) (Or.inl ⟨by rfl, ?_⟩) ?_ ?_
        rotate_left
        ·intro w'
         go_simp
         with_reducible rfl
        rotate_left
        ·simp only [Act.put, List.setIfInBounds_toArray, List.set_cons_zero, List.set_cons_succ, i64_w, i32_w]
         rfl
        refine pure_ (i := 6) (N := some 14) (v := ?_) (a' := ?_) #[true, true, true, true, true, true, true, false, false, false, false, false, false, false, false, false, false, false, false, false, false, false, false] rfl rfl (any_of HT_.out (by kernel_rfl)) (fun _ _ _ h => h) (Or.inl ⟨by rfl, ?_⟩) ?_ ?_
        rotate_left
        ·intro w'
         go_simp
         with_reducible rfl
        rotate_left
        ·simp only [Act.put, List.setIfInBounds_toArray, List.set_cons_zero, List.set_cons_succ, i64_w, i32_w]
         rfl
        refine pure_ (i := 9) (N := some 17) (v := ?_) (a' := ?_) #[true, true, true, true, true, true, true, false, false, true, false, false, false, false, false, false, false, false, false, false, false, false, false] rfl rfl (any_of HT_.out (by kernel_rfl)) (fun _ _ _ h => h) (Or.inl ⟨by rfl, ?_⟩) ?_ ?_
        rotate_left
        ·intro w'
         go_simp
         with_reducible rfl
        rotate_left
        ·simp only [Act.put, List.setIfInBounds_toArray, List.set_cons_zero, List.set_cons_succ, i64_w, i32_w]
         rfl
        refine pure_ (i := 10) (N := some 18) (v := ?_) (a' := ?_) #[true, true, true, true, true, true, true, false, false, true, true, false, false, false, false, false, false, false, false, false, false, false, false] rfl rfl (any_of HT_.out (by kernel_rfl)) (fun _ _ _ h => h) (Or.inl ⟨by rfl, ?_⟩) ?_ ?_
        rotate_left
        ·intro w'
         go_simp
         with_reducible rfl
        rotate_left
        ·simp only [Act.put, List.setIfInBounds_toArray, List.set_cons_zero, List.set_cons_succ, i64_w, i32_w]
         rfl
        refine pure_ (i := 11) (N := some 19) (v := ?_) (a' := ?_) #[true, true, true, true, true, true, true, false, false, true, true, true, false, false, false, false, false, false, false, false, false, false, false] rfl rfl (any_of HT_.out (by kernel_rfl)) (fun _ _ _ h => h) (Or.inl ⟨by rfl, ?_⟩) ?_ ?_
        rotate_left
        ·intro w'
         go_simp
         with_reducible rfl
        rotate_left
        ·simp only [Act.put, List.setIfInBounds_toArray, List.set_cons_zero, List.set_cons_succ, i64_w, i32_w]
         rfl
        refine pure_ (i := 12) (N := some 20) (v := ?_) (a' := ?_) #[true, true, true, true, true, true, true, false, false, true, true, true, true, false, false, false, false, false, false, false, false, false, false] rfl rfl (any_of HT_.out (by kernel_rfl)) (fun _ _ _ h => h) (Or.inl ⟨by rfl, ?_⟩) ?_ ?_
        rotate_left
        ·intro w'
         go_simp
         with_reducible rfl
        rotate_left
        ·simp only [Act.put, List.setIfInBounds_toArray, List.set_cons_zero, List.set_cons_succ, i64_w, i32_w]
         rfl
        refine pure_ (i := 13) (N := some 21) (v := ?_) (a' := ?_) #[true, true, true, true, true, true, true, false, false, true, true, true, true, true, false, false, false, false, false, false, false, false, false] rfl rfl (any_of HT_.out (by kernel_rfl)) (fun _ _ _ h => h) (Or.inl ⟨by rfl, ?_⟩) ?_ ?_
        rotate_left
        ·intro w'
         go_simp
         with_reducible rfl
        rotate_left
        ·simp only [Act.put, List.setIfInBounds_toArray, List.set_cons_zero, List.set_cons_succ, i64_w, i32_w]
         rfl
        refine pure_ (i := 16) (N := some 24) (v := ?_) (a' := ?_) #[true, true, true, true, true, true, true, false, false, true, true, true, true, true, false, false, true, false, false, false, false, false, false] rfl rfl (any_of HT_.out (by kernel_rfl)) (fun _ _ _ h => h) (Or.inl ⟨by rfl, ?_⟩) ?_ ?_
        rotate_left
        ·intro w'
         go_simp
         with_reducible rfl
        rotate_left
        ·simp only [Act.put, List.setIfInBounds_toArray, List.set_cons_zero, List.set_cons_succ, i64_w, i32_w]
         rfl
        refine pure_ (i := 17) (N := some 25) (v := ?_) (a' := ?_) #[true, true, true, true, true, true, true, false, false, true, true, true, true, true, false, false, true, true, false, false, false, false, false] rfl rfl (any_of HT_.out (by kernel_rfl)) (fun _ _ _ h => h) (Or.inl ⟨by rfl, ?_⟩) ?_ ?_
        rotate_left
        ·intro w'
         go_simp
         with_reducible rfl
        rotate_left
        ·simp only [Act.put, List.setIfInBounds_toArray, List.set_cons_zero, List.set_cons_succ, i64_w, i32_w]
         rfl
        refine pure_ (i := 18) (N := some 26) (v := ?_) (a' := ?_) #[true, true, true, true, true, true, true, false, false, true, true, true, true, true, false, false, true, true, true, false, false, false, false] rfl rfl (any_of HT_.out (by kernel_rfl)) (fun _ _ _ h => h) (Or.inl ⟨by rfl, ?_⟩) ?_ ?_
        rotate_left
        ·intro w'
         go_simp
         with_reducible rfl
        rotate_left
        ·simp only [Act.put, List.setIfInBounds_toArray, List.set_cons_zero, List.set_cons_succ, i64_w, i32_w]
         rfl
        refine take_ (i := 7) (N := some 15) (v := ?_) (a' := ?_) #[true, true, true, true, true, true, true, true, false, true, true, true, true, true, false, false, true, true, true, false, false, false, false] rfl rfl (take_ofW HT_.out HW_.out (by kernel_rfl)) (fun _ _ _ h => h) (Or.inl ⟨by rfl, ?_⟩) hHeld ?_ ?_
        rotate_left
        ·rintro w' ⟨s0, s1, s2⟩
         go_simp
         with_reducible rfl
        rotate_left
        ·simp only [Act.put, List.setIfInBounds_toArray, List.set_cons_zero, List.set_cons_succ, i64_w, i32_w]
         rfl
        refine pure_ (i := 8) (N := some 16) (v := ?_) (a' := ?_) #[true, true, true, true, true, true, true, true, true, true, true, true, true, true, false, false, true, true, true, false, false, false, false] rfl rfl (any_of HT_.out (by kernel_rfl)) (fun _ _ _ h => h) (Or.inl ⟨by rfl, ?_⟩) ?_ ?_
        rotate_left
        ·intro w'
         go_simp
         with_reducible rfl
        rotate_left
        ·simp only [Act.put, List.setIfInBounds_toArray, List.set_cons_zero, List.set_cons_succ, i64_w, i32_w]
         rfl
        refine take_ (i := 14) (N := some 22) (v := ?_) (a' := ?_) #[true, true, true, true, true, true, true, true, true, true, true, true, true, true, true, false, true, true, true, false, false, false, false] rfl rfl (take_ofW HT_.out HW_.out (by kernel_rfl)) (fun _ _ _ h => h) (Or.inl ⟨by rfl, ?_⟩) hHeld ?_ ?_
        rotate_left
        ·rintro w' ⟨s0, s1, s2⟩
         go_simp
         with_reducible rfl
        rotate_left
        ·simp only [Act.put, List.setIfInBounds_toArray, List.set_cons_zero, List.set_cons_succ, i64_w, i32_w]
         rfl
        refine pure_ (i := 15) (N := some 23) (v := ?_) (a' := ?_) #[true, true, true, true, true, true, true, true, true, true, true, true, true, true, true, true, true, true, true, false, false, false, false] rfl rfl (any_of HT_.out (by kernel_rfl)) (fun _ _ _ h => h) (Or.inl ⟨by rfl, ?_⟩) ?_ ?_
        rotate_left
        ·intro w'
         go_simp
         with_reducible rfl
        rotate_left
        ·simp only [Act.put, List.setIfInBounds_toArray, List.set_cons_zero, List.set_cons_succ, i64_w, i32_w]
         rfl
        refine take_ (i := 19) (N := some 27) (v := ?_) (a' := ?_) #[true, true, true, true, true, true, true, true, true, true, true, true, true, true, true, true, true, true, true, true, false, false, false] rfl rfl (take_ofW HT_.out HW_.out (by kernel_rfl)) (fun _ _ _ h => h) (Or.inl ⟨by rfl, ?_⟩) hHeld ?_ ?_
        rotate_left
        ·rintro w' ⟨s0, s1, s2⟩
         go_simp
         with_reducible rfl
        rotate_left
        ·simp only [Act.put, List.setIfInBounds_toArray, List.set_cons_zero, List.set_cons_succ, i64_w, i32_w]
         rfl
        refine pure_ (i := 20) (N := some 28) (v := ?_) (a' := ?_) #[true, true, true, true, true, true, true, true, true, true, true, true, true, true, true, true, true, true, true, true, true, false, false] rfl rfl (any_of HT_.out (by kernel_rfl)) (fun _ _ _ h => h) (Or.inl ⟨by rfl, ?_⟩) ?_ ?_
        rotate_left
        ·intro w'
         go_simp
         with_reducible rfl
        rotate_left
        ·simp only [Act.put, List.setIfInBounds_toArray, List.set_cons_zero, List.set_cons_succ, i64_w, i32_w]
         rfl
        refine pure_ (i := 21) (N := some 29) (v := ?_) (a' := ?_) #[true, true, true, true, true, true, true, true, true, true, true, true, true, true, true, true, true, true, true, true, true, true, false] rfl rfl (any_of HT_.out (by kernel_rfl)) (fun _ _ _ h => h) (Or.inl ⟨by rfl, ?_⟩) ?_ ?_
        rotate_left
        ·intro w'
         go_simp
         with_reducible rfl
        rotate_left
        ·simp only [Act.put, List.setIfInBounds_toArray, List.set_cons_zero, List.set_cons_succ, i64_w, i32_w]
         rfl
        refine last_ (i := 22) (N := none) #[true, true, true, true, true, true, true, true, true, true, true, true, true, true, true, true, true, true, true, true, true, true, true] rfl rfl (one_of HT_.out (by kernel_rfl)) (by decide) (fun K hK => ?_)
        refine skip_ (w1 := ?_) (by rfl) rfl ?_ ?_
        rotate_left
        ·go_simp
         rfl
        refine hK.out _ _ ?_
        clear hK K
        refine done_ (done_of HT_.out (by kernel_rfl)) ?_
        have n0_ : Aside0 (Kd.R (Kd.int .i64) 3 (w16.setCell ⟨go13, (a1 : Int).toNat, none⟩ (.int .i64 (wrap64 ((wrap64 ((wrap64 (3 * (rd l0 (ji4)))) * (rd l0 (ji7)))) - (rd l0 a1))))) w.heap.size (fun _ => True) (.slice (some ⟨go13, 0, none⟩) t358.length co13) y364) := ⟨by (with_reducible repeat (first | apply Kd.R_alloc | apply Kd.R_drewN | apply Kd.R_drew)); exact HQ17.out⟩
        have n1_ : Aside0 (Below w.heap.size w (w16.setCell ⟨go13, (a1 : Int).toNat, none⟩ (.int .i64 (wrap64 ((wrap64 ((wrap64 (3 * (rd l0 (ji4)))) * (rd l0 (ji7)))) - (rd l0 a1)))))) := ⟨by repeat (first | (with_reducible first | exact HB.out | apply below_alloc | apply pw_below_drewN | apply below_drew1 | refine below_set ?_ GB13.out) | exact HB.out)⟩
        (try clear HO360)
        (try clear HB)
        generalize (w16.setCell ⟨go13, (a1 : Int).toNat, none⟩ (.int .i64 (wrap64 ((wrap64 ((wrap64 (3 * (rd l0 (ji4)))) * (rd l0 (ji7)))) - (rd l0 a1))))) = w18 at n0_ n1_ ⊢
        have HO360 := n0_
        have HB := n1_
        clear n0_ n1_
        try go_wp2_with (first | ((with_reducible refine gate_callee (f := 58) rfl ?_); refine goesL_ (some 31) rfl rfl Try.func58 (by kernel_rfl) rfl #[.slice (some ⟨go13, 0, none⟩) t358.length co13] rfl (by (try simp only [List.map_toArray, List.map_cons, List.map_nil]); first | done | rfl | (simp only [List.length_drop, List.length_take]; rfl)) ?_; (with_reducible refine (slices_Sort_int_int.calls (fun k_ => some k_ = (.slice (some ⟨go13, 0, none⟩) t358.length co13 : Value).ownBlock) (.slice (some ⟨go13, 0, none⟩) t358.length co13) y364 t365 w _ ?side1 ?side2 A14.out).mono ?_); (case side1 => repeat (first | (with_reducible first | exact HB.out | apply below_alloc | apply pw_below_drewN | apply below_drew1) | exact HB.out)); (case side2 => exact Kd.R_tight rfl HO360.out); rintro e w19 ⟨rfl, hy0, hb, hkp⟩; refine ⟨_, rfl, ?_⟩; have n0_ := Aside0.mk (Kd.R_reok rfl hy0 (fun k_ e_ => HO360.out.1 k_ e_)); have n1_ := Aside0.mk (hb); clear HO360; clear HB; have HO360 := n0_; have HB := n1_; clear n0_ n1_; (try clear hb); (try clear hkp); (try clear hy0)))
        go_ret
        exact ⟨_, by first | rfl | (simp [errW_none, errW_some] <;> rfl) | (simp only [← hji4, ← hji7]; first | rfl | (simp [errW_none, errW_some] <;> rfl)) | (simp [*, errW_none, errW_some] <;> rfl), by (with_reducible repeat (first | apply Kd.R_alloc | apply Kd.R_drewN | apply Kd.R_drew)); exact HO360.out, by repeat (first | (with_reducible first | exact HB.out | apply below_alloc | apply pw_below_drewN | apply below_drew1) | exact HB.out)⟩
       ·rw [if_neg c12] at H
        exact absurd H (by simp)
      ·rw [if_neg c11] at H
       exact absurd H (by simp)
     ·rw [if_neg c10] at H
      exact absurd H (by simp)
    ·rw [if_neg c9] at H
     exact absurd H (by simp)
   ·rw [if_neg c8] at H
    exact absurd H (by simp)
  ·rw [if_neg c6] at H
   exact absurd H (by simp)
 ·rw [if_neg c5] at H
  exact absurd H (by simp)

end Go.Proofs.Ytkdgpbcecnmdhaa.P

-- Gups
namespace Go.Proofs.Ytkdgpbcecnmdhaa.P
open Go.Shelf Go.RowKit Go.Proofs.YtkdgpbcecnmdhaaW.PrintWords Go.Proofs.YtkdgpbcecnmdhaaW.PrintLast
set_option linter.unusedVariables false
set_option linter.unusedSimpArgs false

theorem compare_enters : ∀ args w, (callFunc 51 args).run Try.prog w = .ok (.enter 51 args) w := fun args w => enters_of Try.func51 (by kernel_rfl) rfl args w
theorem compare_at (W : World) (A B : Option Addr) (c c' : Nat) (x y : List Int) (hx : x.length < 9223372036854775807) (hy : y.length < 9223372036854775807) (h1 : Kd.C (Kd.int .i64) W A x.length x) (h2 : x.length ≤ c) (h3 : Kd.C (Kd.int .i64) W B y.length y) (h4 : y.length ≤ c') : Calls Try.prog 51 (#[.slice A x.length c, .slice B y.length c'] ++ #[]) W fun e w' => e = .returned (.int .i64 (cmpL x y)) ∧ Drawn0 W w' :=
  slices_Compare_int_int.calls (x.length + 1) A c x B c' y (cmpL x y) W h1 h2 h3 h4 (compare_ev x y hx)

def impl_ups.l0 : Nat → List Int → Int → List (List Int) → Int → Option (List (List Int))
  | 0, _, _, _, _ => none
  | k + 1, t, most, o, i => if i < 3 then (impl_moved.f t i).bind fun u => (if 2 < (u.length : Int) then (if 2 < (t.length : Int) then (if rd t 2 < rd u 2 then (if rd u 2 ≤ most then (if o.length < 1000000000 then (if u.length < 9223372036854775807 then impl_ups.l0 k t most (o ++ [u]) (wrap64 (i + 1)) else none) else none) else impl_ups.l0 k t most o (wrap64 (i + 1))) else impl_ups.l0 k t most o (wrap64 (i + 1))) else none) else none) else some (sortDedup o)
def impl_ups.f (k : Nat) (l0 : List Int) (a1 : Int) : Option (List (List Int)) := impl_ups.l0 k l0 a1 [] 0
theorem impl_ups.mono_l : ∀ k, (∀ y0 y1 y2 y3, LeO (impl_ups.l0 k y0 y1 y2 y3) (impl_ups.l0 (k + 1) y0 y1 y2 y3))
  | 0 => fun _ _ _ _ r h => by simp [impl_ups.l0] at h
  | k + 1 => by
    have ih0 := impl_ups.mono_l k
    intro y0 y1 y2 y3
    unfold impl_ups.l0
    repeat' first
      | (with_reducible exact ih0 _ _ _ _)
      | (with_reducible exact LeO.refl _)
      | (with_reducible exact LeO.none _)
      | (with_reducible refine LeO.ite ?_ ?_)
      | (with_reducible refine LeO.bind ?_ (fun _ => ?_))
theorem impl_ups.mono : ∀ a0 a1 k, LeO (impl_ups.f k a0 a1) (impl_ups.f (k + 1) a0 a1) := by
  intro a0 a1 k
  unfold impl_ups.f
  exact impl_ups.mono_l k _ _ _ _

set_option maxHeartbeats 4000000 in
set_option maxRecDepth 100000 in
theorem impl_ups.calls (k : Nat) (A0 : Option Addr) (c0 : Nat) (l0 : List Int) (a1 : Int) (r : List (List Int)) (w : World) (hr0 : Kd.C (Kd.int .i64) w A0 l0.length l0) (hc0 : l0.length ≤ c0) (h : impl_ups.f k l0 a1 = some r) :
    Calls Try.prog 48 #[.slice A0 l0.length c0, .int .i64 a1] w fun e w' => ∃ v0_ : Value, e = .returned (v0_) ∧ Kd.S (Kd.slice 3 (Kd.int .i64)) 30 w' w.heap.size (fun _ => True) v0_ r ∧ Below w.heap.size w w' := by
  have HR0 := Aside0.mk hr0
  have HC0 := Aside0.mk hc0
  have H' := Aside0.mk (show impl_ups.l0 k l0 a1 [] 0 = some r from h)
  have HB := Aside0.mk (Below.refl w.heap.size w)
  clear hr0 hc0 h
  go_enter Try.func48, Try.ntmps48
  go_wp2_with (first
    | ((with_reducible refine gate_dst (N := 8) rfl ?_); refine Kd.S_lits (Kd.slice 3 (Kd.int .i64)) (w0 := w) w.heap.size 30 ?hg (N := 8) ?hd (xs := []) (inner := []) (ok := fun _ => True) (fun j k_ => False) ?hr rfl ?hp ?ha (fun _ _ _ => trivial) trivial ?hB ?hs (by simp) ?_; (case hd => rfl); (case hg => rfl); (case hr => first | (go_simp; done) | (go_simp; rfl)); (case hp => intro j x hj; simp at hj); (case ha => intro i j k_ h1 _; exact h1.elim); (case hB => exact HB.out); (case hs => exact below_size HB.out); intro v2 w2 ho hb hg hat; have n2_ := Aside0.mk ho; have n3_ := Aside0.mk hb; clear HB; have HO6 := n2_; have HB := n3_; clear n2_ n3_ ho hb hg hat))
  go_loopg [5, 9] k (fun kq v5 v9 w' => ∃ (o : List (List Int)) (i : Int), v9 = .int .i64 i ∧ Aside0 (0 ≤ i ∧ i < 1000) ∧ Aside0 (impl_ups.l0 kq l0 a1 o i = some r) ∧ Aside0 (kq ≤ k) ∧ Aside0 (∀ x ∈ o, x.length < 9223372036854775807) ∧ Aside0 (o.length < 1000000001) ∧ Aside0 (Kd.S (Kd.slice 3 (Kd.int .i64)) 30 w' w.heap.size (fun _ => True) v5 o) ∧ Aside0 (Below w.heap.size w w'))
  case atStart => exact ⟨[], 0, rfl, ⟨by omega⟩, H', ⟨Nat.le_refl _⟩, ⟨by simp⟩, ⟨by simp⟩, ⟨HO6.out⟩, ⟨HB.out⟩⟩
  case round =>
    clear H' HO6 HB
    obtain ⟨o, i, rfl, HI, HA, HK1, HP, HL, HO6, HB⟩ := hrel
    cases gk with
    | zero => exact absurd HA.out (by simp [impl_ups.l0])
    | succ k1 =>
      have H := HA.out
      clear HA
      simp only [impl_ups.l0] at H
      by_cases c2 : i < 3
      · have HI3 := Aside0.mk c2
        rw [if_pos c2] at H
        have c2b0 : decide (i < 3) = true := decide_eq_true c2
        clear c2
        obtain ⟨u, A3, H⟩ := Option.bind_eq_some_iff.mp H
        have HA3 := Aside0.mk A3
        clear A3
        by_cases c5 : 2 < (u.length : Int)
        · rw [if_pos c5] at H
          have c5b0 : decide (2 < (u.length : Int)) = true := decide_eq_true c5
          have c5b1 : decide (2 < u.length) = true := decide_eq_true (by omega)
          clear c5
          by_cases c6 : 2 < (l0.length : Int)
          · rw [if_pos c6] at H
            have c6b0 : decide (2 < (l0.length : Int)) = true := decide_eq_true c6
            have c6b1 : decide (2 < l0.length) = true := decide_eq_true (by omega)
            clear c6
            by_cases c7 : rd l0 2 < rd u 2
            · rw [if_pos c7] at H
              have c7b0 : decide (rd l0 2 < rd u 2) = true := decide_eq_true c7
              clear c7
              by_cases c8 : rd u 2 ≤ a1
              · rw [if_pos c8] at H
                have c8b0 : decide (rd u 2 ≤ a1) = true := decide_eq_true c8
                clear c8
                by_cases c9 : o.length < 1000000000
                · rw [if_pos c9] at H
                  have LM := Aside0.mk c9
                  clear c9
                  by_cases c10 : u.length < 9223372036854775807
                  · rw [if_pos c10] at H
                    have HU := Aside0.mk c10
                    have H' := Aside0.mk H
                    clear H c10
                    go_wp2_with (first
                      | (go_at_call 44; refine (impl_moved.calls _ _ l0 i u _ (by repeat (first | exact (Kd.C_below HR0.out HB.out) | (with_reducible refine Kd.C_alloc ?_ _) | (with_reducible refine Kd.C_drewN ?_ _) | (with_reducible refine Kd.C_drew ?_))) HC0.out HA3.out).mono ?_; rintro e w4 ⟨v4, rfl, ho0, hb⟩; have n1_ := Aside0.mk (Kd.S_elder' (by (with_reducible repeat (first | apply Kd.S_alloc | apply Kd.S_drewN | apply Kd.S_drew)); exact HO6.out) (Kd.R_base ho0) hb); have n2_ := Aside0.mk (below_step (by repeat (first | (with_reducible first | exact HB.out | apply below_alloc | apply pw_below_drewN | apply below_drew1) | exact HB.out)) hb); have n0_ := Aside0.mk (Kd.R_lower ho0 (below_size (by repeat (first | (with_reducible first | exact HB.out | apply below_alloc | apply pw_below_drewN | apply below_drew1) | exact HB.out)))); clear HO6 HB; have HO5 := n0_; have HO6 := n1_; have HB := n2_; clear n0_ n1_ n2_ hb ho0; obtain ⟨Ao4, co4, eo4⟩ := Kd.R_slice HO5.out; subst eo4; have p1 : 0 ≤ (2 : Int) := (by omega); have q1 : 2 < (u.length : Int) := of_decide_eq_true (by first | (with_reducible assumption) | assumption); obtain ⟨ad1, e1, hx1⟩ := Kd.at_int (Kd.R_reads' HO5.out).2.2 2 p1 q1; cases e1; (try simp only [show (2 : Int).toNat = 2 from rfl, Nat.reduceMul, Nat.reduceEqDiff, Go.Addr.add, ↓reduceIte] at hx1); have qi1 : (2 < u.length) = True := eq_true (by omega); (try rw [show ((2 : Int)).toNat = 2 from rfl] at hx1); replace p1 := eq_true p1; replace q1 := eq_true q1; have p2 : 0 ≤ (2 : Int) := (by omega); have q2 : 2 < (l0.length : Int) := of_decide_eq_true (by first | (with_reducible assumption) | assumption); obtain ⟨ad2, e2, hx2⟩ := Kd.at_int HR0.out 2 p2 q2; cases e2; (try simp only [show (2 : Int).toNat = 2 from rfl, Nat.reduceMul, Nat.reduceEqDiff, Go.Addr.add, ↓reduceIte] at hx2); have qi2 : (2 < l0.length) = True := eq_true (by omega); (try rw [show ((2 : Int)).toNat = 2 from rfl] at hx2); replace hx2 := (HB.out.cell (World.block_lt_of_cell? w _ hx2)).trans hx2; replace p2 := eq_true p2; replace q2 := eq_true q2)
                      | ((with_reducible refine gate_builtin (b := .append) (xs := #[.tmp 29, .tmp 31]) rfl ?_); at_builtin; refine Kd.S_append (Kd.slice 3 (Kd.int .i64)) (w0 := w) w.heap.size rfl (.tmp 29) (.tmp 31) 25 30 (.slice none 0 0) 24 rfl Try.underlying25 info30 rfl (by decide) (by omega) u5 o u [.slice (some ad1) u.length co4] (fun _ => True) (fun k_ => some k_ = (Value.slice (some ad1) u.length co4).ownBlock) rfl rfl ?aP ?aK (fun _ _ => trivial) ?aO ?aB ?aS ?aL ?_; (case aP => exact ⟨_, rfl, Kd.R_tight rfl HO5.out⟩); (case aK => exact fun k_ hk => ⟨trivial, ((Kd.R_apart' HO5.out (Kd.S_typed HO6.out) (by decide)).1 k_ hk.symm).2⟩); (case aO => (with_reducible repeat (first | apply Kd.S_alloc | apply Kd.S_drewN | apply Kd.S_drew)); exact Kd.S_mono HO6.out (fun k_ hk => ⟨trivial, hk.2⟩)); (case aB => exact (by repeat (first | (with_reducible first | exact HB.out | apply below_alloc | apply pw_below_drewN | apply below_drew1) | exact HB.out))); (case aS => exact (below_size (by repeat (first | (with_reducible first | exact HB.out | apply below_alloc | apply pw_below_drewN | apply below_drew1) | exact HB.out)))); (case aL => have := LM.out; omega); intro v7 w7 ho hb hg hat; clear HO5 HO6 HB; have HO6 := Aside0.mk ho; have HB := Aside0.mk hb; clear ho hb hg hat))
                    repeat (go_quiet (fail); try go_wp2_with (first
                      | (go_at_call 44; refine (impl_moved.calls _ _ l0 i u _ (by repeat (first | exact (Kd.C_below HR0.out HB.out) | (with_reducible refine Kd.C_alloc ?_ _) | (with_reducible refine Kd.C_drewN ?_ _) | (with_reducible refine Kd.C_drew ?_))) HC0.out HA3.out).mono ?_; rintro e w4 ⟨v4, rfl, ho0, hb⟩; have n1_ := Aside0.mk (Kd.S_elder' (by (with_reducible repeat (first | apply Kd.S_alloc | apply Kd.S_drewN | apply Kd.S_drew)); exact HO6.out) (Kd.R_base ho0) hb); have n2_ := Aside0.mk (below_step (by repeat (first | (with_reducible first | exact HB.out | apply below_alloc | apply pw_below_drewN | apply below_drew1) | exact HB.out)) hb); have n0_ := Aside0.mk (Kd.R_lower ho0 (below_size (by repeat (first | (with_reducible first | exact HB.out | apply below_alloc | apply pw_below_drewN | apply below_drew1) | exact HB.out)))); clear HO6 HB; have HO5 := n0_; have HO6 := n1_; have HB := n2_; clear n0_ n1_ n2_ hb ho0; obtain ⟨Ao4, co4, eo4⟩ := Kd.R_slice HO5.out; subst eo4; have p1 : 0 ≤ (2 : Int) := (by omega); have q1 : 2 < (u.length : Int) := of_decide_eq_true (by first | (with_reducible assumption) | assumption); obtain ⟨ad1, e1, hx1⟩ := Kd.at_int (Kd.R_reads' HO5.out).2.2 2 p1 q1; cases e1; (try simp only [show (2 : Int).toNat = 2 from rfl, Nat.reduceMul, Nat.reduceEqDiff, Go.Addr.add, ↓reduceIte] at hx1); have qi1 : (2 < u.length) = True := eq_true (by omega); (try rw [show ((2 : Int)).toNat = 2 from rfl] at hx1); replace p1 := eq_true p1; replace q1 := eq_true q1; have p2 : 0 ≤ (2 : Int) := (by omega); have q2 : 2 < (l0.length : Int) := of_decide_eq_true (by first | (with_reducible assumption) | assumption); obtain ⟨ad2, e2, hx2⟩ := Kd.at_int HR0.out 2 p2 q2; cases e2; (try simp only [show (2 : Int).toNat = 2 from rfl, Nat.reduceMul, Nat.reduceEqDiff, Go.Addr.add, ↓reduceIte] at hx2); have qi2 : (2 < l0.length) = True := eq_true (by omega); (try rw [show ((2 : Int)).toNat = 2 from rfl] at hx2); replace hx2 := (HB.out.cell (World.block_lt_of_cell? w _ hx2)).trans hx2; replace p2 := eq_true p2; replace q2 := eq_true q2)
                      | ((with_reducible refine gate_builtin (b := .append) (xs := #[.tmp 29, .tmp 31]) rfl ?_); at_builtin; refine Kd.S_append (Kd.slice 3 (Kd.int .i64)) (w0 := w) w.heap.size rfl (.tmp 29) (.tmp 31) 25 30 (.slice none 0 0) 24 rfl Try.underlying25 info30 rfl (by decide) (by omega) u5 o u [.slice (some ad1) u.length co4] (fun _ => True) (fun k_ => some k_ = (Value.slice (some ad1) u.length co4).ownBlock) rfl rfl ?aP ?aK (fun _ _ => trivial) ?aO ?aB ?aS ?aL ?_; (case aP => exact ⟨_, rfl, Kd.R_tight rfl HO5.out⟩); (case aK => exact fun k_ hk => ⟨trivial, ((Kd.R_apart' HO5.out (Kd.S_typed HO6.out) (by decide)).1 k_ hk.symm).2⟩); (case aO => (with_reducible repeat (first | apply Kd.S_alloc | apply Kd.S_drewN | apply Kd.S_drew)); exact Kd.S_mono HO6.out (fun k_ hk => ⟨trivial, hk.2⟩)); (case aB => exact (by repeat (first | (with_reducible first | exact HB.out | apply below_alloc | apply pw_below_drewN | apply below_drew1) | exact HB.out))); (case aS => exact (below_size (by repeat (first | (with_reducible first | exact HB.out | apply below_alloc | apply pw_below_drewN | apply below_drew1) | exact HB.out)))); (case aL => have := LM.out; omega); intro v7 w7 ho hb hg hat; clear HO5 HO6 HB; have HO6 := Aside0.mk ho; have HB := Aside0.mk hb; clear ho hb hg hat)))
                    go_roundg k1
                    case measure => have := HK1.out; omega
                    case rel => exact ⟨o ++ [u], wrap64 (i + 1), (by first | rfl | (simp; done) | (simp [*]; done)), ⟨by have := HI.out; have := HI3.out; unfold wrap64; omega⟩, H', ⟨by have := HK1.out; omega⟩, ⟨fun x hx => by rcases List.mem_append.1 hx with h_ | h_; exact HP.out x h_; (simp at h_; exact h_ ▸ HU.out)⟩, ⟨by have := LM.out; simp; omega⟩, ⟨by (with_reducible repeat (first | apply Kd.S_alloc | apply Kd.S_drewN | apply Kd.S_drew)); exact Kd.S_mono HO6.out (fun _ _ => trivial)⟩, ⟨by repeat (first | (with_reducible first | exact HB.out | apply below_alloc | apply pw_below_drewN | apply below_drew1) | exact HB.out)⟩⟩
                  · rw [if_neg c10] at H
                    exact absurd H (by simp)
                · rw [if_neg c9] at H
                  exact absurd H (by simp)
              · rw [if_neg c8] at H
                have c8b0 : decide (rd u 2 ≤ a1) = false := decide_eq_false c8
                clear c8
                have H' := Aside0.mk H
                clear H
                go_wp2_with (first
                  | (go_at_call 44; refine (impl_moved.calls _ _ l0 i u _ (by repeat (first | exact (Kd.C_below HR0.out HB.out) | (with_reducible refine Kd.C_alloc ?_ _) | (with_reducible refine Kd.C_drewN ?_ _) | (with_reducible refine Kd.C_drew ?_))) HC0.out HA3.out).mono ?_; rintro e w4 ⟨v4, rfl, ho0, hb⟩; have n1_ := Aside0.mk (Kd.S_elder' (by (with_reducible repeat (first | apply Kd.S_alloc | apply Kd.S_drewN | apply Kd.S_drew)); exact HO6.out) (Kd.R_base ho0) hb); have n2_ := Aside0.mk (below_step (by repeat (first | (with_reducible first | exact HB.out | apply below_alloc | apply pw_below_drewN | apply below_drew1) | exact HB.out)) hb); have n0_ := Aside0.mk (Kd.R_lower ho0 (below_size (by repeat (first | (with_reducible first | exact HB.out | apply below_alloc | apply pw_below_drewN | apply below_drew1) | exact HB.out)))); clear HO6 HB; have HO5 := n0_; have HO6 := n1_; have HB := n2_; clear n0_ n1_ n2_ hb ho0; obtain ⟨Ao4, co4, eo4⟩ := Kd.R_slice HO5.out; subst eo4; have p1 : 0 ≤ (2 : Int) := (by omega); have q1 : 2 < (u.length : Int) := of_decide_eq_true (by first | (with_reducible assumption) | assumption); obtain ⟨ad1, e1, hx1⟩ := Kd.at_int (Kd.R_reads' HO5.out).2.2 2 p1 q1; cases e1; (try simp only [show (2 : Int).toNat = 2 from rfl, Nat.reduceMul, Nat.reduceEqDiff, Go.Addr.add, ↓reduceIte] at hx1); have qi1 : (2 < u.length) = True := eq_true (by omega); (try rw [show ((2 : Int)).toNat = 2 from rfl] at hx1); replace p1 := eq_true p1; replace q1 := eq_true q1; have p2 : 0 ≤ (2 : Int) := (by omega); have q2 : 2 < (l0.length : Int) := of_decide_eq_true (by first | (with_reducible assumption) | assumption); obtain ⟨ad2, e2, hx2⟩ := Kd.at_int HR0.out 2 p2 q2; cases e2; (try simp only [show (2 : Int).toNat = 2 from rfl, Nat.reduceMul, Nat.reduceEqDiff, Go.Addr.add, ↓reduceIte] at hx2); have qi2 : (2 < l0.length) = True := eq_true (by omega); (try rw [show ((2 : Int)).toNat = 2 from rfl] at hx2); replace hx2 := (HB.out.cell (World.block_lt_of_cell? w _ hx2)).trans hx2; replace p2 := eq_true p2; replace q2 := eq_true q2))
                repeat (go_quiet (fail); try go_wp2_with (first
                  | (go_at_call 44; refine (impl_moved.calls _ _ l0 i u _ (by repeat (first | exact (Kd.C_below HR0.out HB.out) | (with_reducible refine Kd.C_alloc ?_ _) | (with_reducible refine Kd.C_drewN ?_ _) | (with_reducible refine Kd.C_drew ?_))) HC0.out HA3.out).mono ?_; rintro e w4 ⟨v4, rfl, ho0, hb⟩; have n1_ := Aside0.mk (Kd.S_elder' (by (with_reducible repeat (first | apply Kd.S_alloc | apply Kd.S_drewN | apply Kd.S_drew)); exact HO6.out) (Kd.R_base ho0) hb); have n2_ := Aside0.mk (below_step (by repeat (first | (with_reducible first | exact HB.out | apply below_alloc | apply pw_below_drewN | apply below_drew1) | exact HB.out)) hb); have n0_ := Aside0.mk (Kd.R_lower ho0 (below_size (by repeat (first | (with_reducible first | exact HB.out | apply below_alloc | apply pw_below_drewN | apply below_drew1) | exact HB.out)))); clear HO6 HB; have HO5 := n0_; have HO6 := n1_; have HB := n2_; clear n0_ n1_ n2_ hb ho0; obtain ⟨Ao4, co4, eo4⟩ := Kd.R_slice HO5.out; subst eo4; have p1 : 0 ≤ (2 : Int) := (by omega); have q1 : 2 < (u.length : Int) := of_decide_eq_true (by first | (with_reducible assumption) | assumption); obtain ⟨ad1, e1, hx1⟩ := Kd.at_int (Kd.R_reads' HO5.out).2.2 2 p1 q1; cases e1; (try simp only [show (2 : Int).toNat = 2 from rfl, Nat.reduceMul, Nat.reduceEqDiff, Go.Addr.add, ↓reduceIte] at hx1); have qi1 : (2 < u.length) = True := eq_true (by omega); (try rw [show ((2 : Int)).toNat = 2 from rfl] at hx1); replace p1 := eq_true p1; replace q1 := eq_true q1; have p2 : 0 ≤ (2 : Int) := (by omega); have q2 : 2 < (l0.length : Int) := of_decide_eq_true (by first | (with_reducible assumption) | assumption); obtain ⟨ad2, e2, hx2⟩ := Kd.at_int HR0.out 2 p2 q2; cases e2; (try simp only [show (2 : Int).toNat = 2 from rfl, Nat.reduceMul, Nat.reduceEqDiff, Go.Addr.add, ↓reduceIte] at hx2); have qi2 : (2 < l0.length) = True := eq_true (by omega); (try rw [show ((2 : Int)).toNat = 2 from rfl] at hx2); replace hx2 := (HB.out.cell (World.block_lt_of_cell? w _ hx2)).trans hx2; replace p2 := eq_true p2; replace q2 := eq_true q2)))
                go_roundg k1
                case measure => have := HK1.out; omega
                case rel => exact ⟨o, wrap64 (i + 1), (by first | rfl | (simp; done) | (simp [*]; done)), ⟨by have := HI.out; have := HI3.out; unfold wrap64; omega⟩, H', ⟨by have := HK1.out; omega⟩, HP, HL, ⟨by (with_reducible repeat (first | apply Kd.S_alloc | apply Kd.S_drewN | apply Kd.S_drew)); exact Kd.S_mono HO6.out (fun _ _ => trivial)⟩, ⟨by repeat (first | (with_reducible first | exact HB.out | apply below_alloc | apply pw_below_drewN | apply below_drew1) | exact HB.out)⟩⟩
            · rw [if_neg c7] at H
              have c7b0 : decide (rd l0 2 < rd u 2) = false := decide_eq_false c7
              clear c7
              have H' := Aside0.mk H
              clear H
              go_wp2_with (first
                | (go_at_call 44; refine (impl_moved.calls _ _ l0 i u _ (by repeat (first | exact (Kd.C_below HR0.out HB.out) | (with_reducible refine Kd.C_alloc ?_ _) | (with_reducible refine Kd.C_drewN ?_ _) | (with_reducible refine Kd.C_drew ?_))) HC0.out HA3.out).mono ?_; rintro e w4 ⟨v4, rfl, ho0, hb⟩; have n1_ := Aside0.mk (Kd.S_elder' (by (with_reducible repeat (first | apply Kd.S_alloc | apply Kd.S_drewN | apply Kd.S_drew)); exact HO6.out) (Kd.R_base ho0) hb); have n2_ := Aside0.mk (below_step (by repeat (first | (with_reducible first | exact HB.out | apply below_alloc | apply pw_below_drewN | apply below_drew1) | exact HB.out)) hb); have n0_ := Aside0.mk (Kd.R_lower ho0 (below_size (by repeat (first | (with_reducible first | exact HB.out | apply below_alloc | apply pw_below_drewN | apply below_drew1) | exact HB.out)))); clear HO6 HB; have HO5 := n0_; have HO6 := n1_; have HB := n2_; clear n0_ n1_ n2_ hb ho0; obtain ⟨Ao4, co4, eo4⟩ := Kd.R_slice HO5.out; subst eo4; have p1 : 0 ≤ (2 : Int) := (by omega); have q1 : 2 < (u.length : Int) := of_decide_eq_true (by first | (with_reducible assumption) | assumption); obtain ⟨ad1, e1, hx1⟩ := Kd.at_int (Kd.R_reads' HO5.out).2.2 2 p1 q1; cases e1; (try simp only [show (2 : Int).toNat = 2 from rfl, Nat.reduceMul, Nat.reduceEqDiff, Go.Addr.add, ↓reduceIte] at hx1); have qi1 : (2 < u.length) = True := eq_true (by omega); (try rw [show ((2 : Int)).toNat = 2 from rfl] at hx1); replace p1 := eq_true p1; replace q1 := eq_true q1; have p2 : 0 ≤ (2 : Int) := (by omega); have q2 : 2 < (l0.length : Int) := of_decide_eq_true (by first | (with_reducible assumption) | assumption); obtain ⟨ad2, e2, hx2⟩ := Kd.at_int HR0.out 2 p2 q2; cases e2; (try simp only [show (2 : Int).toNat = 2 from rfl, Nat.reduceMul, Nat.reduceEqDiff, Go.Addr.add, ↓reduceIte] at hx2); have qi2 : (2 < l0.length) = True := eq_true (by omega); (try rw [show ((2 : Int)).toNat = 2 from rfl] at hx2); replace hx2 := (HB.out.cell (World.block_lt_of_cell? w _ hx2)).trans hx2; replace p2 := eq_true p2; replace q2 := eq_true q2))
              repeat (go_quiet (fail); try go_wp2_with (first
                | (go_at_call 44; refine (impl_moved.calls _ _ l0 i u _ (by repeat (first | exact (Kd.C_below HR0.out HB.out) | (with_reducible refine Kd.C_alloc ?_ _) | (with_reducible refine Kd.C_drewN ?_ _) | (with_reducible refine Kd.C_drew ?_))) HC0.out HA3.out).mono ?_; rintro e w4 ⟨v4, rfl, ho0, hb⟩; have n1_ := Aside0.mk (Kd.S_elder' (by (with_reducible repeat (first | apply Kd.S_alloc | apply Kd.S_drewN | apply Kd.S_drew)); exact HO6.out) (Kd.R_base ho0) hb); have n2_ := Aside0.mk (below_step (by repeat (first | (with_reducible first | exact HB.out | apply below_alloc | apply pw_below_drewN | apply below_drew1) | exact HB.out)) hb); have n0_ := Aside0.mk (Kd.R_lower ho0 (below_size (by repeat (first | (with_reducible first | exact HB.out | apply below_alloc | apply pw_below_drewN | apply below_drew1) | exact HB.out)))); clear HO6 HB; have HO5 := n0_; have HO6 := n1_; have HB := n2_; clear n0_ n1_ n2_ hb ho0; obtain ⟨Ao4, co4, eo4⟩ := Kd.R_slice HO5.out; subst eo4; have p1 : 0 ≤ (2 : Int) := (by omega); have q1 : 2 < (u.length : Int) := of_decide_eq_true (by first | (with_reducible assumption) | assumption); obtain ⟨ad1, e1, hx1⟩ := Kd.at_int (Kd.R_reads' HO5.out).2.2 2 p1 q1; cases e1; (try simp only [show (2 : Int).toNat = 2 from rfl, Nat.reduceMul, Nat.reduceEqDiff, Go.Addr.add, ↓reduceIte] at hx1); have qi1 : (2 < u.length) = True := eq_true (by omega); (try rw [show ((2 : Int)).toNat = 2 from rfl] at hx1); replace p1 := eq_true p1; replace q1 := eq_true q1; have p2 : 0 ≤ (2 : Int) := (by omega); have q2 : 2 < (l0.length : Int) := of_decide_eq_true (by first | (with_reducible assumption) | assumption); obtain ⟨ad2, e2, hx2⟩ := Kd.at_int HR0.out 2 p2 q2; cases e2; (try simp only [show (2 : Int).toNat = 2 from rfl, Nat.reduceMul, Nat.reduceEqDiff, Go.Addr.add, ↓reduceIte] at hx2); have qi2 : (2 < l0.length) = True := eq_true (by omega); (try rw [show ((2 : Int)).toNat = 2 from rfl] at hx2); replace hx2 := (HB.out.cell (World.block_lt_of_cell? w _ hx2)).trans hx2; replace p2 := eq_true p2; replace q2 := eq_true q2)))
              go_roundg k1
              case measure => have := HK1.out; omega
              case rel => exact ⟨o, wrap64 (i + 1), (by first | rfl | (simp; done) | (simp [*]; done)), ⟨by have := HI.out; have := HI3.out; unfold wrap64; omega⟩, H', ⟨by have := HK1.out; omega⟩, HP, HL, ⟨by (with_reducible repeat (first | apply Kd.S_alloc | apply Kd.S_drewN | apply Kd.S_drew)); exact Kd.S_mono HO6.out (fun _ _ => trivial)⟩, ⟨by repeat (first | (with_reducible first | exact HB.out | apply below_alloc | apply pw_below_drewN | apply below_drew1) | exact HB.out)⟩⟩
          · rw [if_neg c6] at H
            exact absurd H (by simp)
        · rw [if_neg c5] at H
          exact absurd H (by simp)
      · rw [if_neg c2] at H
        have c2b0 : decide (i < 3) = false := decide_eq_false c2
        clear c2
        obtain rfl : sortDedup o = r := by simpa using H
        clear H
        go_wp2_with (first
          | (go_at_call 49; refine (rows_sort cmpL cmpL_total (fun x => x.length < 9223372036854775807) 51 #[] compare_enters compare_at (fun _ => True) _ o w _ HB.out HP.out (by have := HL.out; omega) HO6.out).mono ?_; rintro e w3 ⟨rfl, ys, hp, hs, ho, hb, hk⟩; have n1_ := Aside0.mk (Kd.S_mono ho (fun _ _ => trivial)); have n2_ := Aside0.mk hb; have n3_ := Aside0.mk hp; have n4_ := Aside0.mk hs; clear HO6 HB; have HO6 := n1_; have HB := n2_; have HPM := n3_; have HSO := n4_; clear n1_ n2_ n3_ n4_ ho hb hk hp hs)
          | (go_at_call 63; refine (rows_compact (fun _ => True) _ ys w _ HB.out (fun x hx => HP.out x ((HPM.out.mem_iff).1 hx)) (HSO.out.imp (fun h_ => by omega)) HO6.out).mono ?_; rintro e w4 ⟨v4, rfl, zs, hz1, hz2, ho, hb, hk⟩; have n1_ := Aside0.mk (Kd.S_mono ho (fun _ _ => trivial)); have n2_ := Aside0.mk hb; have n3_ := Aside0.mk (sortDedup_is hz1 (fun z => (hz2 z).trans HPM.out.mem_iff)); clear HO6 HB; have HO6 := n1_; have HB := n2_; have HZ := n3_; clear n1_ n2_ n3_ ho hb hk hz1 hz2))
        go_ret
        exact ⟨_, rfl, by rw [← HZ.out]; exact HO6.out, HB.out⟩
end Go.Proofs.Ytkdgpbcecnmdhaa.P

-- Gmarkovs
namespace Go.Proofs.Ytkdgpbcecnmdhaa.P
open Go.Shelf Go.RowKit Go.Proofs.YtkdgpbcecnmdhaaW.PrintWords Go.Proofs.YtkdgpbcecnmdhaaW.PrintLast
set_option linter.unusedVariables false
set_option linter.unusedSimpArgs false

theorem cmpM_enters : ∀ args w, (callFunc 50 args).run Try.prog w = .ok (.enter 50 args) w := fun args w => enters_of Try.func50 (by kernel_rfl) rfl args w
set_option maxHeartbeats 1000000 in
set_option maxRecDepth 100000 in
theorem cmpM_at (W : World) (A B : Option Addr) (c c' : Nat) (x y : List Int) (hx : prM x = true) (hy : prM y = true) (h1 : Kd.C (Kd.int .i64) W A x.length x) (h2 : x.length ≤ c) (h3 : Kd.C (Kd.int .i64) W B y.length y) (h4 : y.length ≤ c') : Calls Try.prog 50 (#[.slice A x.length c, .slice B y.length c'] ++ #[]) W fun e w' => e = .returned (.int .i64 (cfM x y)) ∧ Drawn0 W w' := by
  show Calls Try.prog 50 #[.slice A x.length c, .slice B y.length c'] W fun e w' => e = .returned (.int .i64 (cfM x y)) ∧ Drawn0 W w'
  rw [prM_iff] at hx hy
  have p1 : 0 ≤ (2 : Int) := by omega
  have q1 : 2 < (x.length : Int) := by omega
  have q2 : 2 < (y.length : Int) := by omega
  obtain ⟨ad1, e1, hx1⟩ := Kd.at_int h1 2 p1 q1
  cases e1
  obtain ⟨ad2, e2, hx2⟩ := Kd.at_int h3 2 p1 q2
  cases e2
  (try simp only [show (2 : Int).toNat = 2 from rfl, Nat.reduceMul, Nat.reduceEqDiff, Go.Addr.add, ↓reduceIte] at hx1)
  (try simp only [show (2 : Int).toNat = 2 from rfl, Nat.reduceMul, Nat.reduceEqDiff, Go.Addr.add, ↓reduceIte] at hx2)
  have qi1 : (2 < x.length) = True := eq_true (by omega)
  have qi2 : (2 < y.length) = True := eq_true (by omega)
  have HC := Aside0.mk (slices_Compare_int_int.calls (x.length + 1) (some ad1) c x (some ad2) c' y (cmpL x y) · · · · · (compare_ev x y hx.2.1))
  have H1 := Aside0.mk h1
  have H2 := Aside0.mk h2
  have H3 := Aside0.mk h3
  have H4 := Aside0.mk h4
  have HX := Aside0.mk hx
  have HY := Aside0.mk hy
  clear h1 h2 h3 h4
  have hwr : wrap64 (rd x 2 - rd y 2) = rd x 2 - rd y 2 := by unfold wrap64; omega
  clear hx hy
  by_cases e : rd x 2 = rd y 2
  · have eb0 : (rd x 2 == rd y 2) = true := beq_iff_eq.mpr e
    have eb1 : (rd x 2 != rd y 2) = false := bne_eq_false_iff_eq.mpr e
    have hcf : Aside0 (cfM x y = cmpL x y) := ⟨by unfold cfM; rw [if_pos e]⟩
    clear e hwr
    generalize rd x 2 = a at *
    generalize rd y 2 = b at *
    go_enter Try.func50, Try.ntmps50
    go_wp2_with (first
      | (go_at_call 51; refine (HC.out _ (by repeat (first | exact H1.out | (with_reducible refine Kd.C_alloc ?_ _) | (with_reducible refine Kd.C_drewN ?_ _) | (with_reducible refine Kd.C_drew ?_))) H2.out (by repeat (first | exact H3.out | (with_reducible refine Kd.C_alloc ?_ _) | (with_reducible refine Kd.C_drewN ?_ _) | (with_reducible refine Kd.C_drew ?_))) H4.out).mono ?_; rintro e w' ⟨rfl, ⟨nd, rfl⟩⟩))
    repeat (go_quiet (fail); try go_wp2_with (first
      | (go_at_call 51; refine (HC.out _ (by repeat (first | exact H1.out | (with_reducible refine Kd.C_alloc ?_ _) | (with_reducible refine Kd.C_drewN ?_ _) | (with_reducible refine Kd.C_drew ?_))) H2.out (by repeat (first | exact H3.out | (with_reducible refine Kd.C_alloc ?_ _) | (with_reducible refine Kd.C_drewN ?_ _) | (with_reducible refine Kd.C_drew ?_))) H4.out).mono ?_; rintro e w' ⟨rfl, ⟨nd, rfl⟩⟩)))
    go_ret
    exact ⟨by rw [hcf.out]; rfl, by repeat (first | exact Drawn0.refl _ | apply Drawn0.step)⟩
  · have eb0 : (rd x 2 == rd y 2) = false := beq_eq_false_iff_ne.mpr e
    have eb1 : (rd x 2 != rd y 2) = true := bne_iff_ne.mpr e
    have hcf : Aside0 (cfM x y = rd x 2 - rd y 2) := ⟨by unfold cfM; rw [if_neg e]⟩
    have hwa := Aside0.mk hwr
    clear e hwr HC
    go_enter Try.func50, Try.ntmps50
    go_wp2
    repeat (go_quiet (fail); try go_wp2)
    go_ret
    exact ⟨by rw [hcf.out]; first | rfl | (simp [i64_w, hwa.out]; done), by repeat (first | exact Drawn0.refl _ | apply Drawn0.step)⟩

def impl_markovs.l0 : Nat → Int → List (List Int) → Int → Option (List (List Int))
  | 0, _, _, _ => none
  | k + 1, most, all, i => if i < (all.length : Int) then (if 0 ≤ i then (impl_ups.f k (rd_L1 all i) most).bind fun us => (if all.length + us.length < 5864062014805 then impl_markovs.l0 k most (all ++ us) (wrap64 (i + 1)) else none) else none) else (if all.all prM = true then some (sortM all) else none)
def impl_markovs.f (k : Nat) (a0 : Int) : Option (List (List Int)) := impl_markovs.l0 k a0 [[1, 1, 1]] 0
theorem impl_markovs.mono_l : ∀ k, (∀ y0 y1 y2, LeO (impl_markovs.l0 k y0 y1 y2) (impl_markovs.l0 (k + 1) y0 y1 y2))
  | 0 => fun _ _ _ r h => by simp [impl_markovs.l0] at h
  | k + 1 => by
    have ih0 := impl_markovs.mono_l k
    intro y0 y1 y2
    unfold impl_markovs.l0
    repeat' first
      | (with_reducible exact ih0 _ _ _)
      | (with_reducible exact impl_ups.mono _ _ _)
      | (with_reducible exact LeO.refl _)
      | (with_reducible exact LeO.none _)
      | (with_reducible refine LeO.ite ?_ ?_)
      | (with_reducible refine LeO.bind ?_ (fun _ => ?_))
theorem impl_markovs.mono : ∀ a0 k, LeO (impl_markovs.f k a0) (impl_markovs.f (k + 1) a0) := by
  intro a0 k
  unfold impl_markovs.f
  exact impl_markovs.mono_l k _ _ _

set_option maxHeartbeats 4000000 in
set_option maxRecDepth 100000 in
theorem impl_markovs.calls (k : Nat) (a0 : Int) (r : List (List Int)) (w : World) (h : impl_markovs.f k a0 = some r) :
    Calls Try.prog 34 #[.int .i64 a0] w fun e w' => ∃ v0_ : Value, e = .returned (v0_) ∧ Kd.S (Kd.slice 3 (Kd.int .i64)) 30 w' w.heap.size (fun _ => True) v0_ r ∧ Below w.heap.size w w' := by
  obtain ⟨t, ht⟩ : ∃ t : List Int, t = [1, 1, 1] := ⟨_, rfl⟩
  have H' := Aside0.mk (show impl_markovs.l0 k a0 [t] 0 = some r from by rw [ht]; exact h)
  have HT := Aside0.mk ht
  have HB := Aside0.mk (Below.refl w.heap.size w)
  clear h ht
  go_enter Try.func34, Try.ntmps34
  go_wp2_with (first
    | ((with_reducible refine gate_dst (N := 5) rfl ?_); refine Kd.R_lit (Kd.int .i64) _ 3 ?hg (N := 5) ?hd (xs := ([1, 1, 1] : List Int)) (inner := [.int .i64 1, .int .i64 1, .int .i64 1]) (ok := fun _ => True) (okp := fun _ => True) ?hr ?hp (fun _ hk => hk) trivial (Below.refl _ _) (Nat.le_refl _) (by simp) ?_; (case hd => rfl); (case hg => rfl); (case hr => first | (go_simp; done) | (go_simp; rfl)); (case hp => exact (Reps.one (show Kd.M (Kd.int .i64) _ _ _ 1 [.int .i64 1] from rfl) (Reps.one (show Kd.M (Kd.int .i64) _ _ _ 1 [.int .i64 1] from rfl) (Reps.one (show Kd.M (Kd.int .i64) _ _ _ 1 [.int .i64 1] from rfl) (Reps.none _ _))))); intro v1 w1 ho hb hg_ hnew_; clear hg_ hnew_; rw [← HT.out] at ho; have n0_ := Aside0.mk (Kd.R_lower ho (below_size (by repeat (first | (with_reducible first | exact HB.out | apply below_alloc | apply pw_below_drewN | apply below_drew1) | exact HB.out)))); have n1_ := Aside0.mk (below_step (by repeat (first | (with_reducible first | exact HB.out | apply below_alloc | apply pw_below_drewN | apply below_drew1) | exact HB.out)) hb); clear HB; have HO5 := n0_; have HB := n1_; clear n0_ n1_ hb ho; obtain ⟨Ao1, co1, eo1⟩ := Kd.R_slice HO5.out; subst eo1)
    | ((with_reducible refine gate_dst (N := 6) rfl ?_); refine Kd.S_lits (Kd.slice 3 (Kd.int .i64)) (w0 := w) w.heap.size 30 ?hg (N := 6) ?hd (xs := [t]) (inner := [.slice Ao1 t.length co1]) (ok := fun _ => True) (fun j k_ => j = 0 ∧ some k_ = (Value.slice Ao1 t.length co1).ownBlock) ?hr rfl ?hp ?ha (fun _ _ _ => trivial) trivial ?hB ?hs (by simp) ?_; (case hd => rfl); (case hg => rfl); (case hr => first | (go_simp; done) | (go_simp; rfl)); (case hp => intro j x hj; match j, hj with | 0, hj => (obtain rfl : t = x := by simpa using hj); exact ⟨_, rfl, Kd.R_mono (Kd.R_tight rfl HO5.out) (fun k_ hk => ⟨rfl, hk⟩)⟩); (case ha => rintro i j k_ ⟨rfl, _⟩ ⟨rfl, _⟩; rfl); (case hB => exact HB.out); (case hs => exact below_size HB.out); intro v2 w2 ho hb hg hat; have n2_ := Aside0.mk ho; have n3_ := Aside0.mk hb; clear HB HO5; have HO6 := n2_; have HB := n3_; clear n2_ n3_ ho hb hg hat))
  go_loopg [3, 4] k (fun kq v3 v4 w' => ∃ (all : List (List Int)) (i : Int), v4 = .int .i64 i ∧ Aside0 (i < 100000000000000) ∧ Aside0 (impl_markovs.l0 kq a0 all i = some r) ∧ Aside0 (kq ≤ k) ∧ Aside0 (all.length < 5864062014805) ∧ Aside0 (Kd.S (Kd.slice 3 (Kd.int .i64)) 30 w' w.heap.size (fun _ => True) v3 all) ∧ Aside0 (Below w.heap.size w w'))
  case atStart => exact ⟨[t], 0, rfl, ⟨by omega⟩, H', ⟨Nat.le_refl _⟩, ⟨by simp⟩, ⟨HO6.out⟩, ⟨HB.out⟩⟩
  case round =>
    clear H' HO6 HB HT
    obtain ⟨all, i, rfl, HI, HA, HK1, HL, HO6, HB⟩ := hrel
    cases gk with
    | zero => exact absurd HA.out (by simp [impl_markovs.l0])
    | succ k1 =>
      have H := HA.out
      clear HA
      simp only [impl_markovs.l0] at H
      obtain ⟨A3, c3, e3⟩ := Kd.S_slice HO6.out
      subst e3
      by_cases c2 : i < (all.length : Int)
      · rw [if_pos c2] at H
        by_cases c3_ : 0 ≤ i
        · rw [if_pos c3_] at H
          obtain ⟨us, A4, H⟩ := Option.bind_eq_some_iff.mp H
          have HA4 := Aside0.mk A4
          clear A4
          by_cases c5 : all.length + us.length < 5864062014805
          · replace H : impl_markovs.l0 k1 a0 (all ++ us) (wrap64 (i + 1)) = some r := by
              have H2 : (if all.length + us.length < 5864062014805 then impl_markovs.l0 k1 a0 (all ++ us) (wrap64 (i + 1)) else none) = some r := H
              rw [if_pos c5] at H2
              exact H2
            have H' := Aside0.mk H
            have LM := Aside0.mk c5
            have HI2 := Aside0.mk (And.intro c2 c3_)
            clear H c5
            have c2b0 : decide (i < (all.length : Int)) = true := decide_eq_true c2
            have p1 : 0 ≤ i := c3_
            have q1 : i < (all.length : Int) := c2
            obtain ⟨ad1, A1, cc1, e1, hx1, hl1, hi1⟩ := at_L1 (Kd.S_reads' HO6.out).2.2 i p1 q1
            cases e1
            have HC1 := Aside0.mk hl1
            have HR1 := Aside0.mk hi1
            have qi1 : (i.toNat < all.length) = True := eq_true (by omega)
            clear hl1 hi1 c2 c3_
            replace p1 := eq_true p1
            replace q1 := eq_true q1
            obtain ⟨vs, hs1, hs2, hs3⟩ := S_scal HO6.out
            have HS1 := Aside0.mk hs1
            have HS2 := Aside0.mk hs2
            have HS3 := Aside0.mk hs3
            clear hs1 hs2 hs3 HO6
            go_wp2_with (first
              | (go_at_call 48; refine (impl_ups.calls k1 _ _ (rd_L1 all i) a0 us _ (by repeat (first | exact HR1.out | (with_reducible refine Kd.C_alloc ?_ _) | (with_reducible refine Kd.C_drewN ?_ _) | (with_reducible refine Kd.C_drew ?_))) HC1.out HA4.out).mono ?_; rintro e w4 ⟨v4, rfl, ho0, hb⟩; have n0_ := Aside0.mk (Kd.R_below HS1.out hb); have n1_ := Aside0.mk (HS3.out.step (w1 := w4) (ok' := fun k_ => k_ < wr.heap.size ∧ some k_ ≠ (Value.slice (some ad1) all.length c3).ownBlock) (fun k_ _ hk_ => hb.block k_ hk_) (fun k_ hk_ hlt_ => ⟨hlt_, hk_.2⟩)); have n2_ := Aside0.mk (below_step HB.out hb); have n3_ := Aside0.mk (fun k_ (e_ : (Value.slice (some ad1) all.length c3).ownBlock = some k_) => ((Kd.R_bound HS1.out).1 k_ e_).2.2.1); have n4_ := Aside0.mk hb.size; have n5_ := Aside0.mk (below_size HB.out); obtain ⟨ns, hn1, hn2, hn3⟩ := S_scal ho0; obtain ⟨An, cn, en⟩ := Kd.S_slice ho0; subst en; have n6_ := Aside0.mk hn1; have n7_ := Aside0.mk hn2; have n8_ := Aside0.mk (hn3.above (ok' := fun k_ => some k_ ≠ (Value.slice An us.length cn).ownBlock) (Nat.le_refl _) (fun k_ hk_ _ => hk_.2)); clear HS1 HS3 HB hn1 hn2 hn3 ho0 hb; have HS1 := n0_; have HS3 := n1_; have HB := n2_; have HVB := n3_; have HSZ := n4_; have HSW := n5_; have HN1 := n6_; have HN2 := n7_; have HN3 := n8_; clear n0_ n1_ n2_ n3_ n4_ n5_ n6_ n7_ n8_)
              | ((with_reducible refine gate_builtin (b := .append) (xs := #[.tmp 13, .tmp 19]) rfl ?_); at_builtin; refine Kd.R_append_row (fun x : OneV => x.1) ⟨.slice none 0 0, rfl⟩ (h1 := fun x => x.2) (w0 := w) w.heap.size rfl (.tmp 13) (.tmp 19) 25 30 (.slice none 0 0) 24 rfl Try.underlying25 info30 rfl (by decide) (.slice (some ad1) all.length c3) vs ns An us.length cn (fun _ => True) rfl rfl (fun _ _ => trivial) HS1.out (by rw [← HN2.out]; exact (Kd.R_reads' (by have h_ := HN1.out; rw [← HN2.out] at h_; exact h_)).2.2) HB.out (below_size HB.out) (by have := LM.out; have := HS2.out; omega) ?_; intro v7 w7 ho hb hg hat; have n0_ := Aside0.mk (S_cat (W := w4) (w1 := w7) (base := w.heap.size) (B := wr.heap.size) (v := .slice (some ad1) all.length c3) (v1 := v7) (u := .slice An us.length cn) (us := vs) (ns := ns) (L := all) (M := us) HSW.out HSZ.out HS3.out HVB.out HN3.out hg hat ho); have n1_ := Aside0.mk hb; clear HS1 HS3 HB HVB HSZ HSW HN1 HN2 HN3; have HO6 := n0_; have HB := n1_; clear n0_ n1_ ho hb hg hat))
            go_roundg k1
            case measure => have := HK1.out; omega
            case rel => exact ⟨all ++ us, wrap64 (i + 1), (by first | rfl | (simp; done) | (simp [*]; done)), ⟨by have := HI2.out; have := HL.out; unfold wrap64; omega⟩, H', ⟨by have := HK1.out; omega⟩, ⟨by have := LM.out; rw [List.length_append]; exact this⟩, ⟨HO6.out⟩, ⟨HB.out⟩⟩
          · exact absurd H (by simp [c5])
        · rw [if_neg c3_] at H
          exact absurd H (by simp)
      · rw [if_neg c2] at H
        have c2b0 : decide (i < (all.length : Int)) = false := decide_eq_false c2
        clear c2
        by_cases c6 : all.all prM = true
        · rw [if_pos c6] at H
          have HPR : Aside0 (∀ x ∈ all, prM x = true) := ⟨fun x hx => List.all_eq_true.1 c6 x hx⟩
          obtain rfl : sortM all = r := by simpa using H
          clear H c6
          go_wp2_with (first
            | (go_at_call 49; refine (rows_sort cfM cfM_total (fun x => prM x = true) 50 #[] cmpM_enters cmpM_at (fun _ => True) _ all w _ HB.out HPR.out (by have := HL.out; omega) HO6.out).mono ?_; rintro e w3 ⟨rfl, ys, hp, hs, ho, hb, hk⟩; have n1_ := Aside0.mk (Kd.S_mono ho (fun _ _ => trivial)); have n2_ := Aside0.mk hb; have n3_ := Aside0.mk (sortM_is hp hs); clear HO6 HB; have HO6 := n1_; have HB := n2_; have HZ := n3_; clear n1_ n2_ n3_ ho hb hk hp hs))
          go_ret
          exact ⟨_, rfl, by rw [← HZ.out]; exact HO6.out, HB.out⟩
        · rw [if_neg c6] at H
          exact absurd H (by simp)
end Go.Proofs.Ytkdgpbcecnmdhaa.P

-- PFimplMarkovNumbersUpTo
namespace Go.Proofs.Ytkdgpbcecnmdhaa.P
open Go.RowKit Go.Proofs.YtkdgpbcecnmdhaaW.PrintWords Go.Proofs.YtkdgpbcecnmdhaaW.PrintLast
set_option linter.unusedVariables false
set_option linter.unusedSimpArgs false

/-! ### impl_MarkovNumbersUpTo: function 16 -/
def impl_MarkovNumbersUpTo.l0 : Nat → List Int → List (List Int) → Int → Int → Option (List Int × Bool)
 | 0, _, _, _, _ => none
 | k + 1, x4, x12, x13, x14 => if x14 < x13 then (if 0 ≤ x14 then (if x14 < (x12.length : Int) then (if 2 < ((rd_L1 x12 x14).length : Int) then (if x4.length < 17592186044416 then (impl_MarkovNumbersUpTo.l0 k (x4 ++ [rd (rd_L1 x12 x14) 2]) x12 x13 (wrap64 (x14 + 1))) else (none)) else (none)) else (none)) else (none)) else ((slices_Compact_int_int.f x4).bind fun t285 => (some (t285, true)))
def impl_MarkovNumbersUpTo.f (k : Nat) (a0 : Int) : Option (List Int × Bool) := (impl_within.f a0 1 1000000000).bind fun t273 => (if t273 = true then ((impl_markovs.f k a0).bind fun t277 => (impl_MarkovNumbersUpTo.l0 k (([] : List Int)) t277 (t277.length : Int) 0)) else (some (([] : List Int), false)))
theorem impl_MarkovNumbersUpTo.mono_l : ∀ k, (∀ y0 y1 y2 y3, LeO (impl_MarkovNumbersUpTo.l0 k y0 y1 y2 y3) (impl_MarkovNumbersUpTo.l0 (k + 1) y0 y1 y2 y3))
 | 0 => fun _ _ _ _ r h => by simp [impl_MarkovNumbersUpTo.l0] at h
 | k + 1 => by
  have ih0 := impl_MarkovNumbersUpTo.mono_l k
  ·intro y0 y1 y2 y3
   unfold impl_MarkovNumbersUpTo.l0
   repeat' first
   | (with_reducible exact ih0 _ _ _ _)
   | (with_reducible exact impl_markovs.mono _ _)
   | (with_reducible exact LeO.refl _)
   | (with_reducible exact LeO.none _)
   | (with_reducible refine LeO.ite ?_ ?_)
   | (with_reducible refine LeO.bind ?_ (fun _ => ?_))
   | exact ih0 _ _ _ _
   | exact impl_markovs.mono _ _
   | exact LeO.none _
   | refine LeO.ite ?_ ?_
   | refine LeO.bind ?_ (fun _ => ?_)
theorem impl_MarkovNumbersUpTo.mono : ∀ a0 k, LeO (impl_MarkovNumbersUpTo.f k a0) (impl_MarkovNumbersUpTo.f (k + 1) a0) := by
 intro a0 k
 have ih0 := impl_MarkovNumbersUpTo.mono_l k
 unfold impl_MarkovNumbersUpTo.f
 repeat' first
   | (with_reducible exact ih0 _ _ _ _)
   | (with_reducible exact impl_markovs.mono _ _)
   | (with_reducible exact LeO.refl _)
   | (with_reducible exact LeO.none _)
   | (with_reducible refine LeO.ite ?_ ?_)
   | (with_reducible refine LeO.bind ?_ (fun _ => ?_))
   | exact ih0 _ _ _ _
   | exact impl_markovs.mono _ _
   | exact LeO.none _
   | refine LeO.ite ?_ ?_
   | refine LeO.bind ?_ (fun _ => ?_)
set_option maxHeartbeats 8000000 in
set_option maxRecDepth 100000 in
theorem impl_MarkovNumbersUpTo.calls (k : Nat) (a0 : Int) (r1 : List Int) (r2 : Bool) (w : World) (h : impl_MarkovNumbersUpTo.f k a0 = some (r1, r2)) :
  Calls Try.prog 16 #[.int .i64 a0] w fun e w' => ∃ v0_ : Value, e = .returned (.tuple #[v0_, .bool r2]) ∧ Kd.R (Kd.int .i64) 3 w' w.heap.size (fun _ => True) v0_ r1 ∧ Below w.heap.size w w' := by
 have HB := Aside0.mk (Below.refl w.heap.size w)
 have H : ((impl_within.f a0 1 1000000000).bind fun t273 => (if t273 = true then ((impl_markovs.f k a0).bind fun t277 => (impl_MarkovNumbersUpTo.l0 k (([] : List Int)) t277 (t277.length : Int) 0)) else (some (([] : List Int), false)))) = some (r1, r2) := h
 clear h
 replace H := Option.bind_eq_some_iff.mp H
 obtain ⟨t273, A20, H⟩ := H
 replace H : (if t273 = true then ((impl_markovs.f k a0).bind fun t277 => (impl_MarkovNumbersUpTo.l0 k (([] : List Int)) t277 (t277.length : Int) 0)) else (some (([] : List Int), false))) = some (r1, r2) := H
 have A2 := Aside0.mk A20
 clear A20
 by_cases c3 : t273 = true
 ·subst c3
  have H1 : ((impl_markovs.f k a0).bind fun t277 => (impl_MarkovNumbersUpTo.l0 k (([] : List Int)) t277 (t277.length : Int) 0)) = some (r1, r2) := by rw [if_pos rfl] at H; exact H
  clear H
  have H := H1
  clear H1
  obtain ⟨y274, hy274⟩ : ∃ y_ : List Int, y_ = (([] : List Int)) := ⟨_, rfl⟩
  replace H : ((impl_markovs.f k a0).bind fun t277 => (impl_MarkovNumbersUpTo.l0 k y274 t277 (t277.length : Int) 0)) = some (r1, r2) := by first | (rw [hy274]; with_reducible exact H) | (have H2_ := (Option.bind_some _ _).symm.trans H; rw [hy274]; with_reducible exact H2_) | (have H2_ := (Option.bind_some _ _).symm.trans H; with_reducible exact H2_) | with_reducible exact H | (rw [hy274]; exact H) | exact H
  have Ny274 := Aside0.mk hy274
  clear hy274
  replace H := Option.bind_eq_some_iff.mp H
  obtain ⟨t277, A40, H⟩ := H
  replace H : (impl_MarkovNumbersUpTo.l0 k y274 t277 (t277.length : Int) 0) = some (r1, r2) := H
  have A4 := Aside0.mk A40
  clear A40
  have H' := Aside0.mk H
  clear H
  go_enter Try.func16, Try.ntmps16
  go_wp2_with (first | ((with_reducible refine gate_callee (f := 33) rfl ?_); refine goesL_ (some 8) rfl rfl Try.func33 (by kernel_rfl) rfl #[.int .i64 a0, .int .i64 1, .int .i64 1000000000] rfl (by (try simp only [List.map_toArray, List.map_cons, List.map_nil]); first | done | rfl | (simp only [List.length_drop, List.length_take]; rfl)) ?_; (with_reducible refine (impl_within.calls a0 1 1000000000 true _ A2.out).mono ?_); rintro e w' ⟨rfl, ⟨nd, rfl⟩⟩; refine ⟨_, rfl, ?_⟩) | ((with_reducible refine gate_dst (N := 10) rfl ?_); refine Kd.R_lit (Kd.int .i64) _ 3 ?hg (N := 10) ?hd (xs := ([] : List Int)) (inner := []) (ok := fun _ => True) (okp := fun _ => True) ?hr ?hp (fun _ hk => hk) trivial (Below.refl _ _) (Nat.le_refl _) (by simp) ?_; (case hd => rfl); (case hg => rfl); (case hr => first | (go_simp; done) | (go_simp; rfl)); (case hp => exact (Reps.none _ _)); intro v275 w5 ho6 hb hg_ hnew_; clear hg_ hnew_; (first | rw [← Ny274.out] at ho6 | (simp only [Int.reduceToNat] at ho6; rw [← Ny274.out] at ho6)); have n0_ := Aside0.mk (Kd.R_lower ho6 (below_size (by repeat (first | (with_reducible first | exact HB.out | apply below_alloc | apply pw_below_drewN | apply below_drew1) | exact HB.out)))); have n1_ := Aside0.mk (below_step (by repeat (first | (with_reducible first | exact HB.out | apply below_alloc | apply pw_below_drewN | apply below_drew1) | exact HB.out)) hb); clear HB; have HO276 := n0_; have HB := n1_; clear n0_ n1_; clear hb ho6) | ((with_reducible refine gate_callee (f := 34) rfl ?_); refine goesL_ (some 12) rfl rfl Try.func34 (by kernel_rfl) rfl #[.int .i64 a0] rfl (by (try simp only [List.map_toArray, List.map_cons, List.map_nil]); first | done | rfl | (simp only [List.length_drop, List.length_take]; rfl)) ?_; (with_reducible refine (impl_markovs.calls k a0 t277 _ A4.out).mono ?_); rintro e w7 ⟨v278, rfl, ho0, hb⟩; refine ⟨_, rfl, ?_⟩; have n0_ := Aside0.mk (Kd.R_below (by (with_reducible repeat (first | apply Kd.R_alloc | apply Kd.R_drewN | apply Kd.R_drew)); exact HO276.out) hb); have n1_ := Aside0.mk (Kd.S_lower (Kd.S_new' ho0 (Kd.R_lt (by (with_reducible repeat (first | apply Kd.R_alloc | apply Kd.R_drewN | apply Kd.R_drew)); exact HO276.out))) (below_size (by repeat (first | (with_reducible first | exact HB.out | apply below_alloc | apply pw_below_drewN | apply below_drew1) | exact HB.out)))); have n2_ := Aside0.mk (below_step (by repeat (first | (with_reducible first | exact HB.out | apply below_alloc | apply pw_below_drewN | apply below_drew1) | exact HB.out)) hb); clear HO276; clear HB; have HO276 := n0_; have HO279 := n1_; have HB := n2_; clear n0_ n1_ n2_; (try clear hb); (try clear hb2); (try clear hk); (try clear hi); (try clear ho0); obtain ⟨Ao8, co8, eo8⟩ := Kd.S_slice HO279.out; subst eo8))
  go_loopg [4, 14] k (fun kq v4 v14 w' => ∃ (x4_1 : List Int) (x14_1 : Int), v14 = .int .i64 x14_1 ∧ Aside0 (impl_MarkovNumbersUpTo.l0 kq x4_1 t277 (t277.length : Int) x14_1 = some (r1, r2)) ∧ Aside0 (kq ≤ k) ∧ Aside0 (Kd.R (Kd.int .i64) 3 w' w.heap.size (fun _ => True) v4 x4_1) ∧ Aside0 (Kd.S (Kd.slice 3 (Kd.int .i64)) 30 w' w.heap.size (fun k_ => some k_ ≠ (v4 : Value).ownBlock) (.slice Ao8 t277.length co8) t277) ∧ Aside0 (Below w.heap.size w w'))
  case atStart => exact ⟨(y274), (0), (by first | rfl | (simp; done) | (simp [*]; done)), H', ⟨Nat.le_refl _⟩, ⟨by (with_reducible repeat (first | apply Kd.R_alloc | apply Kd.R_drewN | apply Kd.R_drew)); exact HO276.out⟩, ⟨by (with_reducible repeat (first | apply Kd.S_alloc | apply Kd.S_drewN | apply Kd.S_drew)); exact Kd.S_mono HO279.out (fun _ hk => hk.2)⟩, ⟨by repeat (first | (with_reducible first | exact HB.out | apply below_alloc | apply pw_below_drewN | apply below_drew1) | exact HB.out)⟩⟩
  case round =>
   clear H'
   try clear c1
   try clear p2
   try clear c3
   obtain ⟨x4_1, x14_1, rfl, HA, HK1, HO_4, HO_12, HB⟩ := hrel
   cases gk with
   | zero => exact absurd HA.out (by simp [impl_MarkovNumbersUpTo.l0])
   | succ k1 =>
    have H := HA.out
    clear HA
    simp only [impl_MarkovNumbersUpTo.l0] at H
    by_cases c9 : x14_1 < (t277.length : Int)
    ·rw [if_pos c9] at H
     have c9b0 : decide (x14_1 < (t277.length : Int)) = true := decide_eq_true c9
     clear c9
     by_cases c10 : 0 ≤ x14_1
     ·rw [if_pos c10] at H
      have c10b0 : decide (0 ≤ x14_1) = true := decide_eq_true c10
      clear c10
      by_cases c11 : x14_1 < (t277.length : Int)
      ·rw [if_pos c11] at H
       have c11b0 : decide (x14_1 < (t277.length : Int)) = true := decide_eq_true c11
       clear c11
       by_cases c12 : 2 < ((rd_L1 t277 x14_1).length : Int)
       ·rw [if_pos c12] at H
        have c12b0 : decide (2 < ((rd_L1 t277 x14_1).length : Int)) = true := decide_eq_true c12
        have c12b1 : decide (2 < (rd_L1 t277 x14_1).length) = true := decide_eq_true (by omega)
        clear c12
        by_cases c13 : x4_1.length < 17592186044416
        ·rw [if_pos c13] at H
         have LMc13 := Aside0.mk c13
         clear c13
         obtain ⟨y282, hy282⟩ : ∃ y_ : List Int, y_ = (x4_1 ++ [rd (rd_L1 t277 x14_1) 2]) := ⟨_, rfl⟩
         replace H : (impl_MarkovNumbersUpTo.l0 k1 y282 t277 (t277.length : Int) (wrap64 (x14_1 + 1))) = some (r1, r2) := by first | (rw [hy282]; with_reducible exact H) | (have H2_ := (Option.bind_some _ _).symm.trans H; rw [hy282]; with_reducible exact H2_) | (have H2_ := (Option.bind_some _ _).symm.trans H; with_reducible exact H2_) | with_reducible exact H | (rw [hy282]; exact H) | exact H
         have Ny282 := Aside0.mk hy282
         clear hy282
         have H' := Aside0.mk H
         clear H
         have p280 : 0 ≤ (x14_1 : Int) := of_decide_eq_true (by first | (with_reducible assumption) | assumption)
         have q280 : x14_1 < (t277.length : Int) := of_decide_eq_true (by first | (with_reducible assumption) | assumption)
         obtain ⟨ad280, A280_0, c280_0, e280, hx280_0, hl280_0, hi280_0⟩ := at_L1 (Kd.S_reads' HO_12.out).2.2 x14_1 p280 q280
         cases e280
         obtain ⟨ce280, hce280, hMe280, hcc280⟩ := Kd.S_get HO_12.out [] x14_1 p280 (by first | exact q280 | exact of_decide_eq_true (by first | (with_reducible assumption) | assumption) | (have e_ := (Kd.S_reads' HO_12.out).1; omega))
         obtain ⟨ve280_0, rfl, ge280_0⟩ := hMe280
         have hv280_0 := hcc280 0 _ rfl
         rw [Nat.add_zero, show ((Kd.slice 3 (Kd.int .i64))).sz = 1 from rfl, Nat.mul_one] at hv280_0
         replace hv280_0 := Option.some.inj (hv280_0.symm.trans hx280_0)
         rw [hv280_0] at ge280_0
         have HL280_0 := Aside0.mk (show Kd.R (Kd.int .i64) 3 _ _ _ _ (rd_L1 t277 x14_1) from ge280_0)
         clear hv280_0 ge280_0
         clear hcc280 hce280
         have HR280_0 := Aside0.mk hi280_0
         have HC280_0 := Aside0.mk hl280_0
         clear hi280_0 hl280_0
         replace p280 := eq_true p280
         replace q280 := eq_true q280
         have p281 : 0 ≤ (2 : Int) := (by omega)
         have q281 : 2 < ((rd_L1 t277 x14_1).length : Int) := of_decide_eq_true (by first | (with_reducible assumption) | assumption)
         obtain ⟨ad281, e281, hx281_0⟩ := Kd.at_int (by repeat (first | (with_reducible exact HR280_0.out) | (with_reducible refine Kd.C_alloc ?_ _) | (with_reducible refine Kd.C_drewN ?_ _) | (with_reducible refine Kd.C_drew ?_) | exact HR280_0.out)) 2 p281 q281
         cases e281
         (try simp only [show (2 : Int).toNat = 2 from rfl, Nat.reduceMul, Nat.reduceEqDiff, Go.Addr.add, ↓reduceIte] at hx281_0)
         have qi281 : (2 < (rd_L1 t277 x14_1).length) = True := eq_true (by omega)
         (try rw [show ((2 : Int)).toNat = 2 from rfl] at hx281_0)
         replace p281 := eq_true p281
         replace q281 := eq_true q281
         go_wp2_with (first | ((with_reducible refine gate_builtin (b := .append) (xs := #[.tmp 18, .tmp 22]) rfl ?_); at_builtin; refine Kd.R_append (Kd.int .i64) (w0 := w) w.heap.size rfl (.tmp 18) (.tmp 22) 30 3 (.int .i64 0) 8 rfl Try.underlying30 info3 rfl (by decide) (by omega) u4 x4_1 (rd (rd_L1 t277 x14_1) 2) [.int .i64 (rd (rd_L1 t277 x14_1) 2)] (fun _ => True) (fun _ => False) rfl rfl ?aP (fun _ hk => hk.elim) ?aF ?aO ?aB ?aS ?aL ?_; (case aP => exact rfl); (case aB => exact (by repeat (first | (with_reducible first | exact HB.out | apply below_alloc | apply pw_below_drewN | apply below_drew1) | exact HB.out))); (case aF => exact (fun _ _ => trivial)); (case aO => exact (by (with_reducible repeat (first | apply Kd.R_alloc | apply Kd.R_drewN | apply Kd.R_drew)); exact HO_4.out)); (case aS => exact (below_size (by repeat (first | (with_reducible first | exact HB.out | apply below_alloc | apply pw_below_drewN | apply below_drew1) | exact HB.out)))); (case aL => have := LMc13.out; omega); intro v283 w14 ho hb hg hat; rw [← Ny282.out] at ho; have n0_ := Aside0.mk (Kd.S_after (ok := (fun _ => True)) (by (with_reducible repeat (first | apply Kd.S_alloc | apply Kd.S_drewN | apply Kd.S_drew)); exact Kd.S_mono HO_12.out (fun _ hk => ⟨trivial, hk⟩)) hg hat); have n1_ := Aside0.mk (Kd.R_after (ok := (fun k_ => some k_ ≠ (.slice (some ad280) t277.length co8 : Value).ownBlock)) (by (with_reducible repeat (first | apply Kd.R_alloc | apply Kd.R_drewN | apply Kd.R_drew)); exact Kd.R_mono HL280_0.out (fun _ hk => ⟨hk.2, hk.1⟩)) hg hat); have n2_ := Aside0.mk (hb); have n3_ := Aside0.mk (ho); clear HO_12; clear HL280_0; clear HB; clear HO_4; have HO_12 := n0_; have HL280_0 := n1_; have HB := n2_; have HO284 := n3_; clear n0_ n1_ n2_ n3_; clear ho hb hg hat))
         go_roundg k1
         case measure => have := HK1.out; omega
         case rel => exact ⟨(y282), (wrap64 (x14_1 + 1)), (by first | rfl | (simp; done) | (simp [*]; done)), H', ⟨by have := HK1.out; omega⟩, ⟨by (with_reducible repeat (first | apply Kd.R_alloc | apply Kd.R_drewN | apply Kd.R_drew)); exact HO284.out⟩, ⟨by (with_reducible repeat (first | apply Kd.S_alloc | apply Kd.S_drewN | apply Kd.S_drew)); exact Kd.S_mono HO_12.out (fun _ hk => hk.2)⟩, ⟨by repeat (first | (with_reducible first | exact HB.out | apply below_alloc | apply pw_below_drewN | apply below_drew1) | exact HB.out)⟩⟩
        ·rw [if_neg c13] at H
         exact absurd H (by simp)
       ·rw [if_neg c12] at H
        exact absurd H (by simp)
      ·rw [if_neg c11] at H
       exact absurd H (by simp)
     ·rw [if_neg c10] at H
      exact absurd H (by simp)
    ·rw [if_neg c9] at H
     have c9b0 : decide (x14_1 < (t277.length : Int)) = false := decide_eq_false c9
     clear c9
     replace H := Option.bind_eq_some_iff.mp H
     obtain ⟨t285, A150, H⟩ := H
     replace H : (some (t285, true)) = some (r1, r2) := H
     have A15 := Aside0.mk A150
     clear A150
     simp only [Option.some.injEq, Prod.mk.injEq] at H
     obtain ⟨rfl, rfl⟩ := H
     obtain ⟨Ao16, co16, eo16⟩ := Kd.R_slice HO_4.out
     subst eo16
     go_wp2_with (first | ((with_reducible refine gate_callee (f := 36) rfl ?_); refine goesL_ (some 26) rfl rfl Try.func36 (by kernel_rfl) rfl #[.slice Ao16 x4_1.length co16] rfl (by (try simp only [List.map_toArray, List.map_cons, List.map_nil]); first | done | rfl | (simp only [List.length_drop, List.length_take]; rfl)) ?_; (with_reducible refine (slices_Compact_int_int.calls (fun k_ => some k_ = (.slice Ao16 x4_1.length co16 : Value).ownBlock) (.slice Ao16 x4_1.length co16) x4_1 t285 w _ ?side1 ?side2 A15.out).mono ?_); (case side1 => repeat (first | (with_reducible first | exact HB.out | apply below_alloc | apply pw_below_drewN | apply below_drew1) | exact HB.out)); (case side2 => exact Kd.R_tight rfl HO_4.out); rintro e w17 ⟨v286, rfl, ho0, hb, hkp⟩; refine ⟨_, rfl, ?_⟩; have n0_ := Aside0.mk (Kd.S_mono (ok' := fun k_ => some k_ ≠ (v286 : Value).ownBlock) (Kd.S_keptB (HO_12.out) hkp (fun k_ hk_ hs_ => (hk_) hs_)) (fun k_ hk_ => fun e_ => Or.elim (ho0.1 k_ e_.symm) (fun hs_ => hk_.2.1 hs_) (fun hn_ => Nat.not_le.2 hk_.2.2 hn_))); have n1_ := Aside0.mk (Kd.R_mono (ok' := fun k_ => True) ho0 (fun k_ hk_ => trivial)); have n2_ := Aside0.mk (hb); clear HO_12; clear HB; clear HO_4; have HO_12 := n0_; have HO287 := n1_; have HB := n2_; clear n0_ n1_ n2_; (try clear hb); (try clear hkp); (try clear ho0)))
     go_ret2
     exact ⟨_, by first | rfl | (simp [errW_none, errW_some] <;> rfl) | (simp [*, errW_none, errW_some] <;> rfl), by (with_reducible repeat (first | apply Kd.R_alloc | apply Kd.R_drewN | apply Kd.R_drew)); exact HO287.out, by repeat (first | (with_reducible first | exact HB.out | apply below_alloc | apply pw_below_drewN | apply below_drew1) | exact HB.out)⟩
 ·replace c3 := Bool.eq_false_iff.mpr c3
  subst c3
  have H1 : (some (([] : List Int), false)) = some (r1, r2) := by rw [if_neg (show ¬ (false = true) by decide)] at H; exact H
  clear H
  have H := H1
  clear H1
  simp only [Option.some.injEq, Prod.mk.injEq] at H
  obtain ⟨rfl, rfl⟩ := H
  go_enter Try.func16, Try.ntmps16
  go_wp2_with (first | ((with_reducible refine gate_callee (f := 33) rfl ?_); refine goesL_ (some 8) rfl rfl Try.func33 (by kernel_rfl) rfl #[.int .i64 a0, .int .i64 1, .int .i64 1000000000] rfl (by (try simp only [List.map_toArray, List.map_cons, List.map_nil]); first | done | rfl | (simp only [List.length_drop, List.length_take]; rfl)) ?_; (with_reducible refine (impl_within.calls a0 1 1000000000 false _ A2.out).mono ?_); rintro e w' ⟨rfl, ⟨nd, rfl⟩⟩; refine ⟨_, rfl, ?_⟩))
  go_ret2
  exact ⟨_, by first | rfl | (simp [errW_none, errW_some] <;> rfl) | (simp [*, errW_none, errW_some] <;> rfl), by first | exact Kd.R_nil _ _ _ _ _ | exact Kd.N_nil _ _ _ _ _ | exact Kd.V_nil _ _ _ _ _ | exact Kd.Q_nil _ _ _ _ _ | exact Kd.S_nil _ _ _ _ _, by repeat (first | (with_reducible first | exact HB.out | apply below_alloc | apply pw_below_drewN | apply below_drew1) | exact HB.out)⟩

end Go.Proofs.Ytkdgpbcecnmdhaa.P
