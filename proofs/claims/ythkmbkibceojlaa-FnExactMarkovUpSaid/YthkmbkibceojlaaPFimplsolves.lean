-- written by mp.py (a program of this session over the kit's printer) out of the translation; Lean checks it
import Derived.Test.YthkmbkibceojlaaP0
namespace Go.Proofs.Ythkmbkibceojlaa.P
open Go.RowKit Go.Proofs.YthkmbkibceojlaaW.PrintWords Go.Proofs.YthkmbkibceojlaaW.PrintLast
set_option linter.unusedVariables false
set_option linter.unusedSimpArgs false

/-! ### impl_solves: function 84 -/
def impl_solves.f (l0 : List Int) : Option (Bool) := if 0 < (l0.length : Int) then (if 1 < (l0.length : Int) then (if 2 < (l0.length : Int) then (if (wrap64 ((rd l0 0) * (rd l0 1))) ≤ (wrap64 (Int.tdiv (wrap64 ((wrap64 ((wrap64 ((rd l0 0) * (rd l0 0))) + (wrap64 ((rd l0 1) * (rd l0 1))))) + (wrap64 ((rd l0 2) * (rd l0 2))))) 3)) then (if (wrap64 (3 * (wrap64 ((rd l0 0) * (rd l0 1))))) = 0 then (none) else (if (Int.tmod (wrap64 ((wrap64 ((wrap64 ((rd l0 0) * (rd l0 0))) + (wrap64 ((rd l0 1) * (rd l0 1))))) + (wrap64 ((rd l0 2) * (rd l0 2))))) (wrap64 (3 * (wrap64 ((rd l0 0) * (rd l0 1)))))) = 0 then (some ((wrap64 (Int.tdiv (wrap64 ((wrap64 ((wrap64 ((rd l0 0) * (rd l0 0))) + (wrap64 ((rd l0 1) * (rd l0 1))))) + (wrap64 ((rd l0 2) * (rd l0 2))))) (wrap64 (3 * (wrap64 ((rd l0 0) * (rd l0 1))))))) == (rd l0 2))) else (some false))) else (some false)) else (none)) else (none)) else (none)
set_option maxHeartbeats 8000000 in
set_option maxRecDepth 100000 in
theorem impl_solves.calls (A0 : Option Addr) (c0 : Nat) (l0 : List Int) (r : Bool) (w : World) (hr0 : Kd.C (Kd.int .i64) w A0 l0.length l0) (hc0 : l0.length ≤ c0) (h : impl_solves.f l0 = some r) :
  Calls Try.prog 84 #[.slice A0 l0.length c0] w fun e w' => e = .returned (.bool r) ∧ Drawn0 w w' := by
 have HR0 := Aside0.mk hr0
 have HC0 := Aside0.mk hc0
 clear hr0 hc0
 have H : (if 0 < (l0.length : Int) then (if 1 < (l0.length : Int) then (if 2 < (l0.length : Int) then (if (wrap64 ((rd l0 0) * (rd l0 1))) ≤ (wrap64 (Int.tdiv (wrap64 ((wrap64 ((wrap64 ((rd l0 0) * (rd l0 0))) + (wrap64 ((rd l0 1) * (rd l0 1))))) + (wrap64 ((rd l0 2) * (rd l0 2))))) 3)) then (if (wrap64 (3 * (wrap64 ((rd l0 0) * (rd l0 1))))) = 0 then (none) else (if (Int.tmod (wrap64 ((wrap64 ((wrap64 ((rd l0 0) * (rd l0 0))) + (wrap64 ((rd l0 1) * (rd l0 1))))) + (wrap64 ((rd l0 2) * (rd l0 2))))) (wrap64 (3 * (wrap64 ((rd l0 0) * (rd l0 1)))))) = 0 then (some ((wrap64 (Int.tdiv (wrap64 ((wrap64 ((wrap64 ((rd l0 0) * (rd l0 0))) + (wrap64 ((rd l0 1) * (rd l0 1))))) + (wrap64 ((rd l0 2) * (rd l0 2))))) (wrap64 (3 * (wrap64 ((rd l0 0) * (rd l0 1))))))) == (rd l0 2))) else (some false))) else (some false)) else (none)) else (none)) else (none)) = some r := h
 clear h
 by_cases c2 : 0 < (l0.length : Int)
 ·rw [if_pos c2] at H
  have c2b0 : decide (0 < (l0.length : Int)) = true := decide_eq_true c2
  have c2b1 : decide (0 < l0.length) = true := decide_eq_true (by omega)
  clear c2
  by_cases c3 : 1 < (l0.length : Int)
  ·rw [if_pos c3] at H
   have c3b0 : decide (1 < (l0.length : Int)) = true := decide_eq_true c3
   have c3b1 : decide (1 < l0.length) = true := decide_eq_true (by omega)
   clear c3
   by_cases c4 : 2 < (l0.length : Int)
   ·rw [if_pos c4] at H
    have c4b0 : decide (2 < (l0.length : Int)) = true := decide_eq_true c4
    have c4b1 : decide (2 < l0.length) = true := decide_eq_true (by omega)
    clear c4
    by_cases c5 : (wrap64 ((rd l0 0) * (rd l0 1))) ≤ (wrap64 (Int.tdiv (wrap64 ((wrap64 ((wrap64 ((rd l0 0) * (rd l0 0))) + (wrap64 ((rd l0 1) * (rd l0 1))))) + (wrap64 ((rd l0 2) * (rd l0 2))))) 3))
    ·rw [if_pos c5] at H
     have c5b0 : decide ((wrap64 ((rd l0 0) * (rd l0 1))) ≤ (wrap64 (Int.tdiv (wrap64 ((wrap64 ((wrap64 ((rd l0 0) * (rd l0 0))) + (wrap64 ((rd l0 1) * (rd l0 1))))) + (wrap64 ((rd l0 2) * (rd l0 2))))) 3))) = true := decide_eq_true c5
     clear c5
     by_cases c6 : (wrap64 (3 * (wrap64 ((rd l0 0) * (rd l0 1))))) = 0
     ·rw [if_pos c6] at H
      exact absurd H (by simp)
     ·rw [if_neg c6] at H
      have c6b0 : ((wrap64 (3 * (wrap64 ((rd l0 0) * (rd l0 1))))) == 0) = false := beq_eq_false_iff_ne.mpr c6
      have c6b1 : ((wrap64 (3 * (wrap64 ((rd l0 0) * (rd l0 1))))) != 0) = true := bne_iff_ne.mpr c6
      by_cases c7 : (Int.tmod (wrap64 ((wrap64 ((wrap64 ((rd l0 0) * (rd l0 0))) + (wrap64 ((rd l0 1) * (rd l0 1))))) + (wrap64 ((rd l0 2) * (rd l0 2))))) (wrap64 (3 * (wrap64 ((rd l0 0) * (rd l0 1)))))) = 0
      ·rw [if_pos c7] at H
       have c7b0 : ((Int.tmod (wrap64 ((wrap64 ((wrap64 ((rd l0 0) * (rd l0 0))) + (wrap64 ((rd l0 1) * (rd l0 1))))) + (wrap64 ((rd l0 2) * (rd l0 2))))) (wrap64 (3 * (wrap64 ((rd l0 0) * (rd l0 1)))))) == 0) = true := beq_iff_eq.mpr c7
       have c7b1 : ((Int.tmod (wrap64 ((wrap64 ((wrap64 ((rd l0 0) * (rd l0 0))) + (wrap64 ((rd l0 1) * (rd l0 1))))) + (wrap64 ((rd l0 2) * (rd l0 2))))) (wrap64 (3 * (wrap64 ((rd l0 0) * (rd l0 1)))))) != 0) = false := bne_eq_false_iff_eq.mpr c7
       clear c7
       obtain rfl := Option.some.inj H
       have p117 : 0 ≤ (0 : Int) := (by omega)
       have q117 : 0 < (l0.length : Int) := of_decide_eq_true (by first | (with_reducible assumption) | assumption)
       obtain ⟨ad117, e117, hx117_0⟩ := Kd.at_int HR0.out 0 p117 q117
       cases e117
       have qi117 : (0 < l0.length) = True := eq_true (by omega)
       (try rw [show ((0 : Int)).toNat = 0 from rfl] at hx117_0)
       (try rw [Addr.add_zero'] at hx117_0)
       replace p117 := eq_true p117
       replace q117 := eq_true q117
       have p118 : 0 ≤ (0 : Int) := (by omega)
       have q118 : 0 < (l0.length : Int) := of_decide_eq_true (by first | (with_reducible assumption) | assumption)
       obtain ⟨ad118, e118, hx118_0⟩ := Kd.at_int HR0.out 0 p118 q118
       obtain rfl : ad117 = ad118 := (by injection e118)
       have qi118 : (0 < l0.length) = True := eq_true (by omega)
       (try rw [show ((0 : Int)).toNat = 0 from rfl] at hx118_0)
       (try rw [Addr.add_zero'] at hx118_0)
       replace p118 := eq_true p118
       replace q118 := eq_true q118
       have p119 : 0 ≤ (1 : Int) := (by omega)
       have q119 : 1 < (l0.length : Int) := of_decide_eq_true (by first | (with_reducible assumption) | assumption)
       obtain ⟨ad119, e119, hx119_0⟩ := Kd.at_int HR0.out 1 p119 q119
       obtain rfl : ad117 = ad119 := (by injection e119)
       (try simp only [show (1 : Int).toNat = 1 from rfl, Nat.reduceMul, Nat.reduceEqDiff, Go.Addr.add, ↓reduceIte] at hx119_0)
       have qi119 : (1 < l0.length) = True := eq_true (by omega)
       (try rw [show ((1 : Int)).toNat = 1 from rfl] at hx119_0)
       replace p119 := eq_true p119
       replace q119 := eq_true q119
       have p120 : 0 ≤ (1 : Int) := (by omega)
       have q120 : 1 < (l0.length : Int) := of_decide_eq_true (by first | (with_reducible assumption) | assumption)
       obtain ⟨ad120, e120, hx120_0⟩ := Kd.at_int HR0.out 1 p120 q120
       obtain rfl : ad117 = ad120 := (by injection e120)
       (try simp only [show (1 : Int).toNat = 1 from rfl, Nat.reduceMul, Nat.reduceEqDiff, Go.Addr.add, ↓reduceIte] at hx120_0)
       have qi120 : (1 < l0.length) = True := eq_true (by omega)
       (try rw [show ((1 : Int)).toNat = 1 from rfl] at hx120_0)
       replace p120 := eq_true p120
       replace q120 := eq_true q120
       have p121 : 0 ≤ (2 : Int) := (by omega)
       have q121 : 2 < (l0.length : Int) := of_decide_eq_true (by first | (with_reducible assumption) | assumption)
       obtain ⟨ad121, e121, hx121_0⟩ := Kd.at_int HR0.out 2 p121 q121
       obtain rfl : ad117 = ad121 := (by injection e121)
       (try simp only [show (2 : Int).toNat = 2 from rfl, Nat.reduceMul, Nat.reduceEqDiff, Go.Addr.add, ↓reduceIte] at hx121_0)
       have qi121 : (2 < l0.length) = True := eq_true (by omega)
       (try rw [show ((2 : Int)).toNat = 2 from rfl] at hx121_0)
       replace p121 := eq_true p121
       replace q121 := eq_true q121
       have p122 : 0 ≤ (2 : Int) := (by omega)
       have q122 : 2 < (l0.length : Int) := of_decide_eq_true (by first | (with_reducible assumption) | assumption)
       obtain ⟨ad122, e122, hx122_0⟩ := Kd.at_int HR0.out 2 p122 q122
       obtain rfl : ad117 = ad122 := (by injection e122)
       (try simp only [show (2 : Int).toNat = 2 from rfl, Nat.reduceMul, Nat.reduceEqDiff, Go.Addr.add, ↓reduceIte] at hx122_0)
       have qi122 : (2 < l0.length) = True := eq_true (by omega)
       (try rw [show ((2 : Int)).toNat = 2 from rfl] at hx122_0)
       replace p122 := eq_true p122
       replace q122 := eq_true q122
       have p123 : 0 ≤ (0 : Int) := (by omega)
       have q123 : 0 < (l0.length : Int) := of_decide_eq_true (by first | (with_reducible assumption) | assumption)
       obtain ⟨ad123, e123, hx123_0⟩ := Kd.at_int HR0.out 0 p123 q123
       obtain rfl : ad117 = ad123 := (by injection e123)
       have qi123 : (0 < l0.length) = True := eq_true (by omega)
       (try rw [show ((0 : Int)).toNat = 0 from rfl] at hx123_0)
       (try rw [Addr.add_zero'] at hx123_0)
       replace p123 := eq_true p123
       replace q123 := eq_true q123
       have p124 : 0 ≤ (1 : Int) := (by omega)
       have q124 : 1 < (l0.length : Int) := of_decide_eq_true (by first | (with_reducible assumption) | assumption)
       obtain ⟨ad124, e124, hx124_0⟩ := Kd.at_int HR0.out 1 p124 q124
       obtain rfl : ad117 = ad124 := (by injection e124)
       (try simp only [show (1 : Int).toNat = 1 from rfl, Nat.reduceMul, Nat.reduceEqDiff, Go.Addr.add, ↓reduceIte] at hx124_0)
       have qi124 : (1 < l0.length) = True := eq_true (by omega)
       (try rw [show ((1 : Int)).toNat = 1 from rfl] at hx124_0)
       replace p124 := eq_true p124
       replace q124 := eq_true q124
       have p125 : 0 ≤ (2 : Int) := (by omega)
       have q125 : 2 < (l0.length : Int) := of_decide_eq_true (by first | (with_reducible assumption) | assumption)
       obtain ⟨ad125, e125, hx125_0⟩ := Kd.at_int HR0.out 2 p125 q125
       obtain rfl : ad117 = ad125 := (by injection e125)
       (try simp only [show (2 : Int).toNat = 2 from rfl, Nat.reduceMul, Nat.reduceEqDiff, Go.Addr.add, ↓reduceIte] at hx125_0)
       have qi125 : (2 < l0.length) = True := eq_true (by omega)
       (try rw [show ((2 : Int)).toNat = 2 from rfl] at hx125_0)
       replace p125 := eq_true p125
       replace q125 := eq_true q125
       go_enter Try.func84, Try.ntmps84
       go_wp2
       repeat (go_quiet (fail); try go_wp2)
       go_ret
       exact ⟨by first | rfl | (simp; done) | (simp [*]; done), by repeat (first | exact Drawn0.refl _ | apply Drawn0.step)⟩
      ·rw [if_neg c7] at H
       have c7b0 : ((Int.tmod (wrap64 ((wrap64 ((wrap64 ((rd l0 0) * (rd l0 0))) + (wrap64 ((rd l0 1) * (rd l0 1))))) + (wrap64 ((rd l0 2) * (rd l0 2))))) (wrap64 (3 * (wrap64 ((rd l0 0) * (rd l0 1)))))) == 0) = false := beq_eq_false_iff_ne.mpr c7
       have c7b1 : ((Int.tmod (wrap64 ((wrap64 ((wrap64 ((rd l0 0) * (rd l0 0))) + (wrap64 ((rd l0 1) * (rd l0 1))))) + (wrap64 ((rd l0 2) * (rd l0 2))))) (wrap64 (3 * (wrap64 ((rd l0 0) * (rd l0 1)))))) != 0) = true := bne_iff_ne.mpr c7
       obtain rfl := Option.some.inj H
       have p117 : 0 ≤ (0 : Int) := (by omega)
       have q117 : 0 < (l0.length : Int) := of_decide_eq_true (by first | (with_reducible assumption) | assumption)
       obtain ⟨ad117, e117, hx117_0⟩ := Kd.at_int HR0.out 0 p117 q117
       cases e117
       have qi117 : (0 < l0.length) = True := eq_true (by omega)
       (try rw [show ((0 : Int)).toNat = 0 from rfl] at hx117_0)
       (try rw [Addr.add_zero'] at hx117_0)
       replace p117 := eq_true p117
       replace q117 := eq_true q117
       have p118 : 0 ≤ (0 : Int) := (by omega)
       have q118 : 0 < (l0.length : Int) := of_decide_eq_true (by first | (with_reducible assumption) | assumption)
       obtain ⟨ad118, e118, hx118_0⟩ := Kd.at_int HR0.out 0 p118 q118
       obtain rfl : ad117 = ad118 := (by injection e118)
       have qi118 : (0 < l0.length) = True := eq_true (by omega)
       (try rw [show ((0 : Int)).toNat = 0 from rfl] at hx118_0)
       (try rw [Addr.add_zero'] at hx118_0)
       replace p118 := eq_true p118
       replace q118 := eq_true q118
       have p119 : 0 ≤ (1 : Int) := (by omega)
       have q119 : 1 < (l0.length : Int) := of_decide_eq_true (by first | (with_reducible assumption) | assumption)
       obtain ⟨ad119, e119, hx119_0⟩ := Kd.at_int HR0.out 1 p119 q119
       obtain rfl : ad117 = ad119 := (by injection e119)
       (try simp only [show (1 : Int).toNat = 1 from rfl, Nat.reduceMul, Nat.reduceEqDiff, Go.Addr.add, ↓reduceIte] at hx119_0)
       have qi119 : (1 < l0.length) = True := eq_true (by omega)
       (try rw [show ((1 : Int)).toNat = 1 from rfl] at hx119_0)
       replace p119 := eq_true p119
       replace q119 := eq_true q119
       have p120 : 0 ≤ (1 : Int) := (by omega)
       have q120 : 1 < (l0.length : Int) := of_decide_eq_true (by first | (with_reducible assumption) | assumption)
       obtain ⟨ad120, e120, hx120_0⟩ := Kd.at_int HR0.out 1 p120 q120
       obtain rfl : ad117 = ad120 := (by injection e120)
       (try simp only [show (1 : Int).toNat = 1 from rfl, Nat.reduceMul, Nat.reduceEqDiff, Go.Addr.add, ↓reduceIte] at hx120_0)
       have qi120 : (1 < l0.length) = True := eq_true (by omega)
       (try rw [show ((1 : Int)).toNat = 1 from rfl] at hx120_0)
       replace p120 := eq_true p120
       replace q120 := eq_true q120
       have p121 : 0 ≤ (2 : Int) := (by omega)
       have q121 : 2 < (l0.length : Int) := of_decide_eq_true (by first | (with_reducible assumption) | assumption)
       obtain ⟨ad121, e121, hx121_0⟩ := Kd.at_int HR0.out 2 p121 q121
       obtain rfl : ad117 = ad121 := (by injection e121)
       (try simp only [show (2 : Int).toNat = 2 from rfl, Nat.reduceMul, Nat.reduceEqDiff, Go.Addr.add, ↓reduceIte] at hx121_0)
       have qi121 : (2 < l0.length) = True := eq_true (by omega)
       (try rw [show ((2 : Int)).toNat = 2 from rfl] at hx121_0)
       replace p121 := eq_true p121
       replace q121 := eq_true q121
       have p122 : 0 ≤ (2 : Int) := (by omega)
       have q122 : 2 < (l0.length : Int) := of_decide_eq_true (by first | (with_reducible assumption) | assumption)
       obtain ⟨ad122, e122, hx122_0⟩ := Kd.at_int HR0.out 2 p122 q122
       obtain rfl : ad117 = ad122 := (by injection e122)
       (try simp only [show (2 : Int).toNat = 2 from rfl, Nat.reduceMul, Nat.reduceEqDiff, Go.Addr.add, ↓reduceIte] at hx122_0)
       have qi122 : (2 < l0.length) = True := eq_true (by omega)
       (try rw [show ((2 : Int)).toNat = 2 from rfl] at hx122_0)
       replace p122 := eq_true p122
       replace q122 := eq_true q122
       have p123 : 0 ≤ (0 : Int) := (by omega)
       have q123 : 0 < (l0.length : Int) := of_decide_eq_true (by first | (with_reducible assumption) | assumption)
       obtain ⟨ad123, e123, hx123_0⟩ := Kd.at_int HR0.out 0 p123 q123
       obtain rfl : ad117 = ad123 := (by injection e123)
       have qi123 : (0 < l0.length) = True := eq_true (by omega)
       (try rw [show ((0 : Int)).toNat = 0 from rfl] at hx123_0)
       (try rw [Addr.add_zero'] at hx123_0)
       replace p123 := eq_true p123
       replace q123 := eq_true q123
       have p124 : 0 ≤ (1 : Int) := (by omega)
       have q124 : 1 < (l0.length : Int) := of_decide_eq_true (by first | (with_reducible assumption) | assumption)
       obtain ⟨ad124, e124, hx124_0⟩ := Kd.at_int HR0.out 1 p124 q124
       obtain rfl : ad117 = ad124 := (by injection e124)
       (try simp only [show (1 : Int).toNat = 1 from rfl, Nat.reduceMul, Nat.reduceEqDiff, Go.Addr.add, ↓reduceIte] at hx124_0)
       have qi124 : (1 < l0.length) = True := eq_true (by omega)
       (try rw [show ((1 : Int)).toNat = 1 from rfl] at hx124_0)
       replace p124 := eq_true p124
       replace q124 := eq_true q124
       go_enter Try.func84, Try.ntmps84
       go_wp2
       repeat (go_quiet (fail); try go_wp2)
       go_ret
       exact ⟨by first | rfl | (simp; done) | (simp [*]; done), by repeat (first | exact Drawn0.refl _ | apply Drawn0.step)⟩
    ·rw [if_neg c5] at H
     have c5b0 : decide ((wrap64 ((rd l0 0) * (rd l0 1))) ≤ (wrap64 (Int.tdiv (wrap64 ((wrap64 ((wrap64 ((rd l0 0) * (rd l0 0))) + (wrap64 ((rd l0 1) * (rd l0 1))))) + (wrap64 ((rd l0 2) * (rd l0 2))))) 3))) = false := decide_eq_false c5
     clear c5
     obtain rfl := Option.some.inj H
     have p117 : 0 ≤ (0 : Int) := (by omega)
     have q117 : 0 < (l0.length : Int) := of_decide_eq_true (by first | (with_reducible assumption) | assumption)
     obtain ⟨ad117, e117, hx117_0⟩ := Kd.at_int HR0.out 0 p117 q117
     cases e117
     have qi117 : (0 < l0.length) = True := eq_true (by omega)
     (try rw [show ((0 : Int)).toNat = 0 from rfl] at hx117_0)
     (try rw [Addr.add_zero'] at hx117_0)
     replace p117 := eq_true p117
     replace q117 := eq_true q117
     have p118 : 0 ≤ (0 : Int) := (by omega)
     have q118 : 0 < (l0.length : Int) := of_decide_eq_true (by first | (with_reducible assumption) | assumption)
     obtain ⟨ad118, e118, hx118_0⟩ := Kd.at_int HR0.out 0 p118 q118
     obtain rfl : ad117 = ad118 := (by injection e118)
     have qi118 : (0 < l0.length) = True := eq_true (by omega)
     (try rw [show ((0 : Int)).toNat = 0 from rfl] at hx118_0)
     (try rw [Addr.add_zero'] at hx118_0)
     replace p118 := eq_true p118
     replace q118 := eq_true q118
     have p119 : 0 ≤ (1 : Int) := (by omega)
     have q119 : 1 < (l0.length : Int) := of_decide_eq_true (by first | (with_reducible assumption) | assumption)
     obtain ⟨ad119, e119, hx119_0⟩ := Kd.at_int HR0.out 1 p119 q119
     obtain rfl : ad117 = ad119 := (by injection e119)
     (try simp only [show (1 : Int).toNat = 1 from rfl, Nat.reduceMul, Nat.reduceEqDiff, Go.Addr.add, ↓reduceIte] at hx119_0)
     have qi119 : (1 < l0.length) = True := eq_true (by omega)
     (try rw [show ((1 : Int)).toNat = 1 from rfl] at hx119_0)
     replace p119 := eq_true p119
     replace q119 := eq_true q119
     have p120 : 0 ≤ (1 : Int) := (by omega)
     have q120 : 1 < (l0.length : Int) := of_decide_eq_true (by first | (with_reducible assumption) | assumption)
     obtain ⟨ad120, e120, hx120_0⟩ := Kd.at_int HR0.out 1 p120 q120
     obtain rfl : ad117 = ad120 := (by injection e120)
     (try simp only [show (1 : Int).toNat = 1 from rfl, Nat.reduceMul, Nat.reduceEqDiff, Go.Addr.add, ↓reduceIte] at hx120_0)
     have qi120 : (1 < l0.length) = True := eq_true (by omega)
     (try rw [show ((1 : Int)).toNat = 1 from rfl] at hx120_0)
     replace p120 := eq_true p120
     replace q120 := eq_true q120
     have p121 : 0 ≤ (2 : Int) := (by omega)
     have q121 : 2 < (l0.length : Int) := of_decide_eq_true (by first | (with_reducible assumption) | assumption)
     obtain ⟨ad121, e121, hx121_0⟩ := Kd.at_int HR0.out 2 p121 q121
     obtain rfl : ad117 = ad121 := (by injection e121)
     (try simp only [show (2 : Int).toNat = 2 from rfl, Nat.reduceMul, Nat.reduceEqDiff, Go.Addr.add, ↓reduceIte] at hx121_0)
     have qi121 : (2 < l0.length) = True := eq_true (by omega)
     (try rw [show ((2 : Int)).toNat = 2 from rfl] at hx121_0)
     replace p121 := eq_true p121
     replace q121 := eq_true q121
     have p122 : 0 ≤ (2 : Int) := (by omega)
     have q122 : 2 < (l0.length : Int) := of_decide_eq_true (by first | (with_reducible assumption) | assumption)
     obtain ⟨ad122, e122, hx122_0⟩ := Kd.at_int HR0.out 2 p122 q122
     obtain rfl : ad117 = ad122 := (by injection e122)
     (try simp only [show (2 : Int).toNat = 2 from rfl, Nat.reduceMul, Nat.reduceEqDiff, Go.Addr.add, ↓reduceIte] at hx122_0)
     have qi122 : (2 < l0.length) = True := eq_true (by omega)
     (try rw [show ((2 : Int)).toNat = 2 from rfl] at hx122_0)
     replace p122 := eq_true p122
     replace q122 := eq_true q122
     have p123 : 0 ≤ (0 : Int) := (by omega)
     have q123 : 0 < (l0.length : Int) := of_decide_eq_true (by first | (with_reducible assumption) | assumption)
     obtain ⟨ad123, e123, hx123_0⟩ := Kd.at_int HR0.out 0 p123 q123
     obtain rfl : ad117 = ad123 := (by injection e123)
     have qi123 : (0 < l0.length) = True := eq_true (by omega)
     (try rw [show ((0 : Int)).toNat = 0 from rfl] at hx123_0)
     (try rw [Addr.add_zero'] at hx123_0)
     replace p123 := eq_true p123
     replace q123 := eq_true q123
     have p124 : 0 ≤ (1 : Int) := (by omega)
     have q124 : 1 < (l0.length : Int) := of_decide_eq_true (by first | (with_reducible assumption) | assumption)
     obtain ⟨ad124, e124, hx124_0⟩ := Kd.at_int HR0.out 1 p124 q124
     obtain rfl : ad117 = ad124 := (by injection e124)
     (try simp only [show (1 : Int).toNat = 1 from rfl, Nat.reduceMul, Nat.reduceEqDiff, Go.Addr.add, ↓reduceIte] at hx124_0)
     have qi124 : (1 < l0.length) = True := eq_true (by omega)
     (try rw [show ((1 : Int)).toNat = 1 from rfl] at hx124_0)
     replace p124 := eq_true p124
     replace q124 := eq_true q124
     go_enter Try.func84, Try.ntmps84
     go_wp2
     repeat (go_quiet (fail); try go_wp2)
     go_ret
     exact ⟨by first | rfl | (simp; done) | (simp [*]; done), by repeat (first | exact Drawn0.refl _ | apply Drawn0.step)⟩
   ·rw [if_neg c4] at H
    exact absurd H (by simp)
  ·rw [if_neg c3] at H
   exact absurd H (by simp)
 ·rw [if_neg c2] at H
  exact absurd H (by simp)

end Go.Proofs.Ythkmbkibceojlaa.P
