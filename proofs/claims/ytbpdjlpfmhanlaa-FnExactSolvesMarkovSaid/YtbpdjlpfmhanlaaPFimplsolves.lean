-- written by mp.py (a program of this session over the kit's printer) out of the translation; Lean checks it
import Derived.Test.YtbpdjlpfmhanlaaP0
namespace Go.Proofs.Ytbpdjlpfmhanlaa.P
open Go.RowKit Go.Proofs.YtbpdjlpfmhanlaaW.PrintWords Go.Proofs.YtbpdjlpfmhanlaaW.PrintLast Go.Proofs.YtbpdjlpfmhanlaaW.PrintMore
attribute [local go_sem] max2_int min2_int max_two min_two max_three min_three max_four min_four   -- for this text's walks alone
set_option linter.unusedVariables false
set_option linter.unusedSimpArgs false

/-! ### impl_solves: function 56 -/
def impl_solves.f (l0 : List Int) : Option (Bool) := if 0 < (l0.length : Int) then (if 1 < (l0.length : Int) then (if 2 < (l0.length : Int) then (if (wrap64 ((rd l0 0) * (rd l0 1))) ≤ (wrap64 (Int.tdiv (wrap64 ((wrap64 ((wrap64 ((rd l0 0) * (rd l0 0))) + (wrap64 ((rd l0 1) * (rd l0 1))))) + (wrap64 ((rd l0 2) * (rd l0 2))))) 3)) then (if (wrap64 (3 * (wrap64 ((rd l0 0) * (rd l0 1))))) = 0 then (none) else (if (Int.tmod (wrap64 ((wrap64 ((wrap64 ((rd l0 0) * (rd l0 0))) + (wrap64 ((rd l0 1) * (rd l0 1))))) + (wrap64 ((rd l0 2) * (rd l0 2))))) (wrap64 (3 * (wrap64 ((rd l0 0) * (rd l0 1)))))) = 0 then (some ((wrap64 (Int.tdiv (wrap64 ((wrap64 ((wrap64 ((rd l0 0) * (rd l0 0))) + (wrap64 ((rd l0 1) * (rd l0 1))))) + (wrap64 ((rd l0 2) * (rd l0 2))))) (wrap64 (3 * (wrap64 ((rd l0 0) * (rd l0 1))))))) == (rd l0 2))) else (some false))) else (some false)) else (none)) else (none)) else (none)
set_option maxHeartbeats 8000000 in
set_option maxRecDepth 100000 in
theorem impl_solves.calls (A0 : Option Addr) (c0 : Nat) (l0 : List Int) (r : Bool) (w : World) (hr0 : Kd.C (Kd.int .i64) w A0 l0.length l0) (hc0 : l0.length ≤ c0) (h : impl_solves.f l0 = some r) :
  Calls Try.prog 56 #[.slice A0 l0.length c0] w fun e w' => e = .returned (.bool r) ∧ Drawn0 w w' := by
 have HR0 := Aside0.mk hr0
 have HC0 := Aside0.mk hc0
 clear hr0 hc0
 have H : (if 0 < (l0.length : Int) then (if 1 < (l0.length : Int) then (if 2 < (l0.length : Int) then (if (wrap64 ((rd l0 0) * (rd l0 1))) ≤ (wrap64 (Int.tdiv (wrap64 ((wrap64 ((wrap64 ((rd l0 0) * (rd l0 0))) + (wrap64 ((rd l0 1) * (rd l0 1))))) + (wrap64 ((rd l0 2) * (rd l0 2))))) 3)) then (if (wrap64 (3 * (wrap64 ((rd l0 0) * (rd l0 1))))) = 0 then (none) else (if (Int.tmod (wrap64 ((wrap64 ((wrap64 ((rd l0 0) * (rd l0 0))) + (wrap64 ((rd l0 1) * (rd l0 1))))) + (wrap64 ((rd l0 2) * (rd l0 2))))) (wrap64 (3 * (wrap64 ((rd l0 0) * (rd l0 1)))))) = 0 then (some ((wrap64 (Int.tdiv (wrap64 ((wrap64 ((wrap64 ((rd l0 0) * (rd l0 0))) + (wrap64 ((rd l0 1) * (rd l0 1))))) + (wrap64 ((rd l0 2) * (rd l0 2))))) (wrap64 (3 * (wrap64 ((rd l0 0) * (rd l0 1))))))) == (rd l0 2))) else (some false))) else (some false)) else (none)) else (none)) else (none)) = some r := h
 clear h
 by_cases c2 : 0 < (l0.length : Int)
 ·rw [if_pos c2] at H
  have c2b0 : decide (0 < (l0.length : Int)) = true := decide_eq_true c2
  have c2b1 : decide (0 < l0.length) = true := decide_eq_true (by omega)
  clear c2
  by_cases c3 : 1 < (l0.length : Int)
  ·rw [if_pos c3] at H
   have c3b0 : decide (1 < (l0.length : Int)) = true := decide_eq_true c3
   have c3b1 : decide (1 < l0.length) = true := decide_eq_true (by omega)
   clear c3
   by_cases c4 : 2 < (l0.length : Int)
   ·rw [if_pos c4] at H
    have c4b0 : decide (2 < (l0.length : Int)) = true := decide_eq_true c4
    have c4b1 : decide (2 < l0.length) = true := decide_eq_true (by omega)
    clear c4
    by_cases c5 : (wrap64 ((rd l0 0) * (rd l0 1))) ≤ (wrap64 (Int.tdiv (wrap64 ((wrap64 ((wrap64 ((rd l0 0) * (rd l0 0))) + (wrap64 ((rd l0 1) * (rd l0 1))))) + (wrap64 ((rd l0 2) * (rd l0 2))))) 3))
    ·rw [if_pos c5] at H
     have c5b0 : decide ((wrap64 ((rd l0 0) * (rd l0 1))) ≤ (wrap64 (Int.tdiv (wrap64 ((wrap64 ((wrap64 ((rd l0 0) * (rd l0 0))) + (wrap64 ((rd l0 1) * (rd l0 1))))) + (wrap64 ((rd l0 2) * (rd l0 2))))) 3))) = true := decide_eq_true c5
     clear c5
     by_cases c6 : (wrap64 (3 * (wrap64 ((rd l0 0) * (rd l0 1))))) = 0
     ·rw [if_pos c6] at H
      exact absurd H (by simp)
     ·rw [if_neg c6] at H
      have c6b0 : ((wrap64 (3 * (wrap64 ((rd l0 0) * (rd l0 1))))) == 0) = false := beq_eq_false_iff_ne.mpr c6
      have c6b1 : ((wrap64 (3 * (wrap64 ((rd l0 0) * (rd l0 1))))) != 0) = true := bne_iff_ne.mpr c6
      by_cases c7 : (Int.tmod (wrap64 ((wrap64 ((wrap64 ((rd l0 0) * (rd l0 0))) + (wrap64 ((rd l0 1) * (rd l0 1))))) + (wrap64 ((rd l0 2) * (rd l0 2))))) (wrap64 (3 * (wrap64 ((rd l0 0) * (rd l0 1)))))) = 0
      ·rw [if_pos c7] at H
       have c7b0 : ((Int.tmod (wrap64 ((wrap64 ((wrap64 ((rd l0 0) * (rd l0 0))) + (wrap64 ((rd l0 1) * (rd l0 1))))) + (wrap64 ((rd l0 2) * (rd l0 2))))) (wrap64 (3 * (wrap64 ((rd l0 0) * (rd l0 1)))))) == 0) = true := beq_iff_eq.mpr c7
       have c7b1 : ((Int.tmod (wrap64 ((wrap64 ((wrap64 ((rd l0 0) * (rd l0 0))) + (wrap64 ((rd l0 1) * (rd l0 1))))) + (wrap64 ((rd l0 2) * (rd l0 2))))) (wrap64 (3 * (wrap64 ((rd l0 0) * (rd l0 1)))))) != 0) = false := bne_eq_false_iff_eq.mpr c7
       clear c7
       obtain rfl := Option.some.inj H
       have p192 : 0 ≤ (0 : Int) := (by omega)
       have q192 : 0 < (l0.length : Int) := of_decide_eq_true (by first | (with_reducible assumption) | assumption)
       obtain ⟨ad192, e192, hx192_0⟩ := Kd.at_int HR0.out 0 p192 q192
       cases e192
       have qi192 : (0 < l0.length) = True := eq_true (by omega)
       (try rw [show ((0 : Int)).toNat = 0 from rfl] at hx192_0)
       (try rw [Addr.add_zero'] at hx192_0)
       replace p192 := eq_true p192
       replace q192 := eq_true q192
       have p193 : 0 ≤ (0 : Int) := (by omega)
       have q193 : 0 < (l0.length : Int) := of_decide_eq_true (by first | (with_reducible assumption) | assumption)
       obtain ⟨ad193, e193, hx193_0⟩ := Kd.at_int HR0.out 0 p193 q193
       obtain rfl : ad192 = ad193 := (by injection e193)
       have qi193 : (0 < l0.length) = True := eq_true (by omega)
       (try rw [show ((0 : Int)).toNat = 0 from rfl] at hx193_0)
       (try rw [Addr.add_zero'] at hx193_0)
       replace p193 := eq_true p193
       replace q193 := eq_true q193
       have p194 : 0 ≤ (1 : Int) := (by omega)
       have q194 : 1 < (l0.length : Int) := of_decide_eq_true (by first | (with_reducible assumption) | assumption)
       obtain ⟨ad194, e194, hx194_0⟩ := Kd.at_int HR0.out 1 p194 q194
       obtain rfl : ad192 = ad194 := (by injection e194)
       (try simp only [show (1 : Int).toNat = 1 from rfl, Nat.reduceMul, Nat.reduceEqDiff, Go.Addr.add, ↓reduceIte] at hx194_0)
       have qi194 : (1 < l0.length) = True := eq_true (by omega)
       (try rw [show ((1 : Int)).toNat = 1 from rfl] at hx194_0)
       replace p194 := eq_true p194
       replace q194 := eq_true q194
       have p195 : 0 ≤ (1 : Int) := (by omega)
       have q195 : 1 < (l0.length : Int) := of_decide_eq_true (by first | (with_reducible assumption) | assumption)
       obtain ⟨ad195, e195, hx195_0⟩ := Kd.at_int HR0.out 1 p195 q195
       obtain rfl : ad192 = ad195 := (by injection e195)
       (try simp only [show (1 : Int).toNat = 1 from rfl, Nat.reduceMul, Nat.reduceEqDiff, Go.Addr.add, ↓reduceIte] at hx195_0)
       have qi195 : (1 < l0.length) = True := eq_true (by omega)
       (try rw [show ((1 : Int)).toNat = 1 from rfl] at hx195_0)
       replace p195 := eq_true p195
       replace q195 := eq_true q195
       have p196 : 0 ≤ (2 : Int) := (by omega)
       have q196 : 2 < (l0.length : Int) := of_decide_eq_true (by first | (with_reducible assumption) | assumption)
       obtain ⟨ad196, e196, hx196_0⟩ := Kd.at_int HR0.out 2 p196 q196
       obtain rfl : ad192 = ad196 := (by injection e196)
       (try simp only [show (2 : Int).toNat = 2 from rfl, Nat.reduceMul, Nat.reduceEqDiff, Go.Addr.add, ↓reduceIte] at hx196_0)
       have qi196 : (2 < l0.length) = True := eq_true (by omega)
       (try rw [show ((2 : Int)).toNat = 2 from rfl] at hx196_0)
       replace p196 := eq_true p196
       replace q196 := eq_true q196
       have p197 : 0 ≤ (2 : Int) := (by omega)
       have q197 : 2 < (l0.length : Int) := of_decide_eq_true (by first | (with_reducible assumption) | assumption)
       obtain ⟨ad197, e197, hx197_0⟩ := Kd.at_int HR0.out 2 p197 q197
       obtain rfl : ad192 = ad197 := (by injection e197)
       (try simp only [show (2 : Int).toNat = 2 from rfl, Nat.reduceMul, Nat.reduceEqDiff, Go.Addr.add, ↓reduceIte] at hx197_0)
       have qi197 : (2 < l0.length) = True := eq_true (by omega)
       (try rw [show ((2 : Int)).toNat = 2 from rfl] at hx197_0)
       replace p197 := eq_true p197
       replace q197 := eq_true q197
       have p198 : 0 ≤ (0 : Int) := (by omega)
       have q198 : 0 < (l0.length : Int) := of_decide_eq_true (by first | (with_reducible assumption) | assumption)
       obtain ⟨ad198, e198, hx198_0⟩ := Kd.at_int HR0.out 0 p198 q198
       obtain rfl : ad192 = ad198 := (by injection e198)
       have qi198 : (0 < l0.length) = True := eq_true (by omega)
       (try rw [show ((0 : Int)).toNat = 0 from rfl] at hx198_0)
       (try rw [Addr.add_zero'] at hx198_0)
       replace p198 := eq_true p198
       replace q198 := eq_true q198
       have p199 : 0 ≤ (1 : Int) := (by omega)
       have q199 : 1 < (l0.length : Int) := of_decide_eq_true (by first | (with_reducible assumption) | assumption)
       obtain ⟨ad199, e199, hx199_0⟩ := Kd.at_int HR0.out 1 p199 q199
       obtain rfl : ad192 = ad199 := (by injection e199)
       (try simp only [show (1 : Int).toNat = 1 from rfl, Nat.reduceMul, Nat.reduceEqDiff, Go.Addr.add, ↓reduceIte] at hx199_0)
       have qi199 : (1 < l0.length) = True := eq_true (by omega)
       (try rw [show ((1 : Int)).toNat = 1 from rfl] at hx199_0)
       replace p199 := eq_true p199
       replace q199 := eq_true q199
       have p200 : 0 ≤ (2 : Int) := (by omega)
       have q200 : 2 < (l0.length : Int) := of_decide_eq_true (by first | (with_reducible assumption) | assumption)
       obtain ⟨ad200, e200, hx200_0⟩ := Kd.at_int HR0.out 2 p200 q200
       obtain rfl : ad192 = ad200 := (by injection e200)
       (try simp only [show (2 : Int).toNat = 2 from rfl, Nat.reduceMul, Nat.reduceEqDiff, Go.Addr.add, ↓reduceIte] at hx200_0)
       have qi200 : (2 < l0.length) = True := eq_true (by omega)
       (try rw [show ((2 : Int)).toNat = 2 from rfl] at hx200_0)
       replace p200 := eq_true p200
       replace q200 := eq_true q200
       go_enter Try.func56, Try.ntmps56
       go_wp2
       repeat (go_quiet (fail); try go_wp2)
       go_ret
       exact ⟨by first | rfl | (simp; done) | (simp [*]; done), by repeat (first | exact Drawn0.refl _ | apply Drawn0.step)⟩
      ·rw [if_neg c7] at H
       have c7b0 : ((Int.tmod (wrap64 ((wrap64 ((wrap64 ((rd l0 0) * (rd l0 0))) + (wrap64 ((rd l0 1) * (rd l0 1))))) + (wrap64 ((rd l0 2) * (rd l0 2))))) (wrap64 (3 * (wrap64 ((rd l0 0) * (rd l0 1)))))) == 0) = false := beq_eq_false_iff_ne.mpr c7
       have c7b1 : ((Int.tmod (wrap64 ((wrap64 ((wrap64 ((rd l0 0) * (rd l0 0))) + (wrap64 ((rd l0 1) * (rd l0 1))))) + (wrap64 ((rd l0 2) * (rd l0 2))))) (wrap64 (3 * (wrap64 ((rd l0 0) * (rd l0 1)))))) != 0) = true := bne_iff_ne.mpr c7
       obtain rfl := Option.some.inj H
       have p192 : 0 ≤ (0 : Int) := (by omega)
       have q192 : 0 < (l0.length : Int) := of_decide_eq_true (by first | (with_reducible assumption) | assumption)
       obtain ⟨ad192, e192, hx192_0⟩ := Kd.at_int HR0.out 0 p192 q192
       cases e192
       have qi192 : (0 < l0.length) = True := eq_true (by omega)
       (try rw [show ((0 : Int)).toNat = 0 from rfl] at hx192_0)
       (try rw [Addr.add_zero'] at hx192_0)
       replace p192 := eq_true p192
       replace q192 := eq_true q192
       have p193 : 0 ≤ (0 : Int) := (by omega)
       have q193 : 0 < (l0.length : Int) := of_decide_eq_true (by first | (with_reducible assumption) | assumption)
       obtain ⟨ad193, e193, hx193_0⟩ := Kd.at_int HR0.out 0 p193 q193
       obtain rfl : ad192 = ad193 := (by injection e193)
       have qi193 : (0 < l0.length) = True := eq_true (by omega)
       (try rw [show ((0 : Int)).toNat = 0 from rfl] at hx193_0)
       (try rw [Addr.add_zero'] at hx193_0)
       replace p193 := eq_true p193
       replace q193 := eq_true q193
       have p194 : 0 ≤ (1 : Int) := (by omega)
       have q194 : 1 < (l0.length : Int) := of_decide_eq_true (by first | (with_reducible assumption) | assumption)
       obtain ⟨ad194, e194, hx194_0⟩ := Kd.at_int HR0.out 1 p194 q194
       obtain rfl : ad192 = ad194 := (by injection e194)
       (try simp only [show (1 : Int).toNat = 1 from rfl, Nat.reduceMul, Nat.reduceEqDiff, Go.Addr.add, ↓reduceIte] at hx194_0)
       have qi194 : (1 < l0.length) = True := eq_true (by omega)
       (try rw [show ((1 : Int)).toNat = 1 from rfl] at hx194_0)
       replace p194 := eq_true p194
       replace q194 := eq_true q194
       have p195 : 0 ≤ (1 : Int) := (by omega)
       have q195 : 1 < (l0.length : Int) := of_decide_eq_true (by first | (with_reducible assumption) | assumption)
       obtain ⟨ad195, e195, hx195_0⟩ := Kd.at_int HR0.out 1 p195 q195
       obtain rfl : ad192 = ad195 := (by injection e195)
       (try simp only [show (1 : Int).toNat = 1 from rfl, Nat.reduceMul, Nat.reduceEqDiff, Go.Addr.add, ↓reduceIte] at hx195_0)
       have qi195 : (1 < l0.length) = True := eq_true (by omega)
       (try rw [show ((1 : Int)).toNat = 1 from rfl] at hx195_0)
       replace p195 := eq_true p195
       replace q195 := eq_true q195
       have p196 : 0 ≤ (2 : Int) := (by omega)
       have q196 : 2 < (l0.length : Int) := of_decide_eq_true (by first | (with_reducible assumption) | assumption)
       obtain ⟨ad196, e196, hx196_0⟩ := Kd.at_int HR0.out 2 p196 q196
       obtain rfl : ad192 = ad196 := (by injection e196)
       (try simp only [show (2 : Int).toNat = 2 from rfl, Nat.reduceMul, Nat.reduceEqDiff, Go.Addr.add, ↓reduceIte] at hx196_0)
       have qi196 : (2 < l0.length) = True := eq_true (by omega)
       (try rw [show ((2 : Int)).toNat = 2 from rfl] at hx196_0)
       replace p196 := eq_true p196
       replace q196 := eq_true q196
       have p197 : 0 ≤ (2 : Int) := (by omega)
       have q197 : 2 < (l0.length : Int) := of_decide_eq_true (by first | (with_reducible assumption) | assumption)
       obtain ⟨ad197, e197, hx197_0⟩ := Kd.at_int HR0.out 2 p197 q197
       obtain rfl : ad192 = ad197 := (by injection e197)
       (try simp only [show (2 : Int).toNat = 2 from rfl, Nat.reduceMul, Nat.reduceEqDiff, Go.Addr.add, ↓reduceIte] at hx197_0)
       have qi197 : (2 < l0.length) = True := eq_true (by omega)
       (try rw [show ((2 : Int)).toNat = 2 from rfl] at hx197_0)
       replace p197 := eq_true p197
       replace q197 := eq_true q197
       have p198 : 0 ≤ (0 : Int) := (by omega)
       have q198 : 0 < (l0.length : Int) := of_decide_eq_true (by first | (with_reducible assumption) | assumption)
       obtain ⟨ad198, e198, hx198_0⟩ := Kd.at_int HR0.out 0 p198 q198
       obtain rfl : ad192 = ad198 := (by injection e198)
       have qi198 : (0 < l0.length) = True := eq_true (by omega)
       (try rw [show ((0 : Int)).toNat = 0 from rfl] at hx198_0)
       (try rw [Addr.add_zero'] at hx198_0)
       replace p198 := eq_true p198
       replace q198 := eq_true q198
       have p199 : 0 ≤ (1 : Int) := (by omega)
       have q199 : 1 < (l0.length : Int) := of_decide_eq_true (by first | (with_reducible assumption) | assumption)
       obtain ⟨ad199, e199, hx199_0⟩ := Kd.at_int HR0.out 1 p199 q199
       obtain rfl : ad192 = ad199 := (by injection e199)
       (try simp only [show (1 : Int).toNat = 1 from rfl, Nat.reduceMul, Nat.reduceEqDiff, Go.Addr.add, ↓reduceIte] at hx199_0)
       have qi199 : (1 < l0.length) = True := eq_true (by omega)
       (try rw [show ((1 : Int)).toNat = 1 from rfl] at hx199_0)
       replace p199 := eq_true p199
       replace q199 := eq_true q199
       go_enter Try.func56, Try.ntmps56
       go_wp2
       repeat (go_quiet (fail); try go_wp2)
       go_ret
       exact ⟨by first | rfl | (simp; done) | (simp [*]; done), by repeat (first | exact Drawn0.refl _ | apply Drawn0.step)⟩
    ·rw [if_neg c5] at H
     have c5b0 : decide ((wrap64 ((rd l0 0) * (rd l0 1))) ≤ (wrap64 (Int.tdiv (wrap64 ((wrap64 ((wrap64 ((rd l0 0) * (rd l0 0))) + (wrap64 ((rd l0 1) * (rd l0 1))))) + (wrap64 ((rd l0 2) * (rd l0 2))))) 3))) = false := decide_eq_false c5
     clear c5
     obtain rfl := Option.some.inj H
     have p192 : 0 ≤ (0 : Int) := (by omega)
     have q192 : 0 < (l0.length : Int) := of_decide_eq_true (by first | (with_reducible assumption) | assumption)
     obtain ⟨ad192, e192, hx192_0⟩ := Kd.at_int HR0.out 0 p192 q192
     cases e192
     have qi192 : (0 < l0.length) = True := eq_true (by omega)
     (try rw [show ((0 : Int)).toNat = 0 from rfl] at hx192_0)
     (try rw [Addr.add_zero'] at hx192_0)
     replace p192 := eq_true p192
     replace q192 := eq_true q192
     have p193 : 0 ≤ (0 : Int) := (by omega)
     have q193 : 0 < (l0.length : Int) := of_decide_eq_true (by first | (with_reducible assumption) | assumption)
     obtain ⟨ad193, e193, hx193_0⟩ := Kd.at_int HR0.out 0 p193 q193
     obtain rfl : ad192 = ad193 := (by injection e193)
     have qi193 : (0 < l0.length) = True := eq_true (by omega)
     (try rw [show ((0 : Int)).toNat = 0 from rfl] at hx193_0)
     (try rw [Addr.add_zero'] at hx193_0)
     replace p193 := eq_true p193
     replace q193 := eq_true q193
     have p194 : 0 ≤ (1 : Int) := (by omega)
     have q194 : 1 < (l0.length : Int) := of_decide_eq_true (by first | (with_reducible assumption) | assumption)
     obtain ⟨ad194, e194, hx194_0⟩ := Kd.at_int HR0.out 1 p194 q194
     obtain rfl : ad192 = ad194 := (by injection e194)
     (try simp only [show (1 : Int).toNat = 1 from rfl, Nat.reduceMul, Nat.reduceEqDiff, Go.Addr.add, ↓reduceIte] at hx194_0)
     have qi194 : (1 < l0.length) = True := eq_true (by omega)
     (try rw [show ((1 : Int)).toNat = 1 from rfl] at hx194_0)
     replace p194 := eq_true p194
     replace q194 := eq_true q194
     have p195 : 0 ≤ (1 : Int) := (by omega)
     have q195 : 1 < (l0.length : Int) := of_decide_eq_true (by first | (with_reducible assumption) | assumption)
     obtain ⟨ad195, e195, hx195_0⟩ := Kd.at_int HR0.out 1 p195 q195
     obtain rfl : ad192 = ad195 := (by injection e195)
     (try simp only [show (1 : Int).toNat = 1 from rfl, Nat.reduceMul, Nat.reduceEqDiff, Go.Addr.add, ↓reduceIte] at hx195_0)
     have qi195 : (1 < l0.length) = True := eq_true (by omega)
     (try rw [show ((1 : Int)).toNat = 1 from rfl] at hx195_0)
     replace p195 := eq_true p195
     replace q195 := eq_true q195
     have p196 : 0 ≤ (2 : Int) := (by omega)
     have q196 : 2 < (l0.length : Int) := of_decide_eq_true (by first | (with_reducible assumption) | assumption)
     obtain ⟨ad196, e196, hx196_0⟩ := Kd.at_int HR0.out 2 p196 q196
     obtain rfl : ad192 = ad196 := (by injection e196)
     (try simp only [show (2 : Int).toNat = 2 from rfl, Nat.reduceMul, Nat.reduceEqDiff, Go.Addr.add, ↓reduceIte] at hx196_0)
     have qi196 : (2 < l0.length) = True := eq_true (by omega)
     (try rw [show ((2 : Int)).toNat = 2 from rfl] at hx196_0)
     replace p196 := eq_true p196
     replace q196 := eq_true q196
     have p197 : 0 ≤ (2 : Int) := (by omega)
     have q197 : 2 < (l0.length : Int) := of_decide_eq_true (by first | (with_reducible assumption) | assumption)
     obtain ⟨ad197, e197, hx197_0⟩ := Kd.at_int HR0.out 2 p197 q197
     obtain rfl : ad192 = ad197 := (by injection e197)
     (try simp only [show (2 : Int).toNat = 2 from rfl, Nat.reduceMul, Nat.reduceEqDiff, Go.Addr.add, ↓reduceIte] at hx197_0)
     have qi197 : (2 < l0.length) = True := eq_true (by omega)
     (try rw [show ((2 : Int)).toNat = 2 from rfl] at hx197_0)
     replace p197 := eq_true p197
     replace q197 := eq_true q197
     have p198 : 0 ≤ (0 : Int) := (by omega)
     have q198 : 0 < (l0.length : Int) := of_decide_eq_true (by first | (with_reducible assumption) | assumption)
     obtain ⟨ad198, e198, hx198_0⟩ := Kd.at_int HR0.out 0 p198 q198
     obtain rfl : ad192 = ad198 := (by injection e198)
     have qi198 : (0 < l0.length) = True := eq_true (by omega)
     (try rw [show ((0 : Int)).toNat = 0 from rfl] at hx198_0)
     (try rw [Addr.add_zero'] at hx198_0)
     replace p198 := eq_true p198
     replace q198 := eq_true q198
     have p199 : 0 ≤ (1 : Int) := (by omega)
     have q199 : 1 < (l0.length : Int) := of_decide_eq_true (by first | (with_reducible assumption) | assumption)
     obtain ⟨ad199, e199, hx199_0⟩ := Kd.at_int HR0.out 1 p199 q199
     obtain rfl : ad192 = ad199 := (by injection e199)
     (try simp only [show (1 : Int).toNat = 1 from rfl, Nat.reduceMul, Nat.reduceEqDiff, Go.Addr.add, ↓reduceIte] at hx199_0)
     have qi199 : (1 < l0.length) = True := eq_true (by omega)
     (try rw [show ((1 : Int)).toNat = 1 from rfl] at hx199_0)
     replace p199 := eq_true p199
     replace q199 := eq_true q199
     go_enter Try.func56, Try.ntmps56
     go_wp2
     repeat (go_quiet (fail); try go_wp2)
     go_ret
     exact ⟨by first | rfl | (simp; done) | (simp [*]; done), by repeat (first | exact Drawn0.refl _ | apply Drawn0.step)⟩
   ·rw [if_neg c4] at H
    exact absurd H (by simp)
  ·rw [if_neg c3] at H
   exact absurd H (by simp)
 ·rw [if_neg c2] at H
  exact absurd H (by simp)

end Go.Proofs.Ytbpdjlpfmhanlaa.P
