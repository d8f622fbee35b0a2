-- written by mp.py (a program of this session over the kit's printer) out of the translation; Lean checks it
import Derived.Test.YthkmbkibceojlaaP0
namespace Go.Proofs.Ythkmbkibceojlaa.P
open Go.RowKit Go.Proofs.YthkmbkibceojlaaW.PrintWords Go.Proofs.YthkmbkibceojlaaW.PrintLast
set_option linter.unusedVariables false
set_option linter.unusedSimpArgs false

/-! ### spec_mkSolves: function 93 -/
def spec_mkSolves.f (a0 : Int) (a1 : Int) (a2 : Int) : Option (Bool) := if a2 = 0 then (none) else (if (Int.tmod (wrap64 ((wrap64 (a0 * a0)) + (wrap64 (a1 * a1)))) a2) = 0 then (some ((wrap64 (Int.tdiv (wrap64 ((wrap64 (a0 * a0)) + (wrap64 (a1 * a1)))) a2)) == (wrap64 ((wrap64 ((wrap64 (3 * a0)) * a1)) - a2)))) else (some false))
set_option maxHeartbeats 8000000 in
set_option maxRecDepth 100000 in
theorem spec_mkSolves.calls (a0 : Int) (a1 : Int) (a2 : Int) (r : Bool) (w : World) (h : spec_mkSolves.f a0 a1 a2 = some r) :
  Calls Try.prog 93 #[.int .i64 a0, .int .i64 a1, .int .i64 a2] w fun e w' => e = .returned (.bool r) ∧ Drawn0 w w' := by
 have H : (if a2 = 0 then (none) else (if (Int.tmod (wrap64 ((wrap64 (a0 * a0)) + (wrap64 (a1 * a1)))) a2) = 0 then (some ((wrap64 (Int.tdiv (wrap64 ((wrap64 (a0 * a0)) + (wrap64 (a1 * a1)))) a2)) == (wrap64 ((wrap64 ((wrap64 (3 * a0)) * a1)) - a2)))) else (some false))) = some r := h
 clear h
 by_cases c4 : a2 = 0
 ·rw [if_pos c4] at H
  exact absurd H (by simp)
 ·rw [if_neg c4] at H
  have c4b0 : (a2 == 0) = false := beq_eq_false_iff_ne.mpr c4
  have c4b1 : (a2 != 0) = true := bne_iff_ne.mpr c4
  by_cases c5 : (Int.tmod (wrap64 ((wrap64 (a0 * a0)) + (wrap64 (a1 * a1)))) a2) = 0
  ·rw [if_pos c5] at H
   have c5b0 : ((Int.tmod (wrap64 ((wrap64 (a0 * a0)) + (wrap64 (a1 * a1)))) a2) == 0) = true := beq_iff_eq.mpr c5
   have c5b1 : ((Int.tmod (wrap64 ((wrap64 (a0 * a0)) + (wrap64 (a1 * a1)))) a2) != 0) = false := bne_eq_false_iff_eq.mpr c5
   clear c5
   obtain rfl := Option.some.inj H
   go_enter Try.func93, Try.ntmps93
   go_wp2
   go_ret
   exact ⟨by first | rfl | (simp; done) | (simp [*]; done), by repeat (first | exact Drawn0.refl _ | apply Drawn0.step)⟩
  ·rw [if_neg c5] at H
   have c5b0 : ((Int.tmod (wrap64 ((wrap64 (a0 * a0)) + (wrap64 (a1 * a1)))) a2) == 0) = false := beq_eq_false_iff_ne.mpr c5
   have c5b1 : ((Int.tmod (wrap64 ((wrap64 (a0 * a0)) + (wrap64 (a1 * a1)))) a2) != 0) = true := bne_iff_ne.mpr c5
   obtain rfl := Option.some.inj H
   go_enter Try.func93, Try.ntmps93
   go_wp2
   go_ret
   exact ⟨by first | rfl | (simp; done) | (simp [*]; done), by repeat (first | exact Drawn0.refl _ | apply Drawn0.step)⟩

end Go.Proofs.Ythkmbkibceojlaa.P
