/- spec.foGcd and impl.divisor tell the greatest common divisor. -/
import Derived.Test.YtkphmbcoefkilaaUbase
import Derived.Test.YtkphmbcoefkilaaPFspecfoGcd
import Derived.Test.YtkphmbcoefkilaaPFimpldivisor
namespace Go.Proofs.Ytkphmbcoefkilaa.P
set_option linter.unusedVariables false
set_option linter.unusedSimpArgs false
open Go.RowKit Go.Proofs.YtkphmbcoefkilaaW.PrintWords Go.Proofs.YtkphmbcoefkilaaW.PrintLast Go.Proofs.YtkphmbcoefkilaaW.PrintMore

theorem gcd_step (a b : Int) (h : ¬ b = 0) : Int.gcd a b = Int.gcd b (Int.tmod a b) := by
  unfold Int.gcd
  rw [Int.natAbs_tmod, Nat.gcd_comm a.natAbs, Nat.gcd_rec b.natAbs a.natAbs, Nat.gcd_comm]
theorem abs_both (a : Int) (h1 : -9223372036854775807 ≤ a) (h2 : a ≤ 9223372036854775807) : spec_l1Abs.f a = some (a.natAbs : Int) ∧ mx a (wrap64 (-a)) = (a.natAbs : Int) := by
  have hw : wrap64 (-a) = -a := w64 (by omega) (by omega)
  unfold spec_l1Abs.f spec_l1Most.f mx
  rw [hw]
  constructor
  · by_cases h : a > -a
    · simp only [h, if_true, Option.bind_some]
      congr 1
      omega
    · simp only [h, if_false, Option.bind_some]
      congr 1
      omega
  · by_cases h : a < -a
    · rw [if_pos h]; omega
    · rw [if_neg h]; omega
theorem gcd_both (d : Nat) : ∀ a b : Int, b.natAbs ≤ d → -9223372036854775807 ≤ a → a ≤ 9223372036854775807 → -9223372036854775807 ≤ b → b ≤ 9223372036854775807 →
    Ev (fun k => spec_foGcd.f k a b) (Int.gcd a b : Int) ∧ Ev (fun k => impl_divisor.l0 k a b) (Int.gcd a b : Int) := by
  induction d with
  | zero =>
    intro a b hb h1 h2 h3 h4
    obtain rfl : b = 0 := by omega
    obtain ⟨e1, e2⟩ := abs_both a h1 h2
    have e3 : (Int.gcd a 0 : Int) = (a.natAbs : Int) := by simp
    rw [e3]
    constructor
    · refine Ev.step (f := fun _ => some (a.natAbs : Int)) (fun k => ?_) (Ev.is rfl)
      simp only [spec_foGcd.f, if_true, e1, Option.bind_some]
    · refine Ev.step (f := fun _ => some (a.natAbs : Int)) (fun k => ?_) (Ev.is rfl)
      simp only [impl_divisor.l0, if_true, e2]
  | succ d ih =>
    intro a b hb h1 h2 h3 h4
    by_cases hz : b = 0
    · subst hz
      obtain ⟨e1, e2⟩ := abs_both a h1 h2
      have e3 : (Int.gcd a 0 : Int) = (a.natAbs : Int) := by simp
      rw [e3]
      constructor
      · refine Ev.step (f := fun _ => some (a.natAbs : Int)) (fun k => ?_) (Ev.is rfl)
        simp only [spec_foGcd.f, if_true, e1, Option.bind_some]
      · refine Ev.step (f := fun _ => some (a.natAbs : Int)) (fun k => ?_) (Ev.is rfl)
        simp only [impl_divisor.l0, if_true, e2]
    · have hn := Int.natAbs_tmod a b
      have hlt : a.natAbs % b.natAbs < b.natAbs := Nat.mod_lt _ (by omega)
      obtain ⟨i1, i2⟩ := ih b (Int.tmod a b) (by omega) h3 h4 (by omega) (by omega)
      rw [gcd_step a b hz]
      constructor
      · refine Ev.step (f := fun k => (spec_foGcd.f k b (Int.tmod a b)).bind fun t => some t) (fun k => ?_) (Ev.bind i1 (Ev.is rfl))
        simp only [spec_foGcd.f, hz, if_false]
      · refine Ev.step (f := fun k => impl_divisor.l0 k b (Int.tmod a b)) (fun k => ?_) i2
        simp only [impl_divisor.l0, hz, if_false]
theorem foGcd_ev (a b : Int) (h1 : -9223372036854775807 ≤ a) (h2 : a ≤ 9223372036854775807) (h3 : -9223372036854775807 ≤ b) (h4 : b ≤ 9223372036854775807) : Ev (fun k => spec_foGcd.f k a b) (Int.gcd a b : Int) :=
  (gcd_both b.natAbs a b (Nat.le_refl _) h1 h2 h3 h4).1
theorem divisor_ev (a b : Int) (h1 : -9223372036854775807 ≤ a) (h2 : a ≤ 9223372036854775807) (h3 : -9223372036854775807 ≤ b) (h4 : b ≤ 9223372036854775807) : Ev (fun k => impl_divisor.f k a b) (Int.gcd a b : Int) :=
  (gcd_both b.natAbs a b (Nat.le_refl _) h1 h2 h3 h4).2
end Go.Proofs.Ytkphmbcoefkilaa.P
