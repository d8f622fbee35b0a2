/- DivisorOf: the program and the reference. -/
import Derived.Test.YtclpgaoneoojiaaUgcd
import Derived.Test.YtclpgaoneoojiaaUall
import Derived.Test.YtclpgaoneoojiaaPFspecDivisorOf
import Derived.Test.YtclpgaoneoojiaaPFimplDivisorOf
namespace Go.Proofs.Ytclpgaoneoojiaa.P
set_option linter.unusedVariables false
set_option linter.unusedSimpArgs false
open Go.RowKit Go.Proofs.YtclpgaoneoojiaaW.PrintWords Go.Proofs.YtclpgaoneoojiaaW.PrintLast Go.Proofs.YtclpgaoneoojiaaW.PrintMore

def gcdFrom (d : Int) : List Int → Int
  | [] => d
  | x :: l => gcdFrom (Int.gcd d x : Int) l
theorem gcd_le (a b : Int) (h1 : 0 ≤ a) (h2 : a ≤ 1000000000) (h3 : inB (-1000000000) 1000000000 b = true) : 0 ≤ (Int.gcd a b : Int) ∧ (Int.gcd a b : Int) ≤ 1000000000 := by
  have h4 : -1000000000 ≤ b ∧ b ≤ 1000000000 := by simpa [inB] using h3
  refine ⟨by omega, ?_⟩
  by_cases hb : b = 0
  · subst hb
    simp
    omega
  · have := Nat.gcd_le_right (m := a.natAbs) (n := b.natAbs) (by omega)
    unfold Int.gcd
    omega
theorem DivisorOf_loops (l : List Int) (hn : l.length ≤ 40) (hw : l.all (inB (-1000000000) 1000000000) = true) (e : Nat) : ∀ (i : Nat) (d : Int), i + e = l.length → 0 ≤ d → d ≤ 1000000000 →
    Ev (fun k => spec_DivisorOf.l0 k d l (l.length : Int) (i : Int)) (gcdFrom d (l.drop i), true) ∧ Ev (fun k => impl_DivisorOf.l0 k d l (l.length : Int) (i : Int)) (gcdFrom d (l.drop i), true) := by
  induction e with
  | zero =>
    intro i d hi h1 h2
    rw [List.drop_eq_nil_of_le (by omega)]
    constructor
    · refine Ev.step (f := fun _ => some (d, true)) (fun k => ?_) (Ev.is rfl)
      simp only [spec_DivisorOf.l0]
      rw [if_neg (by omega)]
    · refine Ev.step (f := fun _ => some (d, true)) (fun k => ?_) (Ev.is rfl)
      simp only [impl_DivisorOf.l0]
      rw [if_neg (by omega)]
  | succ e ih =>
    intro i d hi h1 h2
    have hx : inB (-1000000000) 1000000000 (rd l (i : Int)) = true := by
      rw [rd_lt l i (by omega)]
      exact List.all_eq_true.1 hw _ (List.getElem_mem _)
    have hb : -1000000000 ≤ rd l (i : Int) ∧ rd l (i : Int) ≤ 1000000000 := by simpa [inB] using hx
    obtain ⟨g1, g2⟩ := gcd_le d (rd l (i : Int)) h1 h2 hx
    obtain ⟨i1, i2⟩ := ih (i + 1) (Int.gcd d (rd l (i : Int)) : Int) (by omega) g1 g2
    rw [rd_drop l i (by omega)]
    constructor
    · refine Ev.step (f := fun k => (spec_foGcd.f k d (rd l (i : Int))).bind fun t => spec_DivisorOf.l0 k t l (l.length : Int) ((i + 1 : Nat) : Int)) (fun k => ?_) (Ev.bind (foGcd_ev d _ (by omega) (by omega) (by omega) (by omega)) i1)
      simp only [spec_DivisorOf.l0]
      rw [if_pos (by omega), if_pos (by omega), if_pos (by omega), w64_succ (n := l.length) (by omega) (by omega)]
    · refine Ev.step (f := fun k => (impl_divisor.f k d (rd l (i : Int))).bind fun t => impl_DivisorOf.l0 k t l (l.length : Int) ((i + 1 : Nat) : Int)) (fun k => ?_) (Ev.bind (divisor_ev d _ (by omega) (by omega) (by omega) (by omega)) i2)
      simp only [impl_DivisorOf.l0]
      rw [if_pos (by omega), if_pos (by omega), if_pos (by omega), w64_succ (n := l.length) (by omega) (by omega)]
/-- What both answer. -/
def divOf (l : List Int) : Int × Bool := if l.length ≤ 40 ∧ l.all (inB (-1000000000) 1000000000) = true then (gcdFrom 0 l, true) else (0, false)
theorem DivisorOf_both (l : List Int) (hn : l.length ≤ 4611686018427387904) : Ev (fun k => spec_DivisorOf.f k l) (divOf l) ∧ Ev (fun k => impl_DivisorOf.f k l) (divOf l) := by
  unfold spec_DivisorOf.f impl_DivisorOf.f divOf impl_allWithin.f
  by_cases h : l.length ≤ 40
  · have h' : ¬ (l.length : Int) > 40 := by omega
    cases hw : l.all (inB (-1000000000) 1000000000) with
    | true =>
      obtain ⟨l1, l2⟩ := DivisorOf_loops l h hw l.length 0 0 (by omega) (by omega) (by omega)
      simp only [h', h, if_false, and_self, if_true]
      constructor
      · refine Ev.bind (l1All_ev l _ _ hn) ?_
        rw [hw]
        exact Ev.step (fun k => by simp only [spec_DivisorOf.j0, Bool.not_true, Bool.false_eq_true, if_false]; rfl) l1
      · refine Ev.bind0 rfl ?_
        exact Ev.step (fun k => by simp only [impl_DivisorOf.j0, Bool.not_true, Bool.false_eq_true, if_false]; rfl) l2
    | false =>
      simp only [h', h, if_false, Bool.false_eq_true, and_false]
      constructor
      · refine Ev.bind (l1All_ev l _ _ hn) ?_
        rw [hw]
        exact Ev.step (f := fun _ => some (0, false)) (fun k => by simp only [spec_DivisorOf.j0, Bool.not_false, if_true]) (Ev.is rfl)
      · refine Ev.bind0 rfl ?_
        exact Ev.step (f := fun _ => some (0, false)) (fun k => by simp only [impl_DivisorOf.j0, Bool.not_false, if_true]) (Ev.is rfl)
  · have h' : (l.length : Int) > 40 := by omega
    simp only [h', h, if_true, false_and, if_false]
    exact ⟨Ev.step (f := fun _ => some (0, false)) (fun k => by simp only [spec_DivisorOf.j0, if_true]) (Ev.is rfl), Ev.step (f := fun _ => some (0, false)) (fun k => by simp only [impl_DivisorOf.j0, if_true]) (Ev.is rfl)⟩
end Go.Proofs.Ytclpgaoneoojiaa.P
