/- A move modulo a prime number: both texts. -/
import Derived.Test.YthkmbkibceojlaaUall
import Derived.Test.YthkmbkibceojlaaUhas
import Derived.Test.YthkmbkibceojlaaUmarkov
import Derived.Test.YthkmbkibceojlaaGcloneInts
import Derived.Test.YthkmbkibceojlaaPFimplModMove
import Derived.Test.YthkmbkibceojlaaPFspecModMove
namespace Go.Proofs.Ythkmbkibceojlaa.P
set_option linter.unusedVariables false
set_option linter.unusedSimpArgs false
open Go.RowKit Go.Proofs.YthkmbkibceojlaaW.PrintWords Go.Proofs.YthkmbkibceojlaaW.PrintLast Go.Proofs.YthkmbkibceojlaaW.PrintMore
def smallPrime (p : Int) : Bool := ([2, 3, 5, 7, 11, 13] : List Int).any (· == p)
theorem mkPrime_ev (p : Int) : Ev (fun k => spec_mkPrime.f k p) (smallPrime p) := by
  unfold spec_mkPrime.f
  exact Ev.bind (l1Has_ev _ p (by simp)) (Ev.is rfl)
theorem isModulus_ev (p : Int) : Ev (fun k => impl_isModulus.f k p) (smallPrime p) := by
  by_cases h : 2 ≤ p ∧ p ≤ 13
  · have hc : p = 2 ∨ p = 3 ∨ p = 4 ∨ p = 5 ∨ p = 6 ∨ p = 7 ∨ p = 8 ∨ p = 9 ∨ p = 10 ∨ p = 11 ∨ p = 12 ∨ p = 13 := by omega
    rcases hc with rfl | rfl | rfl | rfl | rfl | rfl | rfl | rfl | rfl | rfl | rfl | rfl <;> exact Ev.of (fun k => impl_isModulus.mono _ k) (k := 20) (by decide +kernel)
  · have e1 : smallPrime p = false := by
      unfold smallPrime
      simp only [List.any_cons, List.any_nil, Bool.or_false, Bool.or_eq_false_iff, beq_eq_false_iff_ne]
      omega
    have e2 : impl_within.f p 2 13 = some false := by
      unfold impl_within.f
      by_cases h2 : p ≥ 2
      · rw [if_pos h2, decide_eq_false (by omega)]
      · rw [if_neg h2]
    rw [e1]
    unfold impl_isModulus.f
    refine Ev.bind0 e2 ?_
    simp only [Bool.false_eq_true, if_false]
    exact Ev.is rfl
theorem smallPrime_bd {p : Int} (h : smallPrime p = true) : 2 ≤ p ∧ p ≤ 13 := by
  unfold smallPrime at h
  simp only [List.any_cons, List.any_nil, Bool.or_false, Bool.or_eq_true, beq_iff_eq] at h
  omega
theorem isMod_is (p : Int) (hp : 2 ≤ p ∧ p ≤ 13) : ∀ l : List Int, impl_isMod.f p l = some (mkModB p l)
  | [] => rfl
  | [_] => rfl
  | [_, _] => rfl
  | _ :: _ :: _ :: _ :: l => by
    unfold impl_isMod.f
    rw [if_neg (by simp only [List.length_cons]; omega)]
    rfl
  | [x, y, z] => by
    have hl : (([x, y, z] : List Int).length : Int) = 3 := rfl
    have r0 : rd [x, y, z] 0 = x := rfl
    have r1 : rd [x, y, z] 1 = y := rfl
    have r2 : rd [x, y, z] 2 = z := rfl
    have hA : impl_allWithin.f [x, y, z] 0 (wrap64 (p - 1)) = some ([x, y, z].all (inB 0 (wrap64 (p - 1)))) := rfl
    have hZ : impl_allWithin.f [x, y, z] 0 0 = some ([x, y, z].all (inB 0 0)) := rfl
    have hp0 : ¬ p = 0 := by omega
    have he : mkModB p [x, y, z] = ([x, y, z].all (inB 0 (wrap64 (p - 1))) && (!(wrap64 (wrap64 (x + y) + z) == 0) && (Int.tmod (wrap64 ((wrap64 ((wrap64 ((wrap64 (x * x)) + (wrap64 (y * y)))) + (wrap64 (z * z)))) - (wrap64 ((wrap64 ((wrap64 (3 * x)) * y)) * z)))) p == 0))) := rfl
    have c1 : (0 : Int) < 3 := by decide
    have c2 : (1 : Int) < 3 := by decide
    have c3 : (2 : Int) < 3 := by decide
    rw [he]
    unfold impl_isMod.f
    rw [hA, hZ]
    simp only [hl, r0, r1, r2, c1, c2, c3, hp0, if_true, if_false, Option.bind_some]
    cases hc : [x, y, z].all (inB 0 (wrap64 (p - 1))) with
    | false => simp only [Bool.false_eq_true, if_false, Bool.false_and]
    | true =>
      have hw : wrap64 (p - 1) = p - 1 := w64 (by omega) (by omega)
      rw [hw] at hc
      have hb := three_all hc
      have hz : [x, y, z].all (inB 0 0) = (wrap64 (wrap64 (x + y) + z) == 0) := by
        rw [w64 (x := x + y) (by omega) (by omega), w64 (by omega) (by omega)]
        rw [Bool.eq_iff_iff]
        simp only [List.all_cons, List.all_nil, Bool.and_true, Bool.and_eq_true, inB, decide_eq_true_eq, beq_iff_eq]
        omega
      rw [hz]
      simp only [if_true, Bool.true_and]
      cases wrap64 (wrap64 (x + y) + z) == 0 with
      | true => simp only [if_true, Bool.not_true, Bool.false_and]
      | false => simp only [Bool.false_eq_true, if_false, Bool.not_false, Bool.true_and]
theorem mkMod_three {p : Int} {l : List Int} (h : mkModB p l = true) : l.length = 3 := by
  match l, h with
  | [_, _, _], _ => rfl
theorem own_three (l : List Int) (h : l.length ≤ 3) : spec_l1Own.f l = some l ∧ slices_Clone_int_int.f l = some l := by
  have h2 : l.length < 17592186044416 := by omega
  constructor
  · unfold spec_l1Own.f
    simp [h2]
  · unfold slices_Clone_int_int.f
    rw [if_pos h2]
theorem modMoved_same (p : Int) (l : List Int) (i : Int) (h : l.length = 3) : impl_modMoved.f p l i = spec_mkModMove.f p l i := by
  unfold impl_modMoved.f spec_mkModMove.f
  rw [(own_three l (by omega)).1, (own_three l (by omega)).2]
/-- The move at an index: three numbers again. -/
theorem modMoved_some (p : Int) (hp : 2 ≤ p) (l : List Int) (i : Int) (hi : 0 ≤ i ∧ i ≤ 2) (h : l.length = 3) : ∃ u : List Int, u.length = 3 ∧ spec_mkModMove.f p l i = some u := by
  have hl : (l.length : Int) = 3 := by omega
  have hp0 : ¬ p = 0 := by omega
  have c3 : i < 3 := by omega
  have w1 : wrap64 (i + 1) = i + 1 := w64 (by omega) (by omega)
  have w2 : wrap64 (i + 2) = i + 2 := w64 (by omega) (by omega)
  have m1 : Int.tmod (i + 1) 3 = (i + 1) % 3 := Int.tmod_eq_emod_of_nonneg (by omega)
  have m2 : Int.tmod (i + 2) 3 = (i + 2) % 3 := Int.tmod_eq_emod_of_nonneg (by omega)
  have d1 : 0 ≤ (i + 1) % 3 := by omega
  have d2 : (i + 1) % 3 < 3 := by omega
  have d3 : 0 ≤ (i + 2) % 3 := by omega
  have d4 : (i + 2) % 3 < 3 := by omega
  unfold spec_mkModMove.f
  rw [(own_three l (by omega)).1]
  simp only [Option.bind_some, hl, w1, w2, m1, m2, d1, d2, d3, d4, hi.1, c3, hp0, if_true, if_false]
  exact ⟨_, by rw [List.length_set]; exact h, rfl⟩
theorem ModMove_both (p : Int) (l : List Int) (i : Int) (hn : l.length ≤ 4611686018427387904) (hi : -9223372036854775808 ≤ i ∧ i ≤ 9223372036854775807) : ∃ r : List Int × Bool, r.1.length ≤ 3 ∧ Ev (fun k => spec_ModMove.f k p l i) r ∧ Ev (fun k => impl_ModMove.f k p l i) r := by
  unfold spec_ModMove.f impl_ModMove.f
  have e1 := mkPrime_ev p
  have e2 := isModulus_ev p
  have noS : ∀ g : Nat → Bool → Option (List Int × Bool), True := fun _ => trivial
  cases hp : smallPrime p with
  | false =>
    rw [hp] at e1 e2
    refine ⟨([], false), by simp, Ev.bind e1 ?_, Ev.bind e2 ?_⟩ <;> (simp only [Bool.false_eq_true, if_false]; exact Ev.is rfl)
  | true =>
    rw [hp] at e1 e2
    have hb := smallPrime_bd hp
    have hm := isMod_is p hb l
    have hs : spec_mkMod.f p l = some (mkModB p l) := rfl
    rw [hm, hs]
    cases hM : mkModB p l with
    | false =>
      refine ⟨([], false), by simp, Ev.bind e1 ?_, Ev.bind e2 ?_⟩ <;> (simp only [if_true, Option.bind_some, Bool.false_eq_true, if_false]; exact Ev.is rfl)
    | true =>
      have h3 := mkMod_three hM
      have hI : impl_within.f i 0 2 = some (inB 0 2 i) := by
        unfold impl_within.f inB
        by_cases h : 0 ≤ i <;> simp [h]
      rw [l1In_inB, hI, modMoved_same p l i h3]
      cases hi2 : inB 0 2 i with
      | false =>
        refine ⟨([], false), by simp, Ev.bind e1 ?_, Ev.bind e2 ?_⟩ <;> (simp only [if_true, Option.bind_some, Bool.false_eq_true, if_false]; exact Ev.is rfl)
      | true =>
        have hi3 : 0 ≤ i ∧ i ≤ 2 := by simpa [inB] using hi2
        obtain ⟨u, hu, hm⟩ := modMoved_some p hb.1 l i hi3 h3
        refine ⟨(u, true), by simp [hu], Ev.bind e1 ?_, Ev.bind e2 ?_⟩ <;> (simp only [if_true, Option.bind_some, hm]; exact Ev.is rfl)
end Go.Proofs.Ythkmbkibceojlaa.P
