-- GIVEN slices.Clone[[]int,int] making
/- The contract of slices.Clone at ints, in the printer's form, out of the library's. -/
import Derived.Test.YthkmbkibceojlaaUscalar
import Derived.Test.YthkmbkibceojlaaLib
namespace Go.Proofs.Ythkmbkibceojlaa.P
open Go.RowKit Go.Proofs.YthkmbkibceojlaaW.PrintWords Go.Proofs.YthkmbkibceojlaaW.PrintLast
set_option linter.unusedVariables false
set_option linter.unusedSimpArgs false

def slices_Clone_int_int.f (l0 : List Int) : Option (List Int) := if l0.length < 17592186044416 then some l0 else none
theorem slices_Clone_int_int.calls (A0 : Option Addr) (c0 : Nat) (l0 : List Int) (r : List Int) (w : World) (hr0 : Kd.C (Kd.int .i64) w A0 l0.length l0) (hc0 : l0.length ≤ c0) (h : slices_Clone_int_int.f l0 = some r) :
  Calls Try.prog 75 #[.slice A0 l0.length c0] w fun e w' => ∃ v0_ : Value, e = .returned (v0_) ∧ Kd.R (Kd.int .i64) 3 w' w.heap.size (fun _ => True) v0_ r ∧ Below w.heap.size w w' := by
  have hr : l0 = r ∧ l0.length < 17592186044416 := by
    unfold slices_Clone_int_int.f at h
    split at h
    · exact ⟨by simpa using h, by assumption⟩
    · simp at h
  obtain ⟨rfl, hlen⟩ := hr
  cases A0 with
  | none =>
    have h0 : l0 = [] := by
      rcases Nat.eq_zero_or_pos l0.length with h1 | h1
      · exact List.eq_nil_of_length_eq_zero h1
      · obtain ⟨ad, h2, _⟩ := hr0.2.2 h1
        simp at h2
    subst h0
    refine (Go.Proofs.Try.slices_Clone_int_nil 0 c0 w).mono ?_
    rintro e w' ⟨rfl, rfl⟩
    exact ⟨_, rfl, Kd.R_nil _ _ _ _ _, Below.refl _ _⟩
  | some a =>
    by_cases h0 : l0.length = 0
    · have h1 : l0 = [] := List.eq_nil_of_length_eq_zero h0
      subst h1
      refine (Go.Proofs.Try.slices_Clone_int_zero a c0 w).mono ?_
      rintro e w' ⟨v', rfl, hown, _, hb⟩
      exact ⟨v', rfl, scalar_R.2 ⟨fun _ _ => trivial, hown⟩, hb⟩
    · obtain ⟨ad, he, hc⟩ := hr0.2.2 (by omega)
      injection he with he
      subst he
      have hcell : ∀ j, j < l0.length → w.cell? (a.add j) = some (.int .i64 (l0.getD j 0)) := fun j hj => by
        obtain ⟨c, hcl, hp, hcell⟩ := hc j l0[j] (List.getElem?_eq_getElem hj)
        have hc1 : c = [Value.int .i64 l0[j]] := hp
        subst hc1
        have h2 := hcell 0 _ rfl
        rw [Nat.add_zero, show j * (Kd.int .i64).sz = j from Nat.mul_one j] at h2
        rw [h2]
        simp [List.getD_eq_getElem?_getD, hj]
      obtain ⟨b, off, spot⟩ := a
      have hspot : spot = none := by
        have h2 := hcell 0 (by omega)
        cases spot with
        | none => rfl
        | some k =>
          simp only [Addr.add, if_true, World.cell?] at h2
          split at h2 <;> simp at h2
      subst hspot
      refine (Go.Proofs.Try.slices_Clone_int b off l0.length c0 l0 w (Nat.le_refl _) (by omega) (fun j hj => ?_)).mono ?_
      · rw [← hcell j hj]
        congr 1
        by_cases h1 : j = 0
        · subst h1
          simp [Addr.add]
        · simp [Addr.add, h1]
      · rintro e w' ⟨v', rfl, hown, _, hb⟩
        exact ⟨v', rfl, scalar_R.2 ⟨fun _ _ => trivial, by rw [List.take_length] at hown; exact hown⟩, hb⟩
end Go.Proofs.Ythkmbkibceojlaa.P
