-- GIVEN strings.Count
/- The contract of strings.Count at a text of one byte, in the printer's form, out of the library's. -/
import Derived.Test.YtkphmbcoefkilaaP0
import Derived.Test.YtkphmbcoefkilaaLib
namespace Go.Proofs.Ytkphmbcoefkilaa.P
open Go.RowKit Go.Proofs.YtkphmbcoefkilaaW.PrintWords Go.Proofs.YtkphmbcoefkilaaW.PrintLast
set_option linter.unusedVariables false
set_option linter.unusedSimpArgs false

def strings_Count.f (a0 a1 : ByteArray) : Option Int := match a1.data.toList with
  | [c] => some ((Go.Lib.countByte a0.data.toList c : Nat) : Int)
  | _ => none
theorem strings_Count.calls (a0 : ByteArray) (a1 : ByteArray) (r : Int) (w : World) (h : strings_Count.f a0 a1 = some r) :
  Calls Try.prog 52 #[.string a0, .string a1] w fun e w' => e = .returned (.int .i64 r) ∧ Drawn0 w w' := by
  unfold strings_Count.f at h
  split at h
  · rename_i c hc
    have h1 : a1 = ⟨#[c]⟩ := by
      obtain ⟨d⟩ := a1
      congr 1
      apply Array.ext'
      simpa using hc
    subst h1
    refine (Go.Proofs.Try.strings_Count_one a0 c w).mono ?_
    rintro e w' ⟨rfl, rfl⟩
    injection h with h
    subst h
    exact ⟨rfl, Drawn0.refl _⟩
  · simp at h
end Go.Proofs.Ytkphmbcoefkilaa.P
