/- RootOf: the program and the reference. -/
import Derived.Test.YtclpgaoneoojiaaUroot
import Derived.Test.YtclpgaoneoojiaaPFspecRootOf
import Derived.Test.YtclpgaoneoojiaaPFimplRootOf
namespace Go.Proofs.Ytclpgaoneoojiaa.P
set_option linter.unusedVariables false
set_option linter.unusedSimpArgs false
open Go.RowKit Go.Proofs.YtclpgaoneoojiaaW.PrintWords Go.Proofs.YtclpgaoneoojiaaW.PrintLast
/-- Both answer the root, or fail. -/
theorem RootOf_both (n : Int) : ∃ r : Int × Bool, Ev (fun k => spec_RootOf.f k n) r ∧ Ev (fun k => impl_RootOf.f k n) r ∧ (r.2 = true → IsRoot n r.1) := by
  unfold spec_RootOf.f impl_RootOf.f spec_l1In.f impl_within.f
  by_cases h0 : n ≥ 0
  · by_cases h1 : n ≤ 1000000000000000000
    · obtain ⟨r, hr, hR⟩ := foRoot_ev n h0 h1
      obtain ⟨s, hs, hS⟩ := root_ev n h0 h1
      obtain rfl := hR.one hS
      simp only [h0, if_true, decide_eq_true h1, Option.bind_some]
      exact ⟨(r, true), Ev.bind hr (Ev.is rfl), Ev.bind hs (Ev.is rfl), fun _ => hR⟩
    · simp only [h0, if_true, decide_eq_false h1, Option.bind_some]
      exact ⟨(0, false), Ev.is rfl, Ev.is rfl, fun h => by cases h⟩
  · simp only [h0, if_false, Option.bind_some]
    exact ⟨(0, false), Ev.is rfl, Ev.is rfl, fun h => by cases h⟩
end Go.Proofs.Ytclpgaoneoojiaa.P
