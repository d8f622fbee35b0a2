/- A law's tests on a list that two calls answer: the marks of the one, found again behind the other. -/
import Derived.Test.YthkmbkibceojlaaUmarkIntS
import Derived.Test.YthkmbkibceojlaaUeqIntS
namespace Go.Proofs.Ythkmbkibceojlaa.P
set_option linter.unusedVariables false
set_option linter.unusedSimpArgs false
open Go.RowKit Go.Proofs.YthkmbkibceojlaaW.PrintWords Go.Proofs.YthkmbkibceojlaaW.PrintLast
/-- mark, held, then what follows (with the marked list and the next mark). -/
theorem held_then {α : Type} (l : List Int) (no r : α) (f : Nat → Int × List Int → Option α) (hn : l.length ≤ 1000000) (h : Ev (fun k => f k (1 + (l.length : Int), upFrom 1 l.length)) r) :
    Ev (fun k => (laws_markIntS.f k l 1).bind fun bt => (laws_heldIntS.f k bt.2 1).bind fun t => if t < 0 then some no else if t = bt.1 then f k bt else some no) r := by
  refine Ev.bind (markIntS_ev l 1 (by omega) (by omega) (by omega)) (Ev.bind (heldIntS_ev _ 1 (by omega) (by omega) (by omega)) ?_)
  have h1 : ¬ (1 + (l.length : Int) < 0) := by omega
  simp only [h1, if_false, if_true]
  exact h
theorem held_last (n : Nat) (hn : n ≤ 1000000) : Ev (fun k => (laws_heldIntS.f k (upFrom 1 n) 1).bind fun t => if t < 0 then some false else if t = 1 + (n : Int) then some true else some false) true := by
  refine Ev.bind (heldIntS_ev _ 1 (by omega) (by omega) (by omega)) ?_
  have h1 : ¬ (1 + (n : Int) < 0) := by omega
  simp only [h1, if_false, if_true]
  exact Ev.is rfl
end Go.Proofs.Ythkmbkibceojlaa.P
