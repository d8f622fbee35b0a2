/- What a law does with a list that two calls answer: it marks the one, and finds the marks again behind the other. -/
import Derived.Test.YtbpdjlpfmhanlaaUmarkIntS
import Derived.Test.YtbpdjlpfmhanlaaUeqIntS
namespace Go.Proofs.Ytbpdjlpfmhanlaa.P
set_option linter.unusedVariables false
set_option linter.unusedSimpArgs false
open Go.RowKit Go.Proofs.YtbpdjlpfmhanlaaW.PrintWords Go.Proofs.YtbpdjlpfmhanlaaW.PrintLast
theorem mark_one (l : List Int) (hn : l.length ≤ 1152921504606846976) : Ev (fun k => laws_markIntS.f k l 1) (1 + (l.length : Int), upFrom 1 l.length) := markIntS_ev l 1 hn (by omega) (by omega)
theorem held_one (n : Nat) (hn : n ≤ 1152921504606846976) : Ev (fun k => laws_heldIntS.f k (upFrom 1 n) 1) (1 + (n : Int)) := heldIntS_ev n 1 hn (by omega) (by omega)
end Go.Proofs.Ytbpdjlpfmhanlaa.P
