/-
  No cell of these rows narrows 'for every input' (looked for: loops, veiled, ifaces, maps, wideKeys, modest, calm, conditions, laid).
  DERIVED. THE GIVEN ROWS OF THIS SEAT. 5 by the template 'for every input the law returns true; each argument reads behind the call as it read before'; 0 by the template 'total and deterministic' (their statements: YtkdgpbcecnmdhaaTotals.lean).
  GIVEN WITH THE SEED: the statements are not yours to turn. If you find one false, say at which input.
  Laid BY PROGRAM, IN A SANDBOX (cutbox-rows.mjs): the forced cells as the released guide's own fill.sh prints them over the translation 806f4e0d910c2dee… (all of the seat's roots in one cut). By AI agents, Wed Nov 11 2026. No macro, syntax, notation, axiom, sorry.
-/
import Derived.Test.YtkdgpbcecnmdhaaChecked
import GoSem.Claim
import GoSem.ClaimJoined
import GoSem.ClaimMapViews
import Derived.JoinedTies
import Derived.KernelRfl
namespace Go.Proofs.Ytkdgpbcecnmdhaa
/- THE CELL 'sum', in the pinned program and in every row, IS THE sha256 OF THE DUMP (.gsa) THAT YtkdgpbcecnmdhaaProg.lean LOADS. Nothing in Lean hashes anything: it is a label: what it is worth is what the hold of that sum in a sandbox is worth. -/
noncomputable def Try.pinned : Pinned := { name := "ytkdgpbcecnmdhaa", sum := "806f4e0d910c2dee2d5c44a19700e72a00980580a3240998aa29ae4e7e9efe9c", checked := Try.checked }
namespace Rows
def none {H : Type} : Left H := { results := [], args := [] }

/-- 'laws.FnExactIsMarkovNumber': WHATEVER THE INPUT: true; the input reads as it did. -/
def fnExactIsMarkovNumberSpec : ChangeSpec := { name := "fnExactIsMarkovNumber", fn := fun _ => fun
  | [d] => { results := [.lit (.bool true)], args := [d] }
  | _ => none }
def fnExactIsMarkovNumberRow : OpenClaim := { program := "ytkdgpbcecnmdhaa", sum := "806f4e0d910c2dee2d5c44a19700e72a00980580a3240998aa29ae4e7e9efe9c", func := "loop.example/g01122/laws.FnExactIsMarkovNumber", spec := "fnExactIsMarkovNumber", unfollowed := true, recurses := true, apart := false }
def FnExactIsMarkovNumberSaid : Prop := fnExactIsMarkovNumberRow.holds Try.pinned (OpenSpec.ofChange fnExactIsMarkovNumberSpec)

/-- ITS FALSE NEIGHBOUR: 'it returns false'. Refute it at one input. -/
def fnExactIsMarkovNumberWrong : ChangeSpec := { name := "fnExactIsMarkovNumber", fn := fun _ => fun
  | [d] => { results := [.lit (.bool false)], args := [d] }
  | _ => none }
def FnExactIsMarkovNumberWrongFalsely : Prop := fnExactIsMarkovNumberRow.holds Try.pinned (OpenSpec.ofChange fnExactIsMarkovNumberWrong)

/-- 'laws.FnExactMarkovUpTo': WHATEVER THE INPUT: true; the input reads as it did. -/
def fnExactMarkovUpToSpec : ChangeSpec := { name := "fnExactMarkovUpTo", fn := fun _ => fun
  | [d] => { results := [.lit (.bool true)], args := [d] }
  | _ => none }
def fnExactMarkovUpToRow : OpenClaim := { program := "ytkdgpbcecnmdhaa", sum := "806f4e0d910c2dee2d5c44a19700e72a00980580a3240998aa29ae4e7e9efe9c", func := "loop.example/g01122/laws.FnExactMarkovUpTo", spec := "fnExactMarkovUpTo", unfollowed := true, recurses := true, apart := false }
def FnExactMarkovUpToSaid : Prop := fnExactMarkovUpToRow.holds Try.pinned (OpenSpec.ofChange fnExactMarkovUpToSpec)

/-- ITS FALSE NEIGHBOUR: 'it returns false'. Refute it at one input. -/
def fnExactMarkovUpToWrong : ChangeSpec := { name := "fnExactMarkovUpTo", fn := fun _ => fun
  | [d] => { results := [.lit (.bool false)], args := [d] }
  | _ => none }
def FnExactMarkovUpToWrongFalsely : Prop := fnExactMarkovUpToRow.holds Try.pinned (OpenSpec.ofChange fnExactMarkovUpToWrong)

/-- 'laws.FnExactMarkovNumbersUpTo': WHATEVER THE INPUT: true; the input reads as it did. -/
def fnExactMarkovNumbersUpToSpec : ChangeSpec := { name := "fnExactMarkovNumbersUpTo", fn := fun _ => fun
  | [d] => { results := [.lit (.bool true)], args := [d] }
  | _ => none }
def fnExactMarkovNumbersUpToRow : OpenClaim := { program := "ytkdgpbcecnmdhaa", sum := "806f4e0d910c2dee2d5c44a19700e72a00980580a3240998aa29ae4e7e9efe9c", func := "loop.example/g01122/laws.FnExactMarkovNumbersUpTo", spec := "fnExactMarkovNumbersUpTo", unfollowed := true, recurses := true, apart := false }
def FnExactMarkovNumbersUpToSaid : Prop := fnExactMarkovNumbersUpToRow.holds Try.pinned (OpenSpec.ofChange fnExactMarkovNumbersUpToSpec)

/-- ITS FALSE NEIGHBOUR: 'it returns false'. Refute it at one input. -/
def fnExactMarkovNumbersUpToWrong : ChangeSpec := { name := "fnExactMarkovNumbersUpTo", fn := fun _ => fun
  | [d] => { results := [.lit (.bool false)], args := [d] }
  | _ => none }
def FnExactMarkovNumbersUpToWrongFalsely : Prop := fnExactMarkovNumbersUpToRow.holds Try.pinned (OpenSpec.ofChange fnExactMarkovNumbersUpToWrong)

/-- 'laws.FnExactTriplesWith': WHATEVER THE INPUT: true; the input reads as it did. -/
def fnExactTriplesWithSpec : ChangeSpec := { name := "fnExactTriplesWith", fn := fun _ => fun
  | [d] => { results := [.lit (.bool true)], args := [d] }
  | _ => none }
def fnExactTriplesWithRow : OpenClaim := { program := "ytkdgpbcecnmdhaa", sum := "806f4e0d910c2dee2d5c44a19700e72a00980580a3240998aa29ae4e7e9efe9c", func := "loop.example/g01122/laws.FnExactTriplesWith", spec := "fnExactTriplesWith", unfollowed := true, recurses := true, apart := false }
def FnExactTriplesWithSaid : Prop := fnExactTriplesWithRow.holds Try.pinned (OpenSpec.ofChange fnExactTriplesWithSpec)

/-- ITS FALSE NEIGHBOUR: 'it returns false'. Refute it at one input. -/
def fnExactTriplesWithWrong : ChangeSpec := { name := "fnExactTriplesWith", fn := fun _ => fun
  | [d] => { results := [.lit (.bool false)], args := [d] }
  | _ => none }
def FnExactTriplesWithWrongFalsely : Prop := fnExactTriplesWithRow.holds Try.pinned (OpenSpec.ofChange fnExactTriplesWithWrong)

/-- 'laws.FnMarkovLists': WHATEVER THE INPUT: true; the input reads as it did. -/
def fnMarkovListsSpec : ChangeSpec := { name := "fnMarkovLists", fn := fun _ => fun
  | [d1, d2] => { results := [.lit (.bool true)], args := [d1, d2] }
  | _ => none }
def fnMarkovListsRow : OpenClaim := { program := "ytkdgpbcecnmdhaa", sum := "806f4e0d910c2dee2d5c44a19700e72a00980580a3240998aa29ae4e7e9efe9c", func := "loop.example/g01122/laws.FnMarkovLists", spec := "fnMarkovLists", unfollowed := true, recurses := true, apart := false }
def FnMarkovListsSaid : Prop := fnMarkovListsRow.holds Try.pinned (OpenSpec.ofChange fnMarkovListsSpec)

/-- ITS FALSE NEIGHBOUR: 'it returns false'. Refute it at one input. -/
def fnMarkovListsWrong : ChangeSpec := { name := "fnMarkovLists", fn := fun _ => fun
  | [d1, d2] => { results := [.lit (.bool false)], args := [d1, d2] }
  | _ => none }
def FnMarkovListsWrongFalsely : Prop := fnMarkovListsRow.holds Try.pinned (OpenSpec.ofChange fnMarkovListsWrong)

/- THE SECOND FORM. 'bulk': how many values and letters a reading holds, each counted each time it is reached (what is shared counts as often as it is met; a slice's spare places count too). A statement '..UptoSaid' is the law's where the arguments, and the package variables that the reading takes, are together of bulk at most 1048576: NARROWER than '..Said'. Prove '..Said' where nothing that the law and all that it calls make is longer than what came in: it says more and counts as full. Else prove '..UptoSaid'. A law counts once. -/
mutual
def uptoBulk {H : Type} : DataW H → Nat
  | .lit (.string bytes) => bytes.length + 1
  | .lit _ => 1
  | .nil => 1
  | .ptr d => uptoBulk d + 1
  | .slice elems spare => uptoBulkAll elems + uptoBulkAll spare + 1
  | .agg parts => uptoBulkAll parts + 1
  | .iface _ d => uptoBulk d + 1
  | .map entries => uptoBulkEntries entries + 1
  | .held _ => 1
def uptoBulkAll {H : Type} : List (DataW H) → Nat
  | [] => 0
  | d :: r => uptoBulk d + uptoBulkAll r
def uptoBulkEntries {H : Type} : List (Lit × DataW H) → Nat
  | [] => 0
  | x :: r => uptoBulkEntry x + uptoBulkEntries r
def uptoBulkEntry {H : Type} : Lit × DataW H → Nat
  | (.string bytes, d) => bytes.length + uptoBulk d + 1
  | (_, d) => uptoBulk d + 1
 end
def uptoSmall : (H : Type) → List (DataW H) → Bool := fun _ ds => decide (uptoBulkAll ds ≤ 1048576)
def OpenSpec.upto (s : _root_.Go.ChangeSpec) : _root_.Go.OpenSpec := { _root_.Go.OpenSpec.ofChange s with cond := some uptoSmall }

/-- 'laws.FnExactIsMarkovNumber', WHERE WHAT IT READS IS OF BULK AT MOST 1048576: true; the input reads as it did. -/
def fnExactIsMarkovNumberUptoRow : OpenClaim := { program := "ytkdgpbcecnmdhaa", sum := "806f4e0d910c2dee2d5c44a19700e72a00980580a3240998aa29ae4e7e9efe9c", func := "loop.example/g01122/laws.FnExactIsMarkovNumber", spec := "fnExactIsMarkovNumber", unfollowed := true, recurses := true, apart := false, narrowed := true }
def FnExactIsMarkovNumberUptoSaid : Prop := fnExactIsMarkovNumberUptoRow.holds Try.pinned (OpenSpec.upto fnExactIsMarkovNumberSpec)

/-- 'laws.FnExactMarkovUpTo', WHERE WHAT IT READS IS OF BULK AT MOST 1048576: true; the input reads as it did. -/
def fnExactMarkovUpToUptoRow : OpenClaim := { program := "ytkdgpbcecnmdhaa", sum := "806f4e0d910c2dee2d5c44a19700e72a00980580a3240998aa29ae4e7e9efe9c", func := "loop.example/g01122/laws.FnExactMarkovUpTo", spec := "fnExactMarkovUpTo", unfollowed := true, recurses := true, apart := false, narrowed := true }
def FnExactMarkovUpToUptoSaid : Prop := fnExactMarkovUpToUptoRow.holds Try.pinned (OpenSpec.upto fnExactMarkovUpToSpec)

/-- 'laws.FnExactMarkovNumbersUpTo', WHERE WHAT IT READS IS OF BULK AT MOST 1048576: true; the input reads as it did. -/
def fnExactMarkovNumbersUpToUptoRow : OpenClaim := { program := "ytkdgpbcecnmdhaa", sum := "806f4e0d910c2dee2d5c44a19700e72a00980580a3240998aa29ae4e7e9efe9c", func := "loop.example/g01122/laws.FnExactMarkovNumbersUpTo", spec := "fnExactMarkovNumbersUpTo", unfollowed := true, recurses := true, apart := false, narrowed := true }
def FnExactMarkovNumbersUpToUptoSaid : Prop := fnExactMarkovNumbersUpToUptoRow.holds Try.pinned (OpenSpec.upto fnExactMarkovNumbersUpToSpec)

/-- 'laws.FnExactTriplesWith', WHERE WHAT IT READS IS OF BULK AT MOST 1048576: true; the input reads as it did. -/
def fnExactTriplesWithUptoRow : OpenClaim := { program := "ytkdgpbcecnmdhaa", sum := "806f4e0d910c2dee2d5c44a19700e72a00980580a3240998aa29ae4e7e9efe9c", func := "loop.example/g01122/laws.FnExactTriplesWith", spec := "fnExactTriplesWith", unfollowed := true, recurses := true, apart := false, narrowed := true }
def FnExactTriplesWithUptoSaid : Prop := fnExactTriplesWithUptoRow.holds Try.pinned (OpenSpec.upto fnExactTriplesWithSpec)

/-- 'laws.FnMarkovLists', WHERE WHAT IT READS IS OF BULK AT MOST 1048576: true; the input reads as it did. -/
def fnMarkovListsUptoRow : OpenClaim := { program := "ytkdgpbcecnmdhaa", sum := "806f4e0d910c2dee2d5c44a19700e72a00980580a3240998aa29ae4e7e9efe9c", func := "loop.example/g01122/laws.FnMarkovLists", spec := "fnMarkovLists", unfollowed := true, recurses := true, apart := false, narrowed := true }
def FnMarkovListsUptoSaid : Prop := fnMarkovListsUptoRow.holds Try.pinned (OpenSpec.upto fnMarkovListsSpec)

end Rows
end Go.Proofs.Ytkdgpbcecnmdhaa
