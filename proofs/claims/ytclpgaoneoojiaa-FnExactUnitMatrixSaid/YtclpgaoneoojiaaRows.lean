/-
  No cell of these rows narrows 'for every input' (looked for: loops, veiled, ifaces, maps, wideKeys, modest, calm, conditions, laid).
  DERIVED. THE GIVEN ROWS OF THIS SEAT. 4 by the template 'for every input the law returns true; each argument reads behind the call as it read before'; 0 by the template 'total and deterministic' (their statements: YtclpgaoneoojiaaTotals.lean).
  GIVEN WITH THE SEED: the statements are not yours to turn. If you find one false, say at which input.
  Laid BY PROGRAM, IN A SANDBOX (cutbox-rows.mjs): the forced cells as the released guide's own fill.sh prints them over the translation 8f22332d83cf4987… (all of the seat's roots in one cut). By AI agents, Wed Nov 11 2026. No macro, syntax, notation, axiom, sorry.
-/
import Derived.Test.YtclpgaoneoojiaaChecked
import GoSem.Claim
import GoSem.ClaimJoined
import GoSem.ClaimMapViews
import Derived.JoinedTies
import Derived.KernelRfl
namespace Go.Proofs.Ytclpgaoneoojiaa
/- THE CELL 'sum', in the pinned program and in every row, IS THE sha256 OF THE DUMP (.gsa) THAT YtclpgaoneoojiaaProg.lean LOADS. Nothing in Lean hashes anything: it is a label: what it is worth is what the hold of that sum in a sandbox is worth. -/
noncomputable def Try.pinned : Pinned := { name := "ytclpgaoneoojiaa", sum := "8f22332d83cf49878d699b84916e5184c05d44d52169c685d61b7119bf36b76b", checked := Try.checked }
namespace Rows
def none {H : Type} : Left H := { results := [], args := [] }

/-- 'laws.FnExactUnitMatrix': WHATEVER THE INPUT: true; the input reads as it did. -/
def fnExactUnitMatrixSpec : ChangeSpec := { name := "fnExactUnitMatrix", fn := fun _ => fun
  | [d] => { results := [.lit (.bool true)], args := [d] }
  | _ => none }
def fnExactUnitMatrixRow : OpenClaim := { program := "ytclpgaoneoojiaa", sum := "8f22332d83cf49878d699b84916e5184c05d44d52169c685d61b7119bf36b76b", func := "loop.example/g01122/laws.FnExactUnitMatrix", spec := "fnExactUnitMatrix", unfollowed := true, recurses := true, apart := false }
def FnExactUnitMatrixSaid : Prop := fnExactUnitMatrixRow.holds Try.pinned (OpenSpec.ofChange fnExactUnitMatrixSpec)

/-- ITS FALSE NEIGHBOUR: 'it returns false'. Refute it at one input. -/
def fnExactUnitMatrixWrong : ChangeSpec := { name := "fnExactUnitMatrix", fn := fun _ => fun
  | [d] => { results := [.lit (.bool false)], args := [d] }
  | _ => none }
def FnExactUnitMatrixWrongFalsely : Prop := fnExactUnitMatrixRow.holds Try.pinned (OpenSpec.ofChange fnExactUnitMatrixWrong)

/-- 'laws.FnRootsAndDivisors': WHATEVER THE INPUT: true; the input reads as it did. -/
def fnRootsAndDivisorsSpec : ChangeSpec := { name := "fnRootsAndDivisors", fn := fun _ => fun
  | [d1, d2] => { results := [.lit (.bool true)], args := [d1, d2] }
  | _ => none }
def fnRootsAndDivisorsRow : OpenClaim := { program := "ytclpgaoneoojiaa", sum := "8f22332d83cf49878d699b84916e5184c05d44d52169c685d61b7119bf36b76b", func := "loop.example/g01122/laws.FnRootsAndDivisors", spec := "fnRootsAndDivisors", unfollowed := true, recurses := true, apart := false }
def FnRootsAndDivisorsSaid : Prop := fnRootsAndDivisorsRow.holds Try.pinned (OpenSpec.ofChange fnRootsAndDivisorsSpec)

/-- ITS FALSE NEIGHBOUR: 'it returns false'. Refute it at one input. -/
def fnRootsAndDivisorsWrong : ChangeSpec := { name := "fnRootsAndDivisors", fn := fun _ => fun
  | [d1, d2] => { results := [.lit (.bool false)], args := [d1, d2] }
  | _ => none }
def FnRootsAndDivisorsWrongFalsely : Prop := fnRootsAndDivisorsRow.holds Try.pinned (OpenSpec.ofChange fnRootsAndDivisorsWrong)

/-- 'laws.FnExactBergMatrix': WHATEVER THE INPUT: true; the input reads as it did. -/
def fnExactBergMatrixSpec : ChangeSpec := { name := "fnExactBergMatrix", fn := fun _ => fun
  | [d] => { results := [.lit (.bool true)], args := [d] }
  | _ => none }
def fnExactBergMatrixRow : OpenClaim := { program := "ytclpgaoneoojiaa", sum := "8f22332d83cf49878d699b84916e5184c05d44d52169c685d61b7119bf36b76b", func := "loop.example/g01122/laws.FnExactBergMatrix", spec := "fnExactBergMatrix", apart := false }
def FnExactBergMatrixSaid : Prop := fnExactBergMatrixRow.holds Try.pinned (OpenSpec.ofChange fnExactBergMatrixSpec)

/-- ITS FALSE NEIGHBOUR: 'it returns false'. Refute it at one input. -/
def fnExactBergMatrixWrong : ChangeSpec := { name := "fnExactBergMatrix", fn := fun _ => fun
  | [d] => { results := [.lit (.bool false)], args := [d] }
  | _ => none }
def FnExactBergMatrixWrongFalsely : Prop := fnExactBergMatrixRow.holds Try.pinned (OpenSpec.ofChange fnExactBergMatrixWrong)

/-- 'laws.FnExactPriceMatrix': WHATEVER THE INPUT: true; the input reads as it did. -/
def fnExactPriceMatrixSpec : ChangeSpec := { name := "fnExactPriceMatrix", fn := fun _ => fun
  | [d] => { results := [.lit (.bool true)], args := [d] }
  | _ => none }
def fnExactPriceMatrixRow : OpenClaim := { program := "ytclpgaoneoojiaa", sum := "8f22332d83cf49878d699b84916e5184c05d44d52169c685d61b7119bf36b76b", func := "loop.example/g01122/laws.FnExactPriceMatrix", spec := "fnExactPriceMatrix", apart := false }
def FnExactPriceMatrixSaid : Prop := fnExactPriceMatrixRow.holds Try.pinned (OpenSpec.ofChange fnExactPriceMatrixSpec)

/-- ITS FALSE NEIGHBOUR: 'it returns false'. Refute it at one input. -/
def fnExactPriceMatrixWrong : ChangeSpec := { name := "fnExactPriceMatrix", fn := fun _ => fun
  | [d] => { results := [.lit (.bool false)], args := [d] }
  | _ => none }
def FnExactPriceMatrixWrongFalsely : Prop := fnExactPriceMatrixRow.holds Try.pinned (OpenSpec.ofChange fnExactPriceMatrixWrong)

/- THE SECOND FORM. 'bulk': how many values and letters a reading holds, each counted each time it is reached (what is shared counts as often as it is met; a slice's spare places count too). A statement '..UptoSaid' is the law's where the arguments, and the package variables that the reading takes, are together of bulk at most 1048576: NARROWER than '..Said'. Prove '..Said' where nothing that the law and all that it calls make is longer than what came in: it says more and counts as full. Else prove '..UptoSaid'. A law counts once. -/
mutual
def uptoBulk {H : Type} : DataW H → Nat
  | .lit (.string bytes) => bytes.length + 1
  | .lit _ => 1
  | .nil => 1
  | .ptr d => uptoBulk d + 1
  | .slice elems spare => uptoBulkAll elems + uptoBulkAll spare + 1
  | .agg parts => uptoBulkAll parts + 1
  | .iface _ d => uptoBulk d + 1
  | .map entries => uptoBulkEntries entries + 1
  | .held _ => 1
def uptoBulkAll {H : Type} : List (DataW H) → Nat
  | [] => 0
  | d :: r => uptoBulk d + uptoBulkAll r
def uptoBulkEntries {H : Type} : List (Lit × DataW H) → Nat
  | [] => 0
  | x :: r => uptoBulkEntry x + uptoBulkEntries r
def uptoBulkEntry {H : Type} : Lit × DataW H → Nat
  | (.string bytes, d) => bytes.length + uptoBulk d + 1
  | (_, d) => uptoBulk d + 1
 end
def uptoSmall : (H : Type) → List (DataW H) → Bool := fun _ ds => decide (uptoBulkAll ds ≤ 1048576)
def OpenSpec.upto (s : _root_.Go.ChangeSpec) : _root_.Go.OpenSpec := { _root_.Go.OpenSpec.ofChange s with cond := some uptoSmall }

/-- 'laws.FnExactUnitMatrix', WHERE WHAT IT READS IS OF BULK AT MOST 1048576: true; the input reads as it did. -/
def fnExactUnitMatrixUptoRow : OpenClaim := { program := "ytclpgaoneoojiaa", sum := "8f22332d83cf49878d699b84916e5184c05d44d52169c685d61b7119bf36b76b", func := "loop.example/g01122/laws.FnExactUnitMatrix", spec := "fnExactUnitMatrix", unfollowed := true, recurses := true, apart := false, narrowed := true }
def FnExactUnitMatrixUptoSaid : Prop := fnExactUnitMatrixUptoRow.holds Try.pinned (OpenSpec.upto fnExactUnitMatrixSpec)

/-- 'laws.FnRootsAndDivisors', WHERE WHAT IT READS IS OF BULK AT MOST 1048576: true; the input reads as it did. -/
def fnRootsAndDivisorsUptoRow : OpenClaim := { program := "ytclpgaoneoojiaa", sum := "8f22332d83cf49878d699b84916e5184c05d44d52169c685d61b7119bf36b76b", func := "loop.example/g01122/laws.FnRootsAndDivisors", spec := "fnRootsAndDivisors", unfollowed := true, recurses := true, apart := false, narrowed := true }
def FnRootsAndDivisorsUptoSaid : Prop := fnRootsAndDivisorsUptoRow.holds Try.pinned (OpenSpec.upto fnRootsAndDivisorsSpec)

/-- 'laws.FnExactBergMatrix', WHERE WHAT IT READS IS OF BULK AT MOST 1048576: true; the input reads as it did. -/
def fnExactBergMatrixUptoRow : OpenClaim := { program := "ytclpgaoneoojiaa", sum := "8f22332d83cf49878d699b84916e5184c05d44d52169c685d61b7119bf36b76b", func := "loop.example/g01122/laws.FnExactBergMatrix", spec := "fnExactBergMatrix", apart := false, narrowed := true }
def FnExactBergMatrixUptoSaid : Prop := fnExactBergMatrixUptoRow.holds Try.pinned (OpenSpec.upto fnExactBergMatrixSpec)

/-- 'laws.FnExactPriceMatrix', WHERE WHAT IT READS IS OF BULK AT MOST 1048576: true; the input reads as it did. -/
def fnExactPriceMatrixUptoRow : OpenClaim := { program := "ytclpgaoneoojiaa", sum := "8f22332d83cf49878d699b84916e5184c05d44d52169c685d61b7119bf36b76b", func := "loop.example/g01122/laws.FnExactPriceMatrix", spec := "fnExactPriceMatrix", apart := false, narrowed := true }
def FnExactPriceMatrixUptoSaid : Prop := fnExactPriceMatrixUptoRow.holds Try.pinned (OpenSpec.upto fnExactPriceMatrixSpec)

end Rows
end Go.Proofs.Ytclpgaoneoojiaa
