/-
  No cell of these rows narrows 'for every input' (looked for: loops, veiled, ifaces, maps, wideKeys, modest, calm, conditions, laid).
  DERIVED. THE GIVEN ROWS OF THIS SEAT. 6 by the template 'for every input the law returns true; each argument reads behind the call as it read before'; 0 by the template 'total and deterministic' (their statements: YtgpoljimomfbbaaTotals.lean).
  GIVEN WITH THE SEED: the statements are not yours to turn. If you find one false, say at which input.
  Laid BY PROGRAM, IN A SANDBOX (cutbox-rows.mjs): the forced cells as the released guide's own fill.sh prints them over the translation 8bd3cddc02c36750… (all of the seat's roots in one cut). By AI agents, Wed Nov 11 2026. No macro, syntax, notation, axiom, sorry.
-/
import Derived.Test.YtgpoljimomfbbaaChecked
import GoSem.Claim
import GoSem.ClaimJoined
import GoSem.ClaimMapViews
import Derived.JoinedTies
import Derived.KernelRfl
namespace Go.Proofs.Ytgpoljimomfbbaa
/- THE CELL 'sum', in the pinned program and in every row, IS THE sha256 OF THE DUMP (.gsa) THAT YtgpoljimomfbbaaProg.lean LOADS. Nothing in Lean hashes anything: it is a label: what it is worth is what the hold of that sum in a sandbox is worth. -/
noncomputable def Try.pinned : Pinned := { name := "ytgpoljimomfbbaa", sum := "8bd3cddc02c367505f84b1f5ee4c7053c448c11287b2df1643380517d93a679b", checked := Try.checked }
namespace Rows
def none {H : Type} : Left H := { results := [], args := [] }

/-- 'laws.FnExactBranchesOf': WHATEVER THE INPUT: true; the input reads as it did. -/
def fnExactBranchesOfSpec : ChangeSpec := { name := "fnExactBranchesOf", fn := fun _ => fun
  | [d1, d2, d3] => { results := [.lit (.bool true)], args := [d1, d2, d3] }
  | _ => none }
def fnExactBranchesOfRow : OpenClaim := { program := "ytgpoljimomfbbaa", sum := "8bd3cddc02c367505f84b1f5ee4c7053c448c11287b2df1643380517d93a679b", func := "loop.example/g01122/laws.FnExactBranchesOf", spec := "fnExactBranchesOf", unfollowed := true, recurses := true, apart := false }
def FnExactBranchesOfSaid : Prop := fnExactBranchesOfRow.holds Try.pinned (OpenSpec.ofChange fnExactBranchesOfSpec)

/-- ITS FALSE NEIGHBOUR: 'it returns false'. Refute it at one input. -/
def fnExactBranchesOfWrong : ChangeSpec := { name := "fnExactBranchesOf", fn := fun _ => fun
  | [d1, d2, d3] => { results := [.lit (.bool false)], args := [d1, d2, d3] }
  | _ => none }
def FnExactBranchesOfWrongFalsely : Prop := fnExactBranchesOfRow.holds Try.pinned (OpenSpec.ofChange fnExactBranchesOfWrong)

/-- 'laws.FnExactTreeUpTo': WHATEVER THE INPUT: true; the input reads as it did. -/
def fnExactTreeUpToSpec : ChangeSpec := { name := "fnExactTreeUpTo", fn := fun _ => fun
  | [d1, d2, d3, d4] => { results := [.lit (.bool true)], args := [d1, d2, d3, d4] }
  | _ => none }
def fnExactTreeUpToRow : OpenClaim := { program := "ytgpoljimomfbbaa", sum := "8bd3cddc02c367505f84b1f5ee4c7053c448c11287b2df1643380517d93a679b", func := "loop.example/g01122/laws.FnExactTreeUpTo", spec := "fnExactTreeUpTo", unfollowed := true, recurses := true, apart := false }
def FnExactTreeUpToSaid : Prop := fnExactTreeUpToRow.holds Try.pinned (OpenSpec.ofChange fnExactTreeUpToSpec)

/-- ITS FALSE NEIGHBOUR: 'it returns false'. Refute it at one input. -/
def fnExactTreeUpToWrong : ChangeSpec := { name := "fnExactTreeUpTo", fn := fun _ => fun
  | [d1, d2, d3, d4] => { results := [.lit (.bool false)], args := [d1, d2, d3, d4] }
  | _ => none }
def FnExactTreeUpToWrongFalsely : Prop := fnExactTreeUpToRow.holds Try.pinned (OpenSpec.ofChange fnExactTreeUpToWrong)

/-- 'laws.FnAllHurwitz': WHATEVER THE INPUT: true; the input reads as it did. -/
def fnAllHurwitzSpec : ChangeSpec := { name := "fnAllHurwitz", fn := fun _ => fun
  | [d1, d2] => { results := [.lit (.bool true)], args := [d1, d2] }
  | _ => none }
def fnAllHurwitzRow : OpenClaim := { program := "ytgpoljimomfbbaa", sum := "8bd3cddc02c367505f84b1f5ee4c7053c448c11287b2df1643380517d93a679b", func := "loop.example/g01122/laws.FnAllHurwitz", spec := "fnAllHurwitz", unfollowed := true, recurses := true, apart := false }
def FnAllHurwitzSaid : Prop := fnAllHurwitzRow.holds Try.pinned (OpenSpec.ofChange fnAllHurwitzSpec)

/-- ITS FALSE NEIGHBOUR: 'it returns false'. Refute it at one input. -/
def fnAllHurwitzWrong : ChangeSpec := { name := "fnAllHurwitz", fn := fun _ => fun
  | [d1, d2] => { results := [.lit (.bool false)], args := [d1, d2] }
  | _ => none }
def FnAllHurwitzWrongFalsely : Prop := fnAllHurwitzRow.holds Try.pinned (OpenSpec.ofChange fnAllHurwitzWrong)

/-- 'laws.FnWaysOfHurwitz': WHATEVER THE INPUT: true; the input reads as it did. -/
def fnWaysOfHurwitzSpec : ChangeSpec := { name := "fnWaysOfHurwitz", fn := fun _ => fun
  | [d1, d2] => { results := [.lit (.bool true)], args := [d1, d2] }
  | _ => none }
def fnWaysOfHurwitzRow : OpenClaim := { program := "ytgpoljimomfbbaa", sum := "8bd3cddc02c367505f84b1f5ee4c7053c448c11287b2df1643380517d93a679b", func := "loop.example/g01122/laws.FnWaysOfHurwitz", spec := "fnWaysOfHurwitz", unfollowed := true, recurses := true, apart := false }
def FnWaysOfHurwitzSaid : Prop := fnWaysOfHurwitzRow.holds Try.pinned (OpenSpec.ofChange fnWaysOfHurwitzSpec)

/-- ITS FALSE NEIGHBOUR: 'it returns false'. Refute it at one input. -/
def fnWaysOfHurwitzWrong : ChangeSpec := { name := "fnWaysOfHurwitz", fn := fun _ => fun
  | [d1, d2] => { results := [.lit (.bool false)], args := [d1, d2] }
  | _ => none }
def FnWaysOfHurwitzWrongFalsely : Prop := fnWaysOfHurwitzRow.holds Try.pinned (OpenSpec.ofChange fnWaysOfHurwitzWrong)

/-- 'laws.FnTreesOfHurwitz': WHATEVER THE INPUT: true; the input reads as it did. -/
def fnTreesOfHurwitzSpec : ChangeSpec := { name := "fnTreesOfHurwitz", fn := fun _ => fun
  | [d1, d2] => { results := [.lit (.bool true)], args := [d1, d2] }
  | _ => none }
def fnTreesOfHurwitzRow : OpenClaim := { program := "ytgpoljimomfbbaa", sum := "8bd3cddc02c367505f84b1f5ee4c7053c448c11287b2df1643380517d93a679b", func := "loop.example/g01122/laws.FnTreesOfHurwitz", spec := "fnTreesOfHurwitz", unfollowed := true, recurses := true, apart := false }
def FnTreesOfHurwitzSaid : Prop := fnTreesOfHurwitzRow.holds Try.pinned (OpenSpec.ofChange fnTreesOfHurwitzSpec)

/-- ITS FALSE NEIGHBOUR: 'it returns false'. Refute it at one input. -/
def fnTreesOfHurwitzWrong : ChangeSpec := { name := "fnTreesOfHurwitz", fn := fun _ => fun
  | [d1, d2] => { results := [.lit (.bool false)], args := [d1, d2] }
  | _ => none }
def FnTreesOfHurwitzWrongFalsely : Prop := fnTreesOfHurwitzRow.holds Try.pinned (OpenSpec.ofChange fnTreesOfHurwitzWrong)

/-- 'laws.FnClimbsOfHurwitz': WHATEVER THE INPUT: true; the input reads as it did. -/
def fnClimbsOfHurwitzSpec : ChangeSpec := { name := "fnClimbsOfHurwitz", fn := fun _ => fun
  | [d1, d2] => { results := [.lit (.bool true)], args := [d1, d2] }
  | _ => none }
def fnClimbsOfHurwitzRow : OpenClaim := { program := "ytgpoljimomfbbaa", sum := "8bd3cddc02c367505f84b1f5ee4c7053c448c11287b2df1643380517d93a679b", func := "loop.example/g01122/laws.FnClimbsOfHurwitz", spec := "fnClimbsOfHurwitz", unfollowed := true, recurses := true, apart := false }
def FnClimbsOfHurwitzSaid : Prop := fnClimbsOfHurwitzRow.holds Try.pinned (OpenSpec.ofChange fnClimbsOfHurwitzSpec)

/-- ITS FALSE NEIGHBOUR: 'it returns false'. Refute it at one input. -/
def fnClimbsOfHurwitzWrong : ChangeSpec := { name := "fnClimbsOfHurwitz", fn := fun _ => fun
  | [d1, d2] => { results := [.lit (.bool false)], args := [d1, d2] }
  | _ => none }
def FnClimbsOfHurwitzWrongFalsely : Prop := fnClimbsOfHurwitzRow.holds Try.pinned (OpenSpec.ofChange fnClimbsOfHurwitzWrong)

/- THE SECOND FORM. 'bulk': how many values and letters a reading holds, each counted each time it is reached (what is shared counts as often as it is met; a slice's spare places count too). A statement '..UptoSaid' is the law's where the arguments, and the package variables that the reading takes, are together of bulk at most 1048576: NARROWER than '..Said'. Prove '..Said' where nothing that the law and all that it calls make is longer than what came in: it says more and counts as full. Else prove '..UptoSaid'. A law counts once. -/
mutual
def uptoBulk {H : Type} : DataW H → Nat
  | .lit (.string bytes) => bytes.length + 1
  | .lit _ => 1
  | .nil => 1
  | .ptr d => uptoBulk d + 1
  | .slice elems spare => uptoBulkAll elems + uptoBulkAll spare + 1
  | .agg parts => uptoBulkAll parts + 1
  | .iface _ d => uptoBulk d + 1
  | .map entries => uptoBulkEntries entries + 1
  | .held _ => 1
def uptoBulkAll {H : Type} : List (DataW H) → Nat
  | [] => 0
  | d :: r => uptoBulk d + uptoBulkAll r
def uptoBulkEntries {H : Type} : List (Lit × DataW H) → Nat
  | [] => 0
  | x :: r => uptoBulkEntry x + uptoBulkEntries r
def uptoBulkEntry {H : Type} : Lit × DataW H → Nat
  | (.string bytes, d) => bytes.length + uptoBulk d + 1
  | (_, d) => uptoBulk d + 1
 end
def uptoSmall : (H : Type) → List (DataW H) → Bool := fun _ ds => decide (uptoBulkAll ds ≤ 1048576)
def OpenSpec.upto (s : _root_.Go.ChangeSpec) : _root_.Go.OpenSpec := { _root_.Go.OpenSpec.ofChange s with cond := some uptoSmall }

/-- 'laws.FnExactBranchesOf', WHERE WHAT IT READS IS OF BULK AT MOST 1048576: true; the input reads as it did. -/
def fnExactBranchesOfUptoRow : OpenClaim := { program := "ytgpoljimomfbbaa", sum := "8bd3cddc02c367505f84b1f5ee4c7053c448c11287b2df1643380517d93a679b", func := "loop.example/g01122/laws.FnExactBranchesOf", spec := "fnExactBranchesOf", unfollowed := true, recurses := true, apart := false, narrowed := true }
def FnExactBranchesOfUptoSaid : Prop := fnExactBranchesOfUptoRow.holds Try.pinned (OpenSpec.upto fnExactBranchesOfSpec)

/-- 'laws.FnExactTreeUpTo', WHERE WHAT IT READS IS OF BULK AT MOST 1048576: true; the input reads as it did. -/
def fnExactTreeUpToUptoRow : OpenClaim := { program := "ytgpoljimomfbbaa", sum := "8bd3cddc02c367505f84b1f5ee4c7053c448c11287b2df1643380517d93a679b", func := "loop.example/g01122/laws.FnExactTreeUpTo", spec := "fnExactTreeUpTo", unfollowed := true, recurses := true, apart := false, narrowed := true }
def FnExactTreeUpToUptoSaid : Prop := fnExactTreeUpToUptoRow.holds Try.pinned (OpenSpec.upto fnExactTreeUpToSpec)

/-- 'laws.FnAllHurwitz', WHERE WHAT IT READS IS OF BULK AT MOST 1048576: true; the input reads as it did. -/
def fnAllHurwitzUptoRow : OpenClaim := { program := "ytgpoljimomfbbaa", sum := "8bd3cddc02c367505f84b1f5ee4c7053c448c11287b2df1643380517d93a679b", func := "loop.example/g01122/laws.FnAllHurwitz", spec := "fnAllHurwitz", unfollowed := true, recurses := true, apart := false, narrowed := true }
def FnAllHurwitzUptoSaid : Prop := fnAllHurwitzUptoRow.holds Try.pinned (OpenSpec.upto fnAllHurwitzSpec)

/-- 'laws.FnWaysOfHurwitz', WHERE WHAT IT READS IS OF BULK AT MOST 1048576: true; the input reads as it did. -/
def fnWaysOfHurwitzUptoRow : OpenClaim := { program := "ytgpoljimomfbbaa", sum := "8bd3cddc02c367505f84b1f5ee4c7053c448c11287b2df1643380517d93a679b", func := "loop.example/g01122/laws.FnWaysOfHurwitz", spec := "fnWaysOfHurwitz", unfollowed := true, recurses := true, apart := false, narrowed := true }
def FnWaysOfHurwitzUptoSaid : Prop := fnWaysOfHurwitzUptoRow.holds Try.pinned (OpenSpec.upto fnWaysOfHurwitzSpec)

/-- 'laws.FnTreesOfHurwitz', WHERE WHAT IT READS IS OF BULK AT MOST 1048576: true; the input reads as it did. -/
def fnTreesOfHurwitzUptoRow : OpenClaim := { program := "ytgpoljimomfbbaa", sum := "8bd3cddc02c367505f84b1f5ee4c7053c448c11287b2df1643380517d93a679b", func := "loop.example/g01122/laws.FnTreesOfHurwitz", spec := "fnTreesOfHurwitz", unfollowed := true, recurses := true, apart := false, narrowed := true }
def FnTreesOfHurwitzUptoSaid : Prop := fnTreesOfHurwitzUptoRow.holds Try.pinned (OpenSpec.upto fnTreesOfHurwitzSpec)

/-- 'laws.FnClimbsOfHurwitz', WHERE WHAT IT READS IS OF BULK AT MOST 1048576: true; the input reads as it did. -/
def fnClimbsOfHurwitzUptoRow : OpenClaim := { program := "ytgpoljimomfbbaa", sum := "8bd3cddc02c367505f84b1f5ee4c7053c448c11287b2df1643380517d93a679b", func := "loop.example/g01122/laws.FnClimbsOfHurwitz", spec := "fnClimbsOfHurwitz", unfollowed := true, recurses := true, apart := false, narrowed := true }
def FnClimbsOfHurwitzUptoSaid : Prop := fnClimbsOfHurwitzUptoRow.holds Try.pinned (OpenSpec.upto fnClimbsOfHurwitzSpec)

end Rows
end Go.Proofs.Ytgpoljimomfbbaa
