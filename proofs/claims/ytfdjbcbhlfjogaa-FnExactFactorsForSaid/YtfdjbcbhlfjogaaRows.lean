/-
  No cell of these rows narrows 'for every input' (looked for: loops, veiled, ifaces, maps, wideKeys, modest, calm, conditions, laid).
  DERIVED. THE GIVEN ROWS OF THIS SEAT. 12 by the template 'for every input the law returns true; each argument reads behind the call as it read before'; 0 by the template 'total and deterministic' (their statements: YtfdjbcbhlfjogaaTotals.lean).
  GIVEN WITH THE SEED: the statements are not yours to turn. If you find one false, say at which input.
  Laid BY PROGRAM, IN A SANDBOX (cutbox-rows.mjs): the forced cells as the released guide's own fill.sh prints them over the translation d5f416efeb55844d… (all of the seat's roots in one cut). By AI agents, Wed Nov 11 2026. No macro, syntax, notation, axiom, sorry.
-/
import Derived.Test.YtfdjbcbhlfjogaaChecked
import GoSem.Claim
import GoSem.ClaimJoined
import GoSem.ClaimMapViews
import Derived.JoinedTies
import Derived.KernelRfl
namespace Go.Proofs.Ytfdjbcbhlfjogaa
/- THE CELL 'sum', in the pinned program and in every row, IS THE sha256 OF THE DUMP (.gsa) THAT YtfdjbcbhlfjogaaProg.lean LOADS. Nothing in Lean hashes anything: it is a label: what it is worth is what the hold of that sum in a sandbox is worth. -/
noncomputable def Try.pinned : Pinned := { name := "ytfdjbcbhlfjogaa", sum := "d5f416efeb55844dc3e84de905f9d410abfeb870f2fc3d78db014aa6d56f2925", checked := Try.checked }
namespace Rows
def none {H : Type} : Left H := { results := [], args := [] }

/-- 'laws.FnExactIsHurwitz': WHATEVER THE INPUT: true; the input reads as it did. -/
def fnExactIsHurwitzSpec : ChangeSpec := { name := "fnExactIsHurwitz", fn := fun _ => fun
  | [d1, d2, d3] => { results := [.lit (.bool true)], args := [d1, d2, d3] }
  | _ => none }
def fnExactIsHurwitzRow : OpenClaim := { program := "ytfdjbcbhlfjogaa", sum := "d5f416efeb55844dc3e84de905f9d410abfeb870f2fc3d78db014aa6d56f2925", func := "loop.example/g01122/laws.FnExactIsHurwitz", spec := "fnExactIsHurwitz", unfollowed := true, recurses := true, apart := false }
def FnExactIsHurwitzSaid : Prop := fnExactIsHurwitzRow.holds Try.pinned (OpenSpec.ofChange fnExactIsHurwitzSpec)

/-- ITS FALSE NEIGHBOUR: 'it returns false'. Refute it at one input. -/
def fnExactIsHurwitzWrong : ChangeSpec := { name := "fnExactIsHurwitz", fn := fun _ => fun
  | [d1, d2, d3] => { results := [.lit (.bool false)], args := [d1, d2, d3] }
  | _ => none }
def FnExactIsHurwitzWrongFalsely : Prop := fnExactIsHurwitzRow.holds Try.pinned (OpenSpec.ofChange fnExactIsHurwitzWrong)

/-- 'laws.FnExactOtherRootAt': WHATEVER THE INPUT: true; the input reads as it did. -/
def fnExactOtherRootAtSpec : ChangeSpec := { name := "fnExactOtherRootAt", fn := fun _ => fun
  | [d1, d2, d3, d4] => { results := [.lit (.bool true)], args := [d1, d2, d3, d4] }
  | _ => none }
def fnExactOtherRootAtRow : OpenClaim := { program := "ytfdjbcbhlfjogaa", sum := "d5f416efeb55844dc3e84de905f9d410abfeb870f2fc3d78db014aa6d56f2925", func := "loop.example/g01122/laws.FnExactOtherRootAt", spec := "fnExactOtherRootAt", unfollowed := true, recurses := true, apart := false }
def FnExactOtherRootAtSaid : Prop := fnExactOtherRootAtRow.holds Try.pinned (OpenSpec.ofChange fnExactOtherRootAtSpec)

/-- ITS FALSE NEIGHBOUR: 'it returns false'. Refute it at one input. -/
def fnExactOtherRootAtWrong : ChangeSpec := { name := "fnExactOtherRootAt", fn := fun _ => fun
  | [d1, d2, d3, d4] => { results := [.lit (.bool false)], args := [d1, d2, d3, d4] }
  | _ => none }
def FnExactOtherRootAtWrongFalsely : Prop := fnExactOtherRootAtRow.holds Try.pinned (OpenSpec.ofChange fnExactOtherRootAtWrong)

/-- 'laws.FnExactIsFundamental': WHATEVER THE INPUT: true; the input reads as it did. -/
def fnExactIsFundamentalSpec : ChangeSpec := { name := "fnExactIsFundamental", fn := fun _ => fun
  | [d1, d2, d3] => { results := [.lit (.bool true)], args := [d1, d2, d3] }
  | _ => none }
def fnExactIsFundamentalRow : OpenClaim := { program := "ytfdjbcbhlfjogaa", sum := "d5f416efeb55844dc3e84de905f9d410abfeb870f2fc3d78db014aa6d56f2925", func := "loop.example/g01122/laws.FnExactIsFundamental", spec := "fnExactIsFundamental", unfollowed := true, recurses := true, apart := false }
def FnExactIsFundamentalSaid : Prop := fnExactIsFundamentalRow.holds Try.pinned (OpenSpec.ofChange fnExactIsFundamentalSpec)

/-- ITS FALSE NEIGHBOUR: 'it returns false'. Refute it at one input. -/
def fnExactIsFundamentalWrong : ChangeSpec := { name := "fnExactIsFundamental", fn := fun _ => fun
  | [d1, d2, d3] => { results := [.lit (.bool false)], args := [d1, d2, d3] }
  | _ => none }
def FnExactIsFundamentalWrongFalsely : Prop := fnExactIsFundamentalRow.holds Try.pinned (OpenSpec.ofChange fnExactIsFundamentalWrong)

/-- 'laws.FnExactFactorsFor': WHATEVER THE INPUT: true; the input reads as it did. -/
def fnExactFactorsForSpec : ChangeSpec := { name := "fnExactFactorsFor", fn := fun _ => fun
  | [d1, d2, d3] => { results := [.lit (.bool true)], args := [d1, d2, d3] }
  | _ => none }
def fnExactFactorsForRow : OpenClaim := { program := "ytfdjbcbhlfjogaa", sum := "d5f416efeb55844dc3e84de905f9d410abfeb870f2fc3d78db014aa6d56f2925", func := "loop.example/g01122/laws.FnExactFactorsFor", spec := "fnExactFactorsFor", unfollowed := true, recurses := true, apart := false }
def FnExactFactorsForSaid : Prop := fnExactFactorsForRow.holds Try.pinned (OpenSpec.ofChange fnExactFactorsForSpec)

/-- ITS FALSE NEIGHBOUR: 'it returns false'. Refute it at one input. -/
def fnExactFactorsForWrong : ChangeSpec := { name := "fnExactFactorsFor", fn := fun _ => fun
  | [d1, d2, d3] => { results := [.lit (.bool false)], args := [d1, d2, d3] }
  | _ => none }
def FnExactFactorsForWrongFalsely : Prop := fnExactFactorsForRow.holds Try.pinned (OpenSpec.ofChange fnExactFactorsForWrong)

/-- 'laws.FnExactSolutionsUpTo': WHATEVER THE INPUT: true; the input reads as it did. -/
def fnExactSolutionsUpToSpec : ChangeSpec := { name := "fnExactSolutionsUpTo", fn := fun _ => fun
  | [d1, d2, d3, d4] => { results := [.lit (.bool true)], args := [d1, d2, d3, d4] }
  | _ => none }
def fnExactSolutionsUpToRow : OpenClaim := { program := "ytfdjbcbhlfjogaa", sum := "d5f416efeb55844dc3e84de905f9d410abfeb870f2fc3d78db014aa6d56f2925", func := "loop.example/g01122/laws.FnExactSolutionsUpTo", spec := "fnExactSolutionsUpTo", unfollowed := true, recurses := true, apart := false }
def FnExactSolutionsUpToSaid : Prop := fnExactSolutionsUpToRow.holds Try.pinned (OpenSpec.ofChange fnExactSolutionsUpToSpec)

/-- ITS FALSE NEIGHBOUR: 'it returns false'. Refute it at one input. -/
def fnExactSolutionsUpToWrong : ChangeSpec := { name := "fnExactSolutionsUpTo", fn := fun _ => fun
  | [d1, d2, d3, d4] => { results := [.lit (.bool false)], args := [d1, d2, d3, d4] }
  | _ => none }
def FnExactSolutionsUpToWrongFalsely : Prop := fnExactSolutionsUpToRow.holds Try.pinned (OpenSpec.ofChange fnExactSolutionsUpToWrong)

/-- 'laws.FnExactFundamentalsUpTo': WHATEVER THE INPUT: true; the input reads as it did. -/
def fnExactFundamentalsUpToSpec : ChangeSpec := { name := "fnExactFundamentalsUpTo", fn := fun _ => fun
  | [d1, d2, d3, d4] => { results := [.lit (.bool true)], args := [d1, d2, d3, d4] }
  | _ => none }
def fnExactFundamentalsUpToRow : OpenClaim := { program := "ytfdjbcbhlfjogaa", sum := "d5f416efeb55844dc3e84de905f9d410abfeb870f2fc3d78db014aa6d56f2925", func := "loop.example/g01122/laws.FnExactFundamentalsUpTo", spec := "fnExactFundamentalsUpTo", unfollowed := true, recurses := true, apart := false }
def FnExactFundamentalsUpToSaid : Prop := fnExactFundamentalsUpToRow.holds Try.pinned (OpenSpec.ofChange fnExactFundamentalsUpToSpec)

/-- ITS FALSE NEIGHBOUR: 'it returns false'. Refute it at one input. -/
def fnExactFundamentalsUpToWrong : ChangeSpec := { name := "fnExactFundamentalsUpTo", fn := fun _ => fun
  | [d1, d2, d3, d4] => { results := [.lit (.bool false)], args := [d1, d2, d3, d4] }
  | _ => none }
def FnExactFundamentalsUpToWrongFalsely : Prop := fnExactFundamentalsUpToRow.holds Try.pinned (OpenSpec.ofChange fnExactFundamentalsUpToWrong)

/-- 'laws.FnExactJumpAt': WHATEVER THE INPUT: true; the input reads as it did. -/
def fnExactJumpAtSpec : ChangeSpec := { name := "fnExactJumpAt", fn := fun _ => fun
  | [d1, d2, d3, d4] => { results := [.lit (.bool true)], args := [d1, d2, d3, d4] }
  | _ => none }
def fnExactJumpAtRow : OpenClaim := { program := "ytfdjbcbhlfjogaa", sum := "d5f416efeb55844dc3e84de905f9d410abfeb870f2fc3d78db014aa6d56f2925", func := "loop.example/g01122/laws.FnExactJumpAt", spec := "fnExactJumpAt", unfollowed := true, recurses := true, apart := false }
def FnExactJumpAtSaid : Prop := fnExactJumpAtRow.holds Try.pinned (OpenSpec.ofChange fnExactJumpAtSpec)

/-- ITS FALSE NEIGHBOUR: 'it returns false'. Refute it at one input. -/
def fnExactJumpAtWrong : ChangeSpec := { name := "fnExactJumpAt", fn := fun _ => fun
  | [d1, d2, d3, d4] => { results := [.lit (.bool false)], args := [d1, d2, d3, d4] }
  | _ => none }
def FnExactJumpAtWrongFalsely : Prop := fnExactJumpAtRow.holds Try.pinned (OpenSpec.ofChange fnExactJumpAtWrong)

/-- 'laws.FnExactClimbHurwitz': WHATEVER THE INPUT: true; the input reads as it did. -/
def fnExactClimbHurwitzSpec : ChangeSpec := { name := "fnExactClimbHurwitz", fn := fun _ => fun
  | [d1, d2, d3, d4] => { results := [.lit (.bool true)], args := [d1, d2, d3, d4] }
  | _ => none }
def fnExactClimbHurwitzRow : OpenClaim := { program := "ytfdjbcbhlfjogaa", sum := "d5f416efeb55844dc3e84de905f9d410abfeb870f2fc3d78db014aa6d56f2925", func := "loop.example/g01122/laws.FnExactClimbHurwitz", spec := "fnExactClimbHurwitz", unfollowed := true, recurses := true, apart := false }
def FnExactClimbHurwitzSaid : Prop := fnExactClimbHurwitzRow.holds Try.pinned (OpenSpec.ofChange fnExactClimbHurwitzSpec)

/-- ITS FALSE NEIGHBOUR: 'it returns false'. Refute it at one input. -/
def fnExactClimbHurwitzWrong : ChangeSpec := { name := "fnExactClimbHurwitz", fn := fun _ => fun
  | [d1, d2, d3, d4] => { results := [.lit (.bool false)], args := [d1, d2, d3, d4] }
  | _ => none }
def FnExactClimbHurwitzWrongFalsely : Prop := fnExactClimbHurwitzRow.holds Try.pinned (OpenSpec.ofChange fnExactClimbHurwitzWrong)

/-- 'laws.FnExactFundamentalOf': WHATEVER THE INPUT: true; the input reads as it did. -/
def fnExactFundamentalOfSpec : ChangeSpec := { name := "fnExactFundamentalOf", fn := fun _ => fun
  | [d1, d2, d3] => { results := [.lit (.bool true)], args := [d1, d2, d3] }
  | _ => none }
def fnExactFundamentalOfRow : OpenClaim := { program := "ytfdjbcbhlfjogaa", sum := "d5f416efeb55844dc3e84de905f9d410abfeb870f2fc3d78db014aa6d56f2925", func := "loop.example/g01122/laws.FnExactFundamentalOf", spec := "fnExactFundamentalOf", unfollowed := true, recurses := true, apart := false }
def FnExactFundamentalOfSaid : Prop := fnExactFundamentalOfRow.holds Try.pinned (OpenSpec.ofChange fnExactFundamentalOfSpec)

/-- ITS FALSE NEIGHBOUR: 'it returns false'. Refute it at one input. -/
def fnExactFundamentalOfWrong : ChangeSpec := { name := "fnExactFundamentalOf", fn := fun _ => fun
  | [d1, d2, d3] => { results := [.lit (.bool false)], args := [d1, d2, d3] }
  | _ => none }
def FnExactFundamentalOfWrongFalsely : Prop := fnExactFundamentalOfRow.holds Try.pinned (OpenSpec.ofChange fnExactFundamentalOfWrong)

/-- 'laws.FnExactWayDown': WHATEVER THE INPUT: true; the input reads as it did. -/
def fnExactWayDownSpec : ChangeSpec := { name := "fnExactWayDown", fn := fun _ => fun
  | [d1, d2, d3] => { results := [.lit (.bool true)], args := [d1, d2, d3] }
  | _ => none }
def fnExactWayDownRow : OpenClaim := { program := "ytfdjbcbhlfjogaa", sum := "d5f416efeb55844dc3e84de905f9d410abfeb870f2fc3d78db014aa6d56f2925", func := "loop.example/g01122/laws.FnExactWayDown", spec := "fnExactWayDown", unfollowed := true, recurses := true, apart := false }
def FnExactWayDownSaid : Prop := fnExactWayDownRow.holds Try.pinned (OpenSpec.ofChange fnExactWayDownSpec)

/-- ITS FALSE NEIGHBOUR: 'it returns false'. Refute it at one input. -/
def fnExactWayDownWrong : ChangeSpec := { name := "fnExactWayDown", fn := fun _ => fun
  | [d1, d2, d3] => { results := [.lit (.bool false)], args := [d1, d2, d3] }
  | _ => none }
def FnExactWayDownWrongFalsely : Prop := fnExactWayDownRow.holds Try.pinned (OpenSpec.ofChange fnExactWayDownWrong)

/-- 'laws.FnExactWordUp': WHATEVER THE INPUT: true; the input reads as it did. -/
def fnExactWordUpSpec : ChangeSpec := { name := "fnExactWordUp", fn := fun _ => fun
  | [d1, d2, d3] => { results := [.lit (.bool true)], args := [d1, d2, d3] }
  | _ => none }
def fnExactWordUpRow : OpenClaim := { program := "ytfdjbcbhlfjogaa", sum := "d5f416efeb55844dc3e84de905f9d410abfeb870f2fc3d78db014aa6d56f2925", func := "loop.example/g01122/laws.FnExactWordUp", spec := "fnExactWordUp", unfollowed := true, recurses := true, apart := false }
def FnExactWordUpSaid : Prop := fnExactWordUpRow.holds Try.pinned (OpenSpec.ofChange fnExactWordUpSpec)

/-- ITS FALSE NEIGHBOUR: 'it returns false'. Refute it at one input. -/
def fnExactWordUpWrong : ChangeSpec := { name := "fnExactWordUp", fn := fun _ => fun
  | [d1, d2, d3] => { results := [.lit (.bool false)], args := [d1, d2, d3] }
  | _ => none }
def FnExactWordUpWrongFalsely : Prop := fnExactWordUpRow.holds Try.pinned (OpenSpec.ofChange fnExactWordUpWrong)

/-- 'laws.FnJumpsOfHurwitz': WHATEVER THE INPUT: true; the input reads as it did. -/
def fnJumpsOfHurwitzSpec : ChangeSpec := { name := "fnJumpsOfHurwitz", fn := fun _ => fun
  | [d1, d2] => { results := [.lit (.bool true)], args := [d1, d2] }
  | _ => none }
def fnJumpsOfHurwitzRow : OpenClaim := { program := "ytfdjbcbhlfjogaa", sum := "d5f416efeb55844dc3e84de905f9d410abfeb870f2fc3d78db014aa6d56f2925", func := "loop.example/g01122/laws.FnJumpsOfHurwitz", spec := "fnJumpsOfHurwitz", unfollowed := true, recurses := true, apart := false }
def FnJumpsOfHurwitzSaid : Prop := fnJumpsOfHurwitzRow.holds Try.pinned (OpenSpec.ofChange fnJumpsOfHurwitzSpec)

/-- ITS FALSE NEIGHBOUR: 'it returns false'. Refute it at one input. -/
def fnJumpsOfHurwitzWrong : ChangeSpec := { name := "fnJumpsOfHurwitz", fn := fun _ => fun
  | [d1, d2] => { results := [.lit (.bool false)], args := [d1, d2] }
  | _ => none }
def FnJumpsOfHurwitzWrongFalsely : Prop := fnJumpsOfHurwitzRow.holds Try.pinned (OpenSpec.ofChange fnJumpsOfHurwitzWrong)

/- THE SECOND FORM. 'bulk': how many values and letters a reading holds, each counted each time it is reached (what is shared counts as often as it is met; a slice's spare places count too). A statement '..UptoSaid' is the law's where the arguments, and the package variables that the reading takes, are together of bulk at most 1048576: NARROWER than '..Said'. Prove '..Said' where nothing that the law and all that it calls make is longer than what came in: it says more and counts as full. Else prove '..UptoSaid'. A law counts once. -/
mutual
def uptoBulk {H : Type} : DataW H → Nat
  | .lit (.string bytes) => bytes.length + 1
  | .lit _ => 1
  | .nil => 1
  | .ptr d => uptoBulk d + 1
  | .slice elems spare => uptoBulkAll elems + uptoBulkAll spare + 1
  | .agg parts => uptoBulkAll parts + 1
  | .iface _ d => uptoBulk d + 1
  | .map entries => uptoBulkEntries entries + 1
  | .held _ => 1
def uptoBulkAll {H : Type} : List (DataW H) → Nat
  | [] => 0
  | d :: r => uptoBulk d + uptoBulkAll r
def uptoBulkEntries {H : Type} : List (Lit × DataW H) → Nat
  | [] => 0
  | x :: r => uptoBulkEntry x + uptoBulkEntries r
def uptoBulkEntry {H : Type} : Lit × DataW H → Nat
  | (.string bytes, d) => bytes.length + uptoBulk d + 1
  | (_, d) => uptoBulk d + 1
 end
def uptoSmall : (H : Type) → List (DataW H) → Bool := fun _ ds => decide (uptoBulkAll ds ≤ 1048576)
def OpenSpec.upto (s : _root_.Go.ChangeSpec) : _root_.Go.OpenSpec := { _root_.Go.OpenSpec.ofChange s with cond := some uptoSmall }

/-- 'laws.FnExactIsHurwitz', WHERE WHAT IT READS IS OF BULK AT MOST 1048576: true; the input reads as it did. -/
def fnExactIsHurwitzUptoRow : OpenClaim := { program := "ytfdjbcbhlfjogaa", sum := "d5f416efeb55844dc3e84de905f9d410abfeb870f2fc3d78db014aa6d56f2925", func := "loop.example/g01122/laws.FnExactIsHurwitz", spec := "fnExactIsHurwitz", unfollowed := true, recurses := true, apart := false, narrowed := true }
def FnExactIsHurwitzUptoSaid : Prop := fnExactIsHurwitzUptoRow.holds Try.pinned (OpenSpec.upto fnExactIsHurwitzSpec)

/-- 'laws.FnExactOtherRootAt', WHERE WHAT IT READS IS OF BULK AT MOST 1048576: true; the input reads as it did. -/
def fnExactOtherRootAtUptoRow : OpenClaim := { program := "ytfdjbcbhlfjogaa", sum := "d5f416efeb55844dc3e84de905f9d410abfeb870f2fc3d78db014aa6d56f2925", func := "loop.example/g01122/laws.FnExactOtherRootAt", spec := "fnExactOtherRootAt", unfollowed := true, recurses := true, apart := false, narrowed := true }
def FnExactOtherRootAtUptoSaid : Prop := fnExactOtherRootAtUptoRow.holds Try.pinned (OpenSpec.upto fnExactOtherRootAtSpec)

/-- 'laws.FnExactIsFundamental', WHERE WHAT IT READS IS OF BULK AT MOST 1048576: true; the input reads as it did. -/
def fnExactIsFundamentalUptoRow : OpenClaim := { program := "ytfdjbcbhlfjogaa", sum := "d5f416efeb55844dc3e84de905f9d410abfeb870f2fc3d78db014aa6d56f2925", func := "loop.example/g01122/laws.FnExactIsFundamental", spec := "fnExactIsFundamental", unfollowed := true, recurses := true, apart := false, narrowed := true }
def FnExactIsFundamentalUptoSaid : Prop := fnExactIsFundamentalUptoRow.holds Try.pinned (OpenSpec.upto fnExactIsFundamentalSpec)

/-- 'laws.FnExactFactorsFor', WHERE WHAT IT READS IS OF BULK AT MOST 1048576: true; the input reads as it did. -/
def fnExactFactorsForUptoRow : OpenClaim := { program := "ytfdjbcbhlfjogaa", sum := "d5f416efeb55844dc3e84de905f9d410abfeb870f2fc3d78db014aa6d56f2925", func := "loop.example/g01122/laws.FnExactFactorsFor", spec := "fnExactFactorsFor", unfollowed := true, recurses := true, apart := false, narrowed := true }
def FnExactFactorsForUptoSaid : Prop := fnExactFactorsForUptoRow.holds Try.pinned (OpenSpec.upto fnExactFactorsForSpec)

/-- 'laws.FnExactSolutionsUpTo', WHERE WHAT IT READS IS OF BULK AT MOST 1048576: true; the input reads as it did. -/
def fnExactSolutionsUpToUptoRow : OpenClaim := { program := "ytfdjbcbhlfjogaa", sum := "d5f416efeb55844dc3e84de905f9d410abfeb870f2fc3d78db014aa6d56f2925", func := "loop.example/g01122/laws.FnExactSolutionsUpTo", spec := "fnExactSolutionsUpTo", unfollowed := true, recurses := true, apart := false, narrowed := true }
def FnExactSolutionsUpToUptoSaid : Prop := fnExactSolutionsUpToUptoRow.holds Try.pinned (OpenSpec.upto fnExactSolutionsUpToSpec)

/-- 'laws.FnExactFundamentalsUpTo', WHERE WHAT IT READS IS OF BULK AT MOST 1048576: true; the input reads as it did. -/
def fnExactFundamentalsUpToUptoRow : OpenClaim := { program := "ytfdjbcbhlfjogaa", sum := "d5f416efeb55844dc3e84de905f9d410abfeb870f2fc3d78db014aa6d56f2925", func := "loop.example/g01122/laws.FnExactFundamentalsUpTo", spec := "fnExactFundamentalsUpTo", unfollowed := true, recurses := true, apart := false, narrowed := true }
def FnExactFundamentalsUpToUptoSaid : Prop := fnExactFundamentalsUpToUptoRow.holds Try.pinned (OpenSpec.upto fnExactFundamentalsUpToSpec)

/-- 'laws.FnExactJumpAt', WHERE WHAT IT READS IS OF BULK AT MOST 1048576: true; the input reads as it did. -/
def fnExactJumpAtUptoRow : OpenClaim := { program := "ytfdjbcbhlfjogaa", sum := "d5f416efeb55844dc3e84de905f9d410abfeb870f2fc3d78db014aa6d56f2925", func := "loop.example/g01122/laws.FnExactJumpAt", spec := "fnExactJumpAt", unfollowed := true, recurses := true, apart := false, narrowed := true }
def FnExactJumpAtUptoSaid : Prop := fnExactJumpAtUptoRow.holds Try.pinned (OpenSpec.upto fnExactJumpAtSpec)

/-- 'laws.FnExactClimbHurwitz', WHERE WHAT IT READS IS OF BULK AT MOST 1048576: true; the input reads as it did. -/
def fnExactClimbHurwitzUptoRow : OpenClaim := { program := "ytfdjbcbhlfjogaa", sum := "d5f416efeb55844dc3e84de905f9d410abfeb870f2fc3d78db014aa6d56f2925", func := "loop.example/g01122/laws.FnExactClimbHurwitz", spec := "fnExactClimbHurwitz", unfollowed := true, recurses := true, apart := false, narrowed := true }
def FnExactClimbHurwitzUptoSaid : Prop := fnExactClimbHurwitzUptoRow.holds Try.pinned (OpenSpec.upto fnExactClimbHurwitzSpec)

/-- 'laws.FnExactFundamentalOf', WHERE WHAT IT READS IS OF BULK AT MOST 1048576: true; the input reads as it did. -/
def fnExactFundamentalOfUptoRow : OpenClaim := { program := "ytfdjbcbhlfjogaa", sum := "d5f416efeb55844dc3e84de905f9d410abfeb870f2fc3d78db014aa6d56f2925", func := "loop.example/g01122/laws.FnExactFundamentalOf", spec := "fnExactFundamentalOf", unfollowed := true, recurses := true, apart := false, narrowed := true }
def FnExactFundamentalOfUptoSaid : Prop := fnExactFundamentalOfUptoRow.holds Try.pinned (OpenSpec.upto fnExactFundamentalOfSpec)

/-- 'laws.FnExactWayDown', WHERE WHAT IT READS IS OF BULK AT MOST 1048576: true; the input reads as it did. -/
def fnExactWayDownUptoRow : OpenClaim := { program := "ytfdjbcbhlfjogaa", sum := "d5f416efeb55844dc3e84de905f9d410abfeb870f2fc3d78db014aa6d56f2925", func := "loop.example/g01122/laws.FnExactWayDown", spec := "fnExactWayDown", unfollowed := true, recurses := true, apart := false, narrowed := true }
def FnExactWayDownUptoSaid : Prop := fnExactWayDownUptoRow.holds Try.pinned (OpenSpec.upto fnExactWayDownSpec)

/-- 'laws.FnExactWordUp', WHERE WHAT IT READS IS OF BULK AT MOST 1048576: true; the input reads as it did. -/
def fnExactWordUpUptoRow : OpenClaim := { program := "ytfdjbcbhlfjogaa", sum := "d5f416efeb55844dc3e84de905f9d410abfeb870f2fc3d78db014aa6d56f2925", func := "loop.example/g01122/laws.FnExactWordUp", spec := "fnExactWordUp", unfollowed := true, recurses := true, apart := false, narrowed := true }
def FnExactWordUpUptoSaid : Prop := fnExactWordUpUptoRow.holds Try.pinned (OpenSpec.upto fnExactWordUpSpec)

/-- 'laws.FnJumpsOfHurwitz', WHERE WHAT IT READS IS OF BULK AT MOST 1048576: true; the input reads as it did. -/
def fnJumpsOfHurwitzUptoRow : OpenClaim := { program := "ytfdjbcbhlfjogaa", sum := "d5f416efeb55844dc3e84de905f9d410abfeb870f2fc3d78db014aa6d56f2925", func := "loop.example/g01122/laws.FnJumpsOfHurwitz", spec := "fnJumpsOfHurwitz", unfollowed := true, recurses := true, apart := false, narrowed := true }
def FnJumpsOfHurwitzUptoSaid : Prop := fnJumpsOfHurwitzUptoRow.holds Try.pinned (OpenSpec.upto fnJumpsOfHurwitzSpec)

end Rows
end Go.Proofs.Ytfdjbcbhlfjogaa
