/-
  No cell of these rows narrows 'for every input' (looked for: loops, veiled, ifaces, maps, wideKeys, modest, calm, conditions, laid).
  DERIVED. THE GIVEN ROWS OF THIS SEAT. 11 by the template 'for every input the law returns true; each argument reads behind the call as it read before'; 0 by the template 'total and deterministic' (their statements: YtkphmbcoefkilaaTotals.lean).
  GIVEN WITH THE SEED: the statements are not yours to turn. If you find one false, say at which input.
  Laid BY PROGRAM, IN A SANDBOX (cutbox-rows.mjs): the forced cells as the released guide's own fill.sh prints them over the translation 49935991ec11c0f2… (all of the seat's roots in one cut). By AI agents, Wed Nov 11 2026. No macro, syntax, notation, axiom, sorry.
-/
import Derived.Test.YtkphmbcoefkilaaChecked
import GoSem.Claim
import GoSem.ClaimJoined
import GoSem.ClaimMapViews
import Derived.JoinedTies
import Derived.KernelRfl
namespace Go.Proofs.Ytkphmbcoefkilaa
/- THE CELL 'sum', in the pinned program and in every row, IS THE sha256 OF THE DUMP (.gsa) THAT YtkphmbcoefkilaaProg.lean LOADS. Nothing in Lean hashes anything: it is a label: what it is worth is what the hold of that sum in a sandbox is worth. -/
noncomputable def Try.pinned : Pinned := { name := "ytkphmbcoefkilaa", sum := "49935991ec11c0f274e8d73e2aaa28cf8512671166f7b6ebfe1a47d59a61a659", checked := Try.checked }
namespace Rows
def none {H : Type} : Left H := { results := [], args := [] }

/-- 'laws.FnExactCountsOf': WHATEVER THE INPUT: true; the input reads as it did. -/
def fnExactCountsOfSpec : ChangeSpec := { name := "fnExactCountsOf", fn := fun _ => fun
  | [d] => { results := [.lit (.bool true)], args := [d] }
  | _ => none }
def fnExactCountsOfRow : OpenClaim := { program := "ytkphmbcoefkilaa", sum := "49935991ec11c0f274e8d73e2aaa28cf8512671166f7b6ebfe1a47d59a61a659", func := "loop.example/g01122/laws.FnExactCountsOf", spec := "fnExactCountsOf", inPlace := ["internal/bytealg.CountString", "internal/bytealg.IndexByteString", "internal/bytealg.IndexString"], unfollowed := true, recurses := true, named := ["internal/bytealg.MaxLen"], apart := false }
def FnExactCountsOfSaid : Prop := fnExactCountsOfRow.holds Try.pinned (OpenSpec.ofChange fnExactCountsOfSpec)

/-- ITS FALSE NEIGHBOUR: 'it returns false'. Refute it at one input. -/
def fnExactCountsOfWrong : ChangeSpec := { name := "fnExactCountsOf", fn := fun _ => fun
  | [d] => { results := [.lit (.bool false)], args := [d] }
  | _ => none }
def FnExactCountsOfWrongFalsely : Prop := fnExactCountsOfRow.holds Try.pinned (OpenSpec.ofChange fnExactCountsOfWrong)

/-- 'laws.FnExactIsBalanced': WHATEVER THE INPUT: true; the input reads as it did. -/
def fnExactIsBalancedSpec : ChangeSpec := { name := "fnExactIsBalanced", fn := fun _ => fun
  | [d] => { results := [.lit (.bool true)], args := [d] }
  | _ => none }
def fnExactIsBalancedRow : OpenClaim := { program := "ytkphmbcoefkilaa", sum := "49935991ec11c0f274e8d73e2aaa28cf8512671166f7b6ebfe1a47d59a61a659", func := "loop.example/g01122/laws.FnExactIsBalanced", spec := "fnExactIsBalanced", inPlace := ["internal/bytealg.CountString", "internal/bytealg.IndexByteString", "internal/bytealg.IndexString"], unfollowed := true, recurses := true, named := ["internal/bytealg.MaxLen"], apart := false }
def FnExactIsBalancedSaid : Prop := fnExactIsBalancedRow.holds Try.pinned (OpenSpec.ofChange fnExactIsBalancedSpec)

/-- ITS FALSE NEIGHBOUR: 'it returns false'. Refute it at one input. -/
def fnExactIsBalancedWrong : ChangeSpec := { name := "fnExactIsBalanced", fn := fun _ => fun
  | [d] => { results := [.lit (.bool false)], args := [d] }
  | _ => none }
def FnExactIsBalancedWrongFalsely : Prop := fnExactIsBalancedRow.holds Try.pinned (OpenSpec.ofChange fnExactIsBalancedWrong)

/-- 'laws.FnExactIsChristoffel': WHATEVER THE INPUT: true; the input reads as it did. -/
def fnExactIsChristoffelSpec : ChangeSpec := { name := "fnExactIsChristoffel", fn := fun _ => fun
  | [d] => { results := [.lit (.bool true)], args := [d] }
  | _ => none }
def fnExactIsChristoffelRow : OpenClaim := { program := "ytkphmbcoefkilaa", sum := "49935991ec11c0f274e8d73e2aaa28cf8512671166f7b6ebfe1a47d59a61a659", func := "loop.example/g01122/laws.FnExactIsChristoffel", spec := "fnExactIsChristoffel", inPlace := ["internal/bytealg.CountString", "internal/bytealg.IndexByteString", "internal/bytealg.IndexString"], unfollowed := true, recurses := true, named := ["internal/bytealg.MaxLen"], apart := false }
def FnExactIsChristoffelSaid : Prop := fnExactIsChristoffelRow.holds Try.pinned (OpenSpec.ofChange fnExactIsChristoffelSpec)

/-- ITS FALSE NEIGHBOUR: 'it returns false'. Refute it at one input. -/
def fnExactIsChristoffelWrong : ChangeSpec := { name := "fnExactIsChristoffel", fn := fun _ => fun
  | [d] => { results := [.lit (.bool false)], args := [d] }
  | _ => none }
def FnExactIsChristoffelWrongFalsely : Prop := fnExactIsChristoffelRow.holds Try.pinned (OpenSpec.ofChange fnExactIsChristoffelWrong)

/-- 'laws.FnExactCentreOf': WHATEVER THE INPUT: true; the input reads as it did. -/
def fnExactCentreOfSpec : ChangeSpec := { name := "fnExactCentreOf", fn := fun _ => fun
  | [d] => { results := [.lit (.bool true)], args := [d] }
  | _ => none }
def fnExactCentreOfRow : OpenClaim := { program := "ytkphmbcoefkilaa", sum := "49935991ec11c0f274e8d73e2aaa28cf8512671166f7b6ebfe1a47d59a61a659", func := "loop.example/g01122/laws.FnExactCentreOf", spec := "fnExactCentreOf", inPlace := ["internal/bytealg.CountString", "internal/bytealg.IndexByteString", "internal/bytealg.IndexString"], unfollowed := true, recurses := true, named := ["internal/bytealg.MaxLen"], apart := false }
def FnExactCentreOfSaid : Prop := fnExactCentreOfRow.holds Try.pinned (OpenSpec.ofChange fnExactCentreOfSpec)

/-- ITS FALSE NEIGHBOUR: 'it returns false'. Refute it at one input. -/
def fnExactCentreOfWrong : ChangeSpec := { name := "fnExactCentreOf", fn := fun _ => fun
  | [d] => { results := [.lit (.bool false)], args := [d] }
  | _ => none }
def FnExactCentreOfWrongFalsely : Prop := fnExactCentreOfRow.holds Try.pinned (OpenSpec.ofChange fnExactCentreOfWrong)

/-- 'laws.FnExactFactorsOf': WHATEVER THE INPUT: true; the input reads as it did. -/
def fnExactFactorsOfSpec : ChangeSpec := { name := "fnExactFactorsOf", fn := fun _ => fun
  | [d] => { results := [.lit (.bool true)], args := [d] }
  | _ => none }
def fnExactFactorsOfRow : OpenClaim := { program := "ytkphmbcoefkilaa", sum := "49935991ec11c0f274e8d73e2aaa28cf8512671166f7b6ebfe1a47d59a61a659", func := "loop.example/g01122/laws.FnExactFactorsOf", spec := "fnExactFactorsOf", inPlace := ["internal/bytealg.CountString", "internal/bytealg.IndexByteString", "internal/bytealg.IndexString"], unfollowed := true, recurses := true, named := ["internal/bytealg.MaxLen"], apart := false }
def FnExactFactorsOfSaid : Prop := fnExactFactorsOfRow.holds Try.pinned (OpenSpec.ofChange fnExactFactorsOfSpec)

/-- ITS FALSE NEIGHBOUR: 'it returns false'. Refute it at one input. -/
def fnExactFactorsOfWrong : ChangeSpec := { name := "fnExactFactorsOf", fn := fun _ => fun
  | [d] => { results := [.lit (.bool false)], args := [d] }
  | _ => none }
def FnExactFactorsOfWrongFalsely : Prop := fnExactFactorsOfRow.holds Try.pinned (OpenSpec.ofChange fnExactFactorsOfWrong)

/-- 'laws.FnExactNeighbourWords': WHATEVER THE INPUT: true; the input reads as it did. -/
def fnExactNeighbourWordsSpec : ChangeSpec := { name := "fnExactNeighbourWords", fn := fun _ => fun
  | [d] => { results := [.lit (.bool true)], args := [d] }
  | _ => none }
def fnExactNeighbourWordsRow : OpenClaim := { program := "ytkphmbcoefkilaa", sum := "49935991ec11c0f274e8d73e2aaa28cf8512671166f7b6ebfe1a47d59a61a659", func := "loop.example/g01122/laws.FnExactNeighbourWords", spec := "fnExactNeighbourWords", inPlace := ["internal/bytealg.CountString", "internal/bytealg.IndexByteString", "internal/bytealg.IndexString"], unfollowed := true, recurses := true, named := ["internal/bytealg.MaxLen"], apart := false }
def FnExactNeighbourWordsSaid : Prop := fnExactNeighbourWordsRow.holds Try.pinned (OpenSpec.ofChange fnExactNeighbourWordsSpec)

/-- ITS FALSE NEIGHBOUR: 'it returns false'. Refute it at one input. -/
def fnExactNeighbourWordsWrong : ChangeSpec := { name := "fnExactNeighbourWords", fn := fun _ => fun
  | [d] => { results := [.lit (.bool false)], args := [d] }
  | _ => none }
def FnExactNeighbourWordsWrongFalsely : Prop := fnExactNeighbourWordsRow.holds Try.pinned (OpenSpec.ofChange fnExactNeighbourWordsWrong)

/-- 'laws.FnExactLeastTurn': WHATEVER THE INPUT: true; the input reads as it did. -/
def fnExactLeastTurnSpec : ChangeSpec := { name := "fnExactLeastTurn", fn := fun _ => fun
  | [d] => { results := [.lit (.bool true)], args := [d] }
  | _ => none }
def fnExactLeastTurnRow : OpenClaim := { program := "ytkphmbcoefkilaa", sum := "49935991ec11c0f274e8d73e2aaa28cf8512671166f7b6ebfe1a47d59a61a659", func := "loop.example/g01122/laws.FnExactLeastTurn", spec := "fnExactLeastTurn", unfollowed := true, recurses := true, apart := false }
def FnExactLeastTurnSaid : Prop := fnExactLeastTurnRow.holds Try.pinned (OpenSpec.ofChange fnExactLeastTurnSpec)

/-- ITS FALSE NEIGHBOUR: 'it returns false'. Refute it at one input. -/
def fnExactLeastTurnWrong : ChangeSpec := { name := "fnExactLeastTurn", fn := fun _ => fun
  | [d] => { results := [.lit (.bool false)], args := [d] }
  | _ => none }
def FnExactLeastTurnWrongFalsely : Prop := fnExactLeastTurnRow.holds Try.pinned (OpenSpec.ofChange fnExactLeastTurnWrong)

/-- 'laws.FnExactChristoffelUpTo': WHATEVER THE INPUT: true; the input reads as it did. -/
def fnExactChristoffelUpToSpec : ChangeSpec := { name := "fnExactChristoffelUpTo", fn := fun _ => fun
  | [d] => { results := [.lit (.bool true)], args := [d] }
  | _ => none }
def fnExactChristoffelUpToRow : OpenClaim := { program := "ytkphmbcoefkilaa", sum := "49935991ec11c0f274e8d73e2aaa28cf8512671166f7b6ebfe1a47d59a61a659", func := "loop.example/g01122/laws.FnExactChristoffelUpTo", spec := "fnExactChristoffelUpTo", recurses := true, apart := false }
def FnExactChristoffelUpToSaid : Prop := fnExactChristoffelUpToRow.holds Try.pinned (OpenSpec.ofChange fnExactChristoffelUpToSpec)

/-- ITS FALSE NEIGHBOUR: 'it returns false'. Refute it at one input. -/
def fnExactChristoffelUpToWrong : ChangeSpec := { name := "fnExactChristoffelUpTo", fn := fun _ => fun
  | [d] => { results := [.lit (.bool false)], args := [d] }
  | _ => none }
def FnExactChristoffelUpToWrongFalsely : Prop := fnExactChristoffelUpToRow.holds Try.pinned (OpenSpec.ofChange fnExactChristoffelUpToWrong)

/-- 'laws.FnExactTurnsOf': WHATEVER THE INPUT: true; the input reads as it did. -/
def fnExactTurnsOfSpec : ChangeSpec := { name := "fnExactTurnsOf", fn := fun _ => fun
  | [d] => { results := [.lit (.bool true)], args := [d] }
  | _ => none }
def fnExactTurnsOfRow : OpenClaim := { program := "ytkphmbcoefkilaa", sum := "49935991ec11c0f274e8d73e2aaa28cf8512671166f7b6ebfe1a47d59a61a659", func := "loop.example/g01122/laws.FnExactTurnsOf", spec := "fnExactTurnsOf", unfollowed := true, recurses := true, apart := false }
def FnExactTurnsOfSaid : Prop := fnExactTurnsOfRow.holds Try.pinned (OpenSpec.ofChange fnExactTurnsOfSpec)

/-- ITS FALSE NEIGHBOUR: 'it returns false'. Refute it at one input. -/
def fnExactTurnsOfWrong : ChangeSpec := { name := "fnExactTurnsOf", fn := fun _ => fun
  | [d] => { results := [.lit (.bool false)], args := [d] }
  | _ => none }
def FnExactTurnsOfWrongFalsely : Prop := fnExactTurnsOfRow.holds Try.pinned (OpenSpec.ofChange fnExactTurnsOfWrong)

/-- 'laws.FnChristoffelWords': WHATEVER THE INPUT: true; the input reads as it did. -/
def fnChristoffelWordsSpec : ChangeSpec := { name := "fnChristoffelWords", fn := fun _ => fun
  | [d1, d2] => { results := [.lit (.bool true)], args := [d1, d2] }
  | _ => none }
def fnChristoffelWordsRow : OpenClaim := { program := "ytkphmbcoefkilaa", sum := "49935991ec11c0f274e8d73e2aaa28cf8512671166f7b6ebfe1a47d59a61a659", func := "loop.example/g01122/laws.FnChristoffelWords", spec := "fnChristoffelWords", inPlace := ["internal/bytealg.CountString", "internal/bytealg.IndexByteString", "internal/bytealg.IndexString"], unfollowed := true, recurses := true, named := ["internal/bytealg.MaxLen"], apart := false }
def FnChristoffelWordsSaid : Prop := fnChristoffelWordsRow.holds Try.pinned (OpenSpec.ofChange fnChristoffelWordsSpec)

/-- ITS FALSE NEIGHBOUR: 'it returns false'. Refute it at one input. -/
def fnChristoffelWordsWrong : ChangeSpec := { name := "fnChristoffelWords", fn := fun _ => fun
  | [d1, d2] => { results := [.lit (.bool false)], args := [d1, d2] }
  | _ => none }
def FnChristoffelWordsWrongFalsely : Prop := fnChristoffelWordsRow.holds Try.pinned (OpenSpec.ofChange fnChristoffelWordsWrong)

/-- 'laws.FnLettersTurned': WHATEVER THE INPUT: true; the input reads as it did. -/
def fnLettersTurnedSpec : ChangeSpec := { name := "fnLettersTurned", fn := fun _ => fun
  | [d1, d2] => { results := [.lit (.bool true)], args := [d1, d2] }
  | _ => none }
def fnLettersTurnedRow : OpenClaim := { program := "ytkphmbcoefkilaa", sum := "49935991ec11c0f274e8d73e2aaa28cf8512671166f7b6ebfe1a47d59a61a659", func := "loop.example/g01122/laws.FnLettersTurned", spec := "fnLettersTurned", inPlace := ["internal/bytealg.CountString", "internal/bytealg.IndexByteString", "internal/bytealg.IndexString"], unfollowed := true, recurses := true, named := ["internal/bytealg.MaxLen"], apart := false }
def FnLettersTurnedSaid : Prop := fnLettersTurnedRow.holds Try.pinned (OpenSpec.ofChange fnLettersTurnedSpec)

/-- ITS FALSE NEIGHBOUR: 'it returns false'. Refute it at one input. -/
def fnLettersTurnedWrong : ChangeSpec := { name := "fnLettersTurned", fn := fun _ => fun
  | [d1, d2] => { results := [.lit (.bool false)], args := [d1, d2] }
  | _ => none }
def FnLettersTurnedWrongFalsely : Prop := fnLettersTurnedRow.holds Try.pinned (OpenSpec.ofChange fnLettersTurnedWrong)

/- THE SECOND FORM. 'bulk': how many values and letters a reading holds, each counted each time it is reached (what is shared counts as often as it is met; a slice's spare places count too). A statement '..UptoSaid' is the law's where the arguments, and the package variables that the reading takes, are together of bulk at most 1048576: NARROWER than '..Said'. Prove '..Said' where nothing that the law and all that it calls make is longer than what came in: it says more and counts as full. Else prove '..UptoSaid'. A law counts once. -/
mutual
def uptoBulk {H : Type} : DataW H → Nat
  | .lit (.string bytes) => bytes.length + 1
  | .lit _ => 1
  | .nil => 1
  | .ptr d => uptoBulk d + 1
  | .slice elems spare => uptoBulkAll elems + uptoBulkAll spare + 1
  | .agg parts => uptoBulkAll parts + 1
  | .iface _ d => uptoBulk d + 1
  | .map entries => uptoBulkEntries entries + 1
  | .held _ => 1
def uptoBulkAll {H : Type} : List (DataW H) → Nat
  | [] => 0
  | d :: r => uptoBulk d + uptoBulkAll r
def uptoBulkEntries {H : Type} : List (Lit × DataW H) → Nat
  | [] => 0
  | x :: r => uptoBulkEntry x + uptoBulkEntries r
def uptoBulkEntry {H : Type} : Lit × DataW H → Nat
  | (.string bytes, d) => bytes.length + uptoBulk d + 1
  | (_, d) => uptoBulk d + 1
 end
def uptoSmall : (H : Type) → List (DataW H) → Bool := fun _ ds => decide (uptoBulkAll ds ≤ 1048576)
def OpenSpec.upto (s : _root_.Go.ChangeSpec) : _root_.Go.OpenSpec := { _root_.Go.OpenSpec.ofChange s with cond := some uptoSmall }

/-- 'laws.FnExactCountsOf', WHERE WHAT IT READS IS OF BULK AT MOST 1048576: true; the input reads as it did. -/
def fnExactCountsOfUptoRow : OpenClaim := { program := "ytkphmbcoefkilaa", sum := "49935991ec11c0f274e8d73e2aaa28cf8512671166f7b6ebfe1a47d59a61a659", func := "loop.example/g01122/laws.FnExactCountsOf", spec := "fnExactCountsOf", inPlace := ["internal/bytealg.CountString", "internal/bytealg.IndexByteString", "internal/bytealg.IndexString"], unfollowed := true, recurses := true, named := ["internal/bytealg.MaxLen"], apart := false, narrowed := true }
def FnExactCountsOfUptoSaid : Prop := fnExactCountsOfUptoRow.holds Try.pinned (OpenSpec.upto fnExactCountsOfSpec)

/-- 'laws.FnExactIsBalanced', WHERE WHAT IT READS IS OF BULK AT MOST 1048576: true; the input reads as it did. -/
def fnExactIsBalancedUptoRow : OpenClaim := { program := "ytkphmbcoefkilaa", sum := "49935991ec11c0f274e8d73e2aaa28cf8512671166f7b6ebfe1a47d59a61a659", func := "loop.example/g01122/laws.FnExactIsBalanced", spec := "fnExactIsBalanced", inPlace := ["internal/bytealg.CountString", "internal/bytealg.IndexByteString", "internal/bytealg.IndexString"], unfollowed := true, recurses := true, named := ["internal/bytealg.MaxLen"], apart := false, narrowed := true }
def FnExactIsBalancedUptoSaid : Prop := fnExactIsBalancedUptoRow.holds Try.pinned (OpenSpec.upto fnExactIsBalancedSpec)

/-- 'laws.FnExactIsChristoffel', WHERE WHAT IT READS IS OF BULK AT MOST 1048576: true; the input reads as it did. -/
def fnExactIsChristoffelUptoRow : OpenClaim := { program := "ytkphmbcoefkilaa", sum := "49935991ec11c0f274e8d73e2aaa28cf8512671166f7b6ebfe1a47d59a61a659", func := "loop.example/g01122/laws.FnExactIsChristoffel", spec := "fnExactIsChristoffel", inPlace := ["internal/bytealg.CountString", "internal/bytealg.IndexByteString", "internal/bytealg.IndexString"], unfollowed := true, recurses := true, named := ["internal/bytealg.MaxLen"], apart := false, narrowed := true }
def FnExactIsChristoffelUptoSaid : Prop := fnExactIsChristoffelUptoRow.holds Try.pinned (OpenSpec.upto fnExactIsChristoffelSpec)

/-- 'laws.FnExactCentreOf', WHERE WHAT IT READS IS OF BULK AT MOST 1048576: true; the input reads as it did. -/
def fnExactCentreOfUptoRow : OpenClaim := { program := "ytkphmbcoefkilaa", sum := "49935991ec11c0f274e8d73e2aaa28cf8512671166f7b6ebfe1a47d59a61a659", func := "loop.example/g01122/laws.FnExactCentreOf", spec := "fnExactCentreOf", inPlace := ["internal/bytealg.CountString", "internal/bytealg.IndexByteString", "internal/bytealg.IndexString"], unfollowed := true, recurses := true, named := ["internal/bytealg.MaxLen"], apart := false, narrowed := true }
def FnExactCentreOfUptoSaid : Prop := fnExactCentreOfUptoRow.holds Try.pinned (OpenSpec.upto fnExactCentreOfSpec)

/-- 'laws.FnExactFactorsOf', WHERE WHAT IT READS IS OF BULK AT MOST 1048576: true; the input reads as it did. -/
def fnExactFactorsOfUptoRow : OpenClaim := { program := "ytkphmbcoefkilaa", sum := "49935991ec11c0f274e8d73e2aaa28cf8512671166f7b6ebfe1a47d59a61a659", func := "loop.example/g01122/laws.FnExactFactorsOf", spec := "fnExactFactorsOf", inPlace := ["internal/bytealg.CountString", "internal/bytealg.IndexByteString", "internal/bytealg.IndexString"], unfollowed := true, recurses := true, named := ["internal/bytealg.MaxLen"], apart := false, narrowed := true }
def FnExactFactorsOfUptoSaid : Prop := fnExactFactorsOfUptoRow.holds Try.pinned (OpenSpec.upto fnExactFactorsOfSpec)

/-- 'laws.FnExactNeighbourWords', WHERE WHAT IT READS IS OF BULK AT MOST 1048576: true; the input reads as it did. -/
def fnExactNeighbourWordsUptoRow : OpenClaim := { program := "ytkphmbcoefkilaa", sum := "49935991ec11c0f274e8d73e2aaa28cf8512671166f7b6ebfe1a47d59a61a659", func := "loop.example/g01122/laws.FnExactNeighbourWords", spec := "fnExactNeighbourWords", inPlace := ["internal/bytealg.CountString", "internal/bytealg.IndexByteString", "internal/bytealg.IndexString"], unfollowed := true, recurses := true, named := ["internal/bytealg.MaxLen"], apart := false, narrowed := true }
def FnExactNeighbourWordsUptoSaid : Prop := fnExactNeighbourWordsUptoRow.holds Try.pinned (OpenSpec.upto fnExactNeighbourWordsSpec)

/-- 'laws.FnExactLeastTurn', WHERE WHAT IT READS IS OF BULK AT MOST 1048576: true; the input reads as it did. -/
def fnExactLeastTurnUptoRow : OpenClaim := { program := "ytkphmbcoefkilaa", sum := "49935991ec11c0f274e8d73e2aaa28cf8512671166f7b6ebfe1a47d59a61a659", func := "loop.example/g01122/laws.FnExactLeastTurn", spec := "fnExactLeastTurn", unfollowed := true, recurses := true, apart := false, narrowed := true }
def FnExactLeastTurnUptoSaid : Prop := fnExactLeastTurnUptoRow.holds Try.pinned (OpenSpec.upto fnExactLeastTurnSpec)

/-- 'laws.FnExactChristoffelUpTo', WHERE WHAT IT READS IS OF BULK AT MOST 1048576: true; the input reads as it did. -/
def fnExactChristoffelUpToUptoRow : OpenClaim := { program := "ytkphmbcoefkilaa", sum := "49935991ec11c0f274e8d73e2aaa28cf8512671166f7b6ebfe1a47d59a61a659", func := "loop.example/g01122/laws.FnExactChristoffelUpTo", spec := "fnExactChristoffelUpTo", recurses := true, apart := false, narrowed := true }
def FnExactChristoffelUpToUptoSaid : Prop := fnExactChristoffelUpToUptoRow.holds Try.pinned (OpenSpec.upto fnExactChristoffelUpToSpec)

/-- 'laws.FnExactTurnsOf', WHERE WHAT IT READS IS OF BULK AT MOST 1048576: true; the input reads as it did. -/
def fnExactTurnsOfUptoRow : OpenClaim := { program := "ytkphmbcoefkilaa", sum := "49935991ec11c0f274e8d73e2aaa28cf8512671166f7b6ebfe1a47d59a61a659", func := "loop.example/g01122/laws.FnExactTurnsOf", spec := "fnExactTurnsOf", unfollowed := true, recurses := true, apart := false, narrowed := true }
def FnExactTurnsOfUptoSaid : Prop := fnExactTurnsOfUptoRow.holds Try.pinned (OpenSpec.upto fnExactTurnsOfSpec)

/-- 'laws.FnChristoffelWords', WHERE WHAT IT READS IS OF BULK AT MOST 1048576: true; the input reads as it did. -/
def fnChristoffelWordsUptoRow : OpenClaim := { program := "ytkphmbcoefkilaa", sum := "49935991ec11c0f274e8d73e2aaa28cf8512671166f7b6ebfe1a47d59a61a659", func := "loop.example/g01122/laws.FnChristoffelWords", spec := "fnChristoffelWords", inPlace := ["internal/bytealg.CountString", "internal/bytealg.IndexByteString", "internal/bytealg.IndexString"], unfollowed := true, recurses := true, named := ["internal/bytealg.MaxLen"], apart := false, narrowed := true }
def FnChristoffelWordsUptoSaid : Prop := fnChristoffelWordsUptoRow.holds Try.pinned (OpenSpec.upto fnChristoffelWordsSpec)

/-- 'laws.FnLettersTurned', WHERE WHAT IT READS IS OF BULK AT MOST 1048576: true; the input reads as it did. -/
def fnLettersTurnedUptoRow : OpenClaim := { program := "ytkphmbcoefkilaa", sum := "49935991ec11c0f274e8d73e2aaa28cf8512671166f7b6ebfe1a47d59a61a659", func := "loop.example/g01122/laws.FnLettersTurned", spec := "fnLettersTurned", inPlace := ["internal/bytealg.CountString", "internal/bytealg.IndexByteString", "internal/bytealg.IndexString"], unfollowed := true, recurses := true, named := ["internal/bytealg.MaxLen"], apart := false, narrowed := true }
def FnLettersTurnedUptoSaid : Prop := fnLettersTurnedUptoRow.holds Try.pinned (OpenSpec.upto fnLettersTurnedSpec)

end Rows
end Go.Proofs.Ytkphmbcoefkilaa
