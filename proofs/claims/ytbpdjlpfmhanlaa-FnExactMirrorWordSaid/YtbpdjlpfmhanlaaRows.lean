/-
  No cell of these rows narrows 'for every input' (looked for: loops, veiled, ifaces, maps, wideKeys, modest, calm, conditions, laid).
  DERIVED. THE GIVEN ROWS OF THIS SEAT. 12 by the template 'for every input the law returns true; each argument reads behind the call as it read before'; 0 by the template 'total and deterministic' (their statements: YtbpdjlpfmhanlaaTotals.lean).
  GIVEN WITH THE SEED: the statements are not yours to turn. If you find one false, say at which input.
  Laid BY PROGRAM, IN A SANDBOX (cutbox-rows.mjs): the forced cells as the released guide's own fill.sh prints them over the translation b072228434dc1494… (all of the seat's roots in one cut). By AI agents, Wed Nov 11 2026. No macro, syntax, notation, axiom, sorry.
-/
import Derived.Test.YtbpdjlpfmhanlaaChecked
import GoSem.Claim
import GoSem.ClaimJoined
import GoSem.ClaimMapViews
import Derived.JoinedTies
import Derived.KernelRfl
namespace Go.Proofs.Ytbpdjlpfmhanlaa
/- THE CELL 'sum', in the pinned program and in every row, IS THE sha256 OF THE DUMP (.gsa) THAT YtbpdjlpfmhanlaaProg.lean LOADS. Nothing in Lean hashes anything: it is a label: what it is worth is what the hold of that sum in a sandbox is worth. -/
noncomputable def Try.pinned : Pinned := { name := "ytbpdjlpfmhanlaa", sum := "b072228434dc1494b50ea333811c37c8ebdef6027f5a512c3730bc1b5de646fe", checked := Try.checked }
namespace Rows
def none {H : Type} : Left H := { results := [], args := [] }

/-- 'laws.FnExactConstants': WHATEVER THE INPUT: true; the input reads as it did. -/
def fnExactConstantsSpec : ChangeSpec := { name := "fnExactConstants", fn := fun _ => fun
  | [] => { results := [.lit (.bool true)], args := [] }
  | _ => none }
def fnExactConstantsRow : OpenClaim := { program := "ytbpdjlpfmhanlaa", sum := "b072228434dc1494b50ea333811c37c8ebdef6027f5a512c3730bc1b5de646fe", func := "loop.example/g01122/laws.FnExactConstants", spec := "fnExactConstants", apart := false }
def FnExactConstantsSaid : Prop := fnExactConstantsRow.holds Try.pinned (OpenSpec.ofChange fnExactConstantsSpec)

/-- ITS FALSE NEIGHBOUR: 'it returns false'. Refute it at one input. -/
def fnExactConstantsWrong : ChangeSpec := { name := "fnExactConstants", fn := fun _ => fun
  | [] => { results := [.lit (.bool false)], args := [] }
  | _ => none }
def FnExactConstantsWrongFalsely : Prop := fnExactConstantsRow.holds Try.pinned (OpenSpec.ofChange fnExactConstantsWrong)

/-- 'laws.FnExactIsLetters': WHATEVER THE INPUT: true; the input reads as it did. -/
def fnExactIsLettersSpec : ChangeSpec := { name := "fnExactIsLetters", fn := fun _ => fun
  | [d] => { results := [.lit (.bool true)], args := [d] }
  | _ => none }
def fnExactIsLettersRow : OpenClaim := { program := "ytbpdjlpfmhanlaa", sum := "b072228434dc1494b50ea333811c37c8ebdef6027f5a512c3730bc1b5de646fe", func := "loop.example/g01122/laws.FnExactIsLetters", spec := "fnExactIsLetters", unfollowed := true, recurses := true, apart := false }
def FnExactIsLettersSaid : Prop := fnExactIsLettersRow.holds Try.pinned (OpenSpec.ofChange fnExactIsLettersSpec)

/-- ITS FALSE NEIGHBOUR: 'it returns false'. Refute it at one input. -/
def fnExactIsLettersWrong : ChangeSpec := { name := "fnExactIsLetters", fn := fun _ => fun
  | [d] => { results := [.lit (.bool false)], args := [d] }
  | _ => none }
def FnExactIsLettersWrongFalsely : Prop := fnExactIsLettersRow.holds Try.pinned (OpenSpec.ofChange fnExactIsLettersWrong)

/-- 'laws.FnExactRootOf': WHATEVER THE INPUT: true; the input reads as it did. -/
def fnExactRootOfSpec : ChangeSpec := { name := "fnExactRootOf", fn := fun _ => fun
  | [d] => { results := [.lit (.bool true)], args := [d] }
  | _ => none }
def fnExactRootOfRow : OpenClaim := { program := "ytbpdjlpfmhanlaa", sum := "b072228434dc1494b50ea333811c37c8ebdef6027f5a512c3730bc1b5de646fe", func := "loop.example/g01122/laws.FnExactRootOf", spec := "fnExactRootOf", apart := false }
def FnExactRootOfSaid : Prop := fnExactRootOfRow.holds Try.pinned (OpenSpec.ofChange fnExactRootOfSpec)

/-- ITS FALSE NEIGHBOUR: 'it returns false'. Refute it at one input. -/
def fnExactRootOfWrong : ChangeSpec := { name := "fnExactRootOf", fn := fun _ => fun
  | [d] => { results := [.lit (.bool false)], args := [d] }
  | _ => none }
def FnExactRootOfWrongFalsely : Prop := fnExactRootOfRow.holds Try.pinned (OpenSpec.ofChange fnExactRootOfWrong)

/-- 'laws.FnExactChristoffelOf': WHATEVER THE INPUT: true; the input reads as it did. -/
def fnExactChristoffelOfSpec : ChangeSpec := { name := "fnExactChristoffelOf", fn := fun _ => fun
  | [d1, d2] => { results := [.lit (.bool true)], args := [d1, d2] }
  | _ => none }
def fnExactChristoffelOfRow : OpenClaim := { program := "ytbpdjlpfmhanlaa", sum := "b072228434dc1494b50ea333811c37c8ebdef6027f5a512c3730bc1b5de646fe", func := "loop.example/g01122/laws.FnExactChristoffelOf", spec := "fnExactChristoffelOf", recurses := true, apart := false }
def FnExactChristoffelOfSaid : Prop := fnExactChristoffelOfRow.holds Try.pinned (OpenSpec.ofChange fnExactChristoffelOfSpec)

/-- ITS FALSE NEIGHBOUR: 'it returns false'. Refute it at one input. -/
def fnExactChristoffelOfWrong : ChangeSpec := { name := "fnExactChristoffelOf", fn := fun _ => fun
  | [d1, d2] => { results := [.lit (.bool false)], args := [d1, d2] }
  | _ => none }
def FnExactChristoffelOfWrongFalsely : Prop := fnExactChristoffelOfRow.holds Try.pinned (OpenSpec.ofChange fnExactChristoffelOfWrong)

/-- 'laws.FnExactMirrorWord': WHATEVER THE INPUT: true; the input reads as it did. -/
def fnExactMirrorWordSpec : ChangeSpec := { name := "fnExactMirrorWord", fn := fun _ => fun
  | [d] => { results := [.lit (.bool true)], args := [d] }
  | _ => none }
def fnExactMirrorWordRow : OpenClaim := { program := "ytbpdjlpfmhanlaa", sum := "b072228434dc1494b50ea333811c37c8ebdef6027f5a512c3730bc1b5de646fe", func := "loop.example/g01122/laws.FnExactMirrorWord", spec := "fnExactMirrorWord", unfollowed := true, recurses := true, apart := false }
def FnExactMirrorWordSaid : Prop := fnExactMirrorWordRow.holds Try.pinned (OpenSpec.ofChange fnExactMirrorWordSpec)

/-- ITS FALSE NEIGHBOUR: 'it returns false'. Refute it at one input. -/
def fnExactMirrorWordWrong : ChangeSpec := { name := "fnExactMirrorWord", fn := fun _ => fun
  | [d] => { results := [.lit (.bool false)], args := [d] }
  | _ => none }
def FnExactMirrorWordWrongFalsely : Prop := fnExactMirrorWordRow.holds Try.pinned (OpenSpec.ofChange fnExactMirrorWordWrong)

/-- 'laws.FnExactWordOfRank': WHATEVER THE INPUT: true; the input reads as it did. -/
def fnExactWordOfRankSpec : ChangeSpec := { name := "fnExactWordOfRank", fn := fun _ => fun
  | [d] => { results := [.lit (.bool true)], args := [d] }
  | _ => none }
def fnExactWordOfRankRow : OpenClaim := { program := "ytbpdjlpfmhanlaa", sum := "b072228434dc1494b50ea333811c37c8ebdef6027f5a512c3730bc1b5de646fe", func := "loop.example/g01122/laws.FnExactWordOfRank", spec := "fnExactWordOfRank", apart := false }
def FnExactWordOfRankSaid : Prop := fnExactWordOfRankRow.holds Try.pinned (OpenSpec.ofChange fnExactWordOfRankSpec)

/-- ITS FALSE NEIGHBOUR: 'it returns false'. Refute it at one input. -/
def fnExactWordOfRankWrong : ChangeSpec := { name := "fnExactWordOfRank", fn := fun _ => fun
  | [d] => { results := [.lit (.bool false)], args := [d] }
  | _ => none }
def FnExactWordOfRankWrongFalsely : Prop := fnExactWordOfRankRow.holds Try.pinned (OpenSpec.ofChange fnExactWordOfRankWrong)

/-- 'laws.FnExactIsMarkov': WHATEVER THE INPUT: true; the input reads as it did. -/
def fnExactIsMarkovSpec : ChangeSpec := { name := "fnExactIsMarkov", fn := fun _ => fun
  | [d] => { results := [.lit (.bool true)], args := [d] }
  | _ => none }
def fnExactIsMarkovRow : OpenClaim := { program := "ytbpdjlpfmhanlaa", sum := "b072228434dc1494b50ea333811c37c8ebdef6027f5a512c3730bc1b5de646fe", func := "loop.example/g01122/laws.FnExactIsMarkov", spec := "fnExactIsMarkov", unfollowed := true, recurses := true, apart := false }
def FnExactIsMarkovSaid : Prop := fnExactIsMarkovRow.holds Try.pinned (OpenSpec.ofChange fnExactIsMarkovSpec)

/-- ITS FALSE NEIGHBOUR: 'it returns false'. Refute it at one input. -/
def fnExactIsMarkovWrong : ChangeSpec := { name := "fnExactIsMarkov", fn := fun _ => fun
  | [d] => { results := [.lit (.bool false)], args := [d] }
  | _ => none }
def FnExactIsMarkovWrongFalsely : Prop := fnExactIsMarkovRow.holds Try.pinned (OpenSpec.ofChange fnExactIsMarkovWrong)

/-- 'laws.FnExactRankOfWord': WHATEVER THE INPUT: true; the input reads as it did. -/
def fnExactRankOfWordSpec : ChangeSpec := { name := "fnExactRankOfWord", fn := fun _ => fun
  | [d] => { results := [.lit (.bool true)], args := [d] }
  | _ => none }
def fnExactRankOfWordRow : OpenClaim := { program := "ytbpdjlpfmhanlaa", sum := "b072228434dc1494b50ea333811c37c8ebdef6027f5a512c3730bc1b5de646fe", func := "loop.example/g01122/laws.FnExactRankOfWord", spec := "fnExactRankOfWord", unfollowed := true, recurses := true, apart := false }
def FnExactRankOfWordSaid : Prop := fnExactRankOfWordRow.holds Try.pinned (OpenSpec.ofChange fnExactRankOfWordSpec)

/-- ITS FALSE NEIGHBOUR: 'it returns false'. Refute it at one input. -/
def fnExactRankOfWordWrong : ChangeSpec := { name := "fnExactRankOfWord", fn := fun _ => fun
  | [d] => { results := [.lit (.bool false)], args := [d] }
  | _ => none }
def FnExactRankOfWordWrongFalsely : Prop := fnExactRankOfWordRow.holds Try.pinned (OpenSpec.ofChange fnExactRankOfWordWrong)

/-- 'laws.FnExactRightOfPair': WHATEVER THE INPUT: true; the input reads as it did. -/
def fnExactRightOfPairSpec : ChangeSpec := { name := "fnExactRightOfPair", fn := fun _ => fun
  | [d1, d2] => { results := [.lit (.bool true)], args := [d1, d2] }
  | _ => none }
def fnExactRightOfPairRow : OpenClaim := { program := "ytbpdjlpfmhanlaa", sum := "b072228434dc1494b50ea333811c37c8ebdef6027f5a512c3730bc1b5de646fe", func := "loop.example/g01122/laws.FnExactRightOfPair", spec := "fnExactRightOfPair", recurses := true, apart := false }
def FnExactRightOfPairSaid : Prop := fnExactRightOfPairRow.holds Try.pinned (OpenSpec.ofChange fnExactRightOfPairSpec)

/-- ITS FALSE NEIGHBOUR: 'it returns false'. Refute it at one input. -/
def fnExactRightOfPairWrong : ChangeSpec := { name := "fnExactRightOfPair", fn := fun _ => fun
  | [d1, d2] => { results := [.lit (.bool false)], args := [d1, d2] }
  | _ => none }
def FnExactRightOfPairWrongFalsely : Prop := fnExactRightOfPairRow.holds Try.pinned (OpenSpec.ofChange fnExactRightOfPairWrong)

/-- 'laws.FnExactSolvesMarkov': WHATEVER THE INPUT: true; the input reads as it did. -/
def fnExactSolvesMarkovSpec : ChangeSpec := { name := "fnExactSolvesMarkov", fn := fun _ => fun
  | [d] => { results := [.lit (.bool true)], args := [d] }
  | _ => none }
def fnExactSolvesMarkovRow : OpenClaim := { program := "ytbpdjlpfmhanlaa", sum := "b072228434dc1494b50ea333811c37c8ebdef6027f5a512c3730bc1b5de646fe", func := "loop.example/g01122/laws.FnExactSolvesMarkov", spec := "fnExactSolvesMarkov", unfollowed := true, recurses := true, apart := false }
def FnExactSolvesMarkovSaid : Prop := fnExactSolvesMarkovRow.holds Try.pinned (OpenSpec.ofChange fnExactSolvesMarkovSpec)

/-- ITS FALSE NEIGHBOUR: 'it returns false'. Refute it at one input. -/
def fnExactSolvesMarkovWrong : ChangeSpec := { name := "fnExactSolvesMarkov", fn := fun _ => fun
  | [d] => { results := [.lit (.bool false)], args := [d] }
  | _ => none }
def FnExactSolvesMarkovWrongFalsely : Prop := fnExactSolvesMarkovRow.holds Try.pinned (OpenSpec.ofChange fnExactSolvesMarkovWrong)

/-- 'laws.FnExactDivisorOf': WHATEVER THE INPUT: true; the input reads as it did. -/
def fnExactDivisorOfSpec : ChangeSpec := { name := "fnExactDivisorOf", fn := fun _ => fun
  | [d] => { results := [.lit (.bool true)], args := [d] }
  | _ => none }
def fnExactDivisorOfRow : OpenClaim := { program := "ytbpdjlpfmhanlaa", sum := "b072228434dc1494b50ea333811c37c8ebdef6027f5a512c3730bc1b5de646fe", func := "loop.example/g01122/laws.FnExactDivisorOf", spec := "fnExactDivisorOf", unfollowed := true, recurses := true, apart := false }
def FnExactDivisorOfSaid : Prop := fnExactDivisorOfRow.holds Try.pinned (OpenSpec.ofChange fnExactDivisorOfSpec)

/-- ITS FALSE NEIGHBOUR: 'it returns false'. Refute it at one input. -/
def fnExactDivisorOfWrong : ChangeSpec := { name := "fnExactDivisorOf", fn := fun _ => fun
  | [d] => { results := [.lit (.bool false)], args := [d] }
  | _ => none }
def FnExactDivisorOfWrongFalsely : Prop := fnExactDivisorOfRow.holds Try.pinned (OpenSpec.ofChange fnExactDivisorOfWrong)

/-- 'laws.FnExactModCount': WHATEVER THE INPUT: true; the input reads as it did. -/
def fnExactModCountSpec : ChangeSpec := { name := "fnExactModCount", fn := fun _ => fun
  | [d] => { results := [.lit (.bool true)], args := [d] }
  | _ => none }
def fnExactModCountRow : OpenClaim := { program := "ytbpdjlpfmhanlaa", sum := "b072228434dc1494b50ea333811c37c8ebdef6027f5a512c3730bc1b5de646fe", func := "loop.example/g01122/laws.FnExactModCount", spec := "fnExactModCount", unfollowed := true, recurses := true, apart := false }
def FnExactModCountSaid : Prop := fnExactModCountRow.holds Try.pinned (OpenSpec.ofChange fnExactModCountSpec)

/-- ITS FALSE NEIGHBOUR: 'it returns false'. Refute it at one input. -/
def fnExactModCountWrong : ChangeSpec := { name := "fnExactModCount", fn := fun _ => fun
  | [d] => { results := [.lit (.bool false)], args := [d] }
  | _ => none }
def FnExactModCountWrongFalsely : Prop := fnExactModCountRow.holds Try.pinned (OpenSpec.ofChange fnExactModCountWrong)

/- THE SECOND FORM. 'bulk': how many values and letters a reading holds, each counted each time it is reached (what is shared counts as often as it is met; a slice's spare places count too). A statement '..UptoSaid' is the law's where the arguments, and the package variables that the reading takes, are together of bulk at most 1048576: NARROWER than '..Said'. Prove '..Said' where nothing that the law and all that it calls make is longer than what came in: it says more and counts as full. Else prove '..UptoSaid'. A law counts once. -/
mutual
def uptoBulk {H : Type} : DataW H → Nat
  | .lit (.string bytes) => bytes.length + 1
  | .lit _ => 1
  | .nil => 1
  | .ptr d => uptoBulk d + 1
  | .slice elems spare => uptoBulkAll elems + uptoBulkAll spare + 1
  | .agg parts => uptoBulkAll parts + 1
  | .iface _ d => uptoBulk d + 1
  | .map entries => uptoBulkEntries entries + 1
  | .held _ => 1
def uptoBulkAll {H : Type} : List (DataW H) → Nat
  | [] => 0
  | d :: r => uptoBulk d + uptoBulkAll r
def uptoBulkEntries {H : Type} : List (Lit × DataW H) → Nat
  | [] => 0
  | x :: r => uptoBulkEntry x + uptoBulkEntries r
def uptoBulkEntry {H : Type} : Lit × DataW H → Nat
  | (.string bytes, d) => bytes.length + uptoBulk d + 1
  | (_, d) => uptoBulk d + 1
 end
def uptoSmall : (H : Type) → List (DataW H) → Bool := fun _ ds => decide (uptoBulkAll ds ≤ 1048576)
def OpenSpec.upto (s : _root_.Go.ChangeSpec) : _root_.Go.OpenSpec := { _root_.Go.OpenSpec.ofChange s with cond := some uptoSmall }

/-- 'laws.FnExactConstants', WHERE WHAT IT READS IS OF BULK AT MOST 1048576: true; the input reads as it did. -/
def fnExactConstantsUptoRow : OpenClaim := { program := "ytbpdjlpfmhanlaa", sum := "b072228434dc1494b50ea333811c37c8ebdef6027f5a512c3730bc1b5de646fe", func := "loop.example/g01122/laws.FnExactConstants", spec := "fnExactConstants", apart := false, narrowed := true }
def FnExactConstantsUptoSaid : Prop := fnExactConstantsUptoRow.holds Try.pinned (OpenSpec.upto fnExactConstantsSpec)

/-- 'laws.FnExactIsLetters', WHERE WHAT IT READS IS OF BULK AT MOST 1048576: true; the input reads as it did. -/
def fnExactIsLettersUptoRow : OpenClaim := { program := "ytbpdjlpfmhanlaa", sum := "b072228434dc1494b50ea333811c37c8ebdef6027f5a512c3730bc1b5de646fe", func := "loop.example/g01122/laws.FnExactIsLetters", spec := "fnExactIsLetters", unfollowed := true, recurses := true, apart := false, narrowed := true }
def FnExactIsLettersUptoSaid : Prop := fnExactIsLettersUptoRow.holds Try.pinned (OpenSpec.upto fnExactIsLettersSpec)

/-- 'laws.FnExactRootOf', WHERE WHAT IT READS IS OF BULK AT MOST 1048576: true; the input reads as it did. -/
def fnExactRootOfUptoRow : OpenClaim := { program := "ytbpdjlpfmhanlaa", sum := "b072228434dc1494b50ea333811c37c8ebdef6027f5a512c3730bc1b5de646fe", func := "loop.example/g01122/laws.FnExactRootOf", spec := "fnExactRootOf", apart := false, narrowed := true }
def FnExactRootOfUptoSaid : Prop := fnExactRootOfUptoRow.holds Try.pinned (OpenSpec.upto fnExactRootOfSpec)

/-- 'laws.FnExactChristoffelOf', WHERE WHAT IT READS IS OF BULK AT MOST 1048576: true; the input reads as it did. -/
def fnExactChristoffelOfUptoRow : OpenClaim := { program := "ytbpdjlpfmhanlaa", sum := "b072228434dc1494b50ea333811c37c8ebdef6027f5a512c3730bc1b5de646fe", func := "loop.example/g01122/laws.FnExactChristoffelOf", spec := "fnExactChristoffelOf", recurses := true, apart := false, narrowed := true }
def FnExactChristoffelOfUptoSaid : Prop := fnExactChristoffelOfUptoRow.holds Try.pinned (OpenSpec.upto fnExactChristoffelOfSpec)

/-- 'laws.FnExactMirrorWord', WHERE WHAT IT READS IS OF BULK AT MOST 1048576: true; the input reads as it did. -/
def fnExactMirrorWordUptoRow : OpenClaim := { program := "ytbpdjlpfmhanlaa", sum := "b072228434dc1494b50ea333811c37c8ebdef6027f5a512c3730bc1b5de646fe", func := "loop.example/g01122/laws.FnExactMirrorWord", spec := "fnExactMirrorWord", unfollowed := true, recurses := true, apart := false, narrowed := true }
def FnExactMirrorWordUptoSaid : Prop := fnExactMirrorWordUptoRow.holds Try.pinned (OpenSpec.upto fnExactMirrorWordSpec)

/-- 'laws.FnExactWordOfRank', WHERE WHAT IT READS IS OF BULK AT MOST 1048576: true; the input reads as it did. -/
def fnExactWordOfRankUptoRow : OpenClaim := { program := "ytbpdjlpfmhanlaa", sum := "b072228434dc1494b50ea333811c37c8ebdef6027f5a512c3730bc1b5de646fe", func := "loop.example/g01122/laws.FnExactWordOfRank", spec := "fnExactWordOfRank", apart := false, narrowed := true }
def FnExactWordOfRankUptoSaid : Prop := fnExactWordOfRankUptoRow.holds Try.pinned (OpenSpec.upto fnExactWordOfRankSpec)

/-- 'laws.FnExactIsMarkov', WHERE WHAT IT READS IS OF BULK AT MOST 1048576: true; the input reads as it did. -/
def fnExactIsMarkovUptoRow : OpenClaim := { program := "ytbpdjlpfmhanlaa", sum := "b072228434dc1494b50ea333811c37c8ebdef6027f5a512c3730bc1b5de646fe", func := "loop.example/g01122/laws.FnExactIsMarkov", spec := "fnExactIsMarkov", unfollowed := true, recurses := true, apart := false, narrowed := true }
def FnExactIsMarkovUptoSaid : Prop := fnExactIsMarkovUptoRow.holds Try.pinned (OpenSpec.upto fnExactIsMarkovSpec)

/-- 'laws.FnExactRankOfWord', WHERE WHAT IT READS IS OF BULK AT MOST 1048576: true; the input reads as it did. -/
def fnExactRankOfWordUptoRow : OpenClaim := { program := "ytbpdjlpfmhanlaa", sum := "b072228434dc1494b50ea333811c37c8ebdef6027f5a512c3730bc1b5de646fe", func := "loop.example/g01122/laws.FnExactRankOfWord", spec := "fnExactRankOfWord", unfollowed := true, recurses := true, apart := false, narrowed := true }
def FnExactRankOfWordUptoSaid : Prop := fnExactRankOfWordUptoRow.holds Try.pinned (OpenSpec.upto fnExactRankOfWordSpec)

/-- 'laws.FnExactRightOfPair', WHERE WHAT IT READS IS OF BULK AT MOST 1048576: true; the input reads as it did. -/
def fnExactRightOfPairUptoRow : OpenClaim := { program := "ytbpdjlpfmhanlaa", sum := "b072228434dc1494b50ea333811c37c8ebdef6027f5a512c3730bc1b5de646fe", func := "loop.example/g01122/laws.FnExactRightOfPair", spec := "fnExactRightOfPair", recurses := true, apart := false, narrowed := true }
def FnExactRightOfPairUptoSaid : Prop := fnExactRightOfPairUptoRow.holds Try.pinned (OpenSpec.upto fnExactRightOfPairSpec)

/-- 'laws.FnExactSolvesMarkov', WHERE WHAT IT READS IS OF BULK AT MOST 1048576: true; the input reads as it did. -/
def fnExactSolvesMarkovUptoRow : OpenClaim := { program := "ytbpdjlpfmhanlaa", sum := "b072228434dc1494b50ea333811c37c8ebdef6027f5a512c3730bc1b5de646fe", func := "loop.example/g01122/laws.FnExactSolvesMarkov", spec := "fnExactSolvesMarkov", unfollowed := true, recurses := true, apart := false, narrowed := true }
def FnExactSolvesMarkovUptoSaid : Prop := fnExactSolvesMarkovUptoRow.holds Try.pinned (OpenSpec.upto fnExactSolvesMarkovSpec)

/-- 'laws.FnExactDivisorOf', WHERE WHAT IT READS IS OF BULK AT MOST 1048576: true; the input reads as it did. -/
def fnExactDivisorOfUptoRow : OpenClaim := { program := "ytbpdjlpfmhanlaa", sum := "b072228434dc1494b50ea333811c37c8ebdef6027f5a512c3730bc1b5de646fe", func := "loop.example/g01122/laws.FnExactDivisorOf", spec := "fnExactDivisorOf", unfollowed := true, recurses := true, apart := false, narrowed := true }
def FnExactDivisorOfUptoSaid : Prop := fnExactDivisorOfUptoRow.holds Try.pinned (OpenSpec.upto fnExactDivisorOfSpec)

/-- 'laws.FnExactModCount', WHERE WHAT IT READS IS OF BULK AT MOST 1048576: true; the input reads as it did. -/
def fnExactModCountUptoRow : OpenClaim := { program := "ytbpdjlpfmhanlaa", sum := "b072228434dc1494b50ea333811c37c8ebdef6027f5a512c3730bc1b5de646fe", func := "loop.example/g01122/laws.FnExactModCount", spec := "fnExactModCount", unfollowed := true, recurses := true, apart := false, narrowed := true }
def FnExactModCountUptoSaid : Prop := fnExactModCountUptoRow.holds Try.pinned (OpenSpec.upto fnExactModCountSpec)

end Rows
end Go.Proofs.Ytbpdjlpfmhanlaa
