/-
  No cell of these rows narrows 'for every input' (looked for: loops, veiled, ifaces, maps, wideKeys, modest, calm, conditions, laid).
  DERIVED. THE GIVEN ROWS OF THIS SEAT. 12 by the template 'for every input the law returns true; each argument reads behind the call as it read before'; 0 by the template 'total and deterministic' (their statements: YthkmbkibceojlaaTotals.lean).
  GIVEN WITH THE SEED: the statements are not yours to turn. If you find one false, say at which input.
  Laid BY PROGRAM, IN A SANDBOX (cutbox-rows.mjs): the forced cells as the released guide's own fill.sh prints them over the translation 6d060b64beafe976… (all of the seat's roots in one cut). By AI agents, Wed Nov 11 2026. No macro, syntax, notation, axiom, sorry.
-/
import Derived.Test.YthkmbkibceojlaaChecked
import GoSem.Claim
import GoSem.ClaimJoined
import GoSem.ClaimMapViews
import Derived.JoinedTies
import Derived.KernelRfl
namespace Go.Proofs.Ythkmbkibceojlaa
/- THE CELL 'sum', in the pinned program and in every row, IS THE sha256 OF THE DUMP (.gsa) THAT YthkmbkibceojlaaProg.lean LOADS. Nothing in Lean hashes anything: it is a label: what it is worth is what the hold of that sum in a sandbox is worth. -/
noncomputable def Try.pinned : Pinned := { name := "ythkmbkibceojlaa", sum := "6d060b64beafe9767fefe60fc37a6b22cc033e03d93885ae4cb6f6dfb38d6947", checked := Try.checked }
namespace Rows
def none {H : Type} : Left H := { results := [], args := [] }

/-- 'laws.FnExactMinusOneRoot': WHATEVER THE INPUT: true; the input reads as it did. -/
def fnExactMinusOneRootSpec : ChangeSpec := { name := "fnExactMinusOneRoot", fn := fun _ => fun
  | [d] => { results := [.lit (.bool true)], args := [d] }
  | _ => none }
def fnExactMinusOneRootRow : OpenClaim := { program := "ythkmbkibceojlaa", sum := "6d060b64beafe9767fefe60fc37a6b22cc033e03d93885ae4cb6f6dfb38d6947", func := "loop.example/g01122/laws.FnExactMinusOneRoot", spec := "fnExactMinusOneRoot", unfollowed := true, recurses := true, plainKeys := false, apart := false }
def FnExactMinusOneRootSaid : Prop := fnExactMinusOneRootRow.holds Try.pinned (OpenSpec.ofChange fnExactMinusOneRootSpec)

/-- ITS FALSE NEIGHBOUR: 'it returns false'. Refute it at one input. -/
def fnExactMinusOneRootWrong : ChangeSpec := { name := "fnExactMinusOneRoot", fn := fun _ => fun
  | [d] => { results := [.lit (.bool false)], args := [d] }
  | _ => none }
def FnExactMinusOneRootWrongFalsely : Prop := fnExactMinusOneRootRow.holds Try.pinned (OpenSpec.ofChange fnExactMinusOneRootWrong)

/-- 'laws.FnExactModMove': WHATEVER THE INPUT: true; the input reads as it did. -/
def fnExactModMoveSpec : ChangeSpec := { name := "fnExactModMove", fn := fun _ => fun
  | [d1, d2, d3] => { results := [.lit (.bool true)], args := [d1, d2, d3] }
  | _ => none }
def fnExactModMoveRow : OpenClaim := { program := "ythkmbkibceojlaa", sum := "6d060b64beafe9767fefe60fc37a6b22cc033e03d93885ae4cb6f6dfb38d6947", func := "loop.example/g01122/laws.FnExactModMove", spec := "fnExactModMove", unfollowed := true, recurses := true, plainKeys := false, apart := false }
def FnExactModMoveSaid : Prop := fnExactModMoveRow.holds Try.pinned (OpenSpec.ofChange fnExactModMoveSpec)

/-- ITS FALSE NEIGHBOUR: 'it returns false'. Refute it at one input. -/
def fnExactModMoveWrong : ChangeSpec := { name := "fnExactModMove", fn := fun _ => fun
  | [d1, d2, d3] => { results := [.lit (.bool false)], args := [d1, d2, d3] }
  | _ => none }
def FnExactModMoveWrongFalsely : Prop := fnExactModMoveRow.holds Try.pinned (OpenSpec.ofChange fnExactModMoveWrong)

/-- 'laws.FnExactMarkovDown': WHATEVER THE INPUT: true; the input reads as it did. -/
def fnExactMarkovDownSpec : ChangeSpec := { name := "fnExactMarkovDown", fn := fun _ => fun
  | [d] => { results := [.lit (.bool true)], args := [d] }
  | _ => none }
def fnExactMarkovDownRow : OpenClaim := { program := "ythkmbkibceojlaa", sum := "6d060b64beafe9767fefe60fc37a6b22cc033e03d93885ae4cb6f6dfb38d6947", func := "loop.example/g01122/laws.FnExactMarkovDown", spec := "fnExactMarkovDown", unfollowed := true, recurses := true, plainKeys := false, apart := false }
def FnExactMarkovDownSaid : Prop := fnExactMarkovDownRow.holds Try.pinned (OpenSpec.ofChange fnExactMarkovDownSpec)

/-- ITS FALSE NEIGHBOUR: 'it returns false'. Refute it at one input. -/
def fnExactMarkovDownWrong : ChangeSpec := { name := "fnExactMarkovDown", fn := fun _ => fun
  | [d] => { results := [.lit (.bool false)], args := [d] }
  | _ => none }
def FnExactMarkovDownWrongFalsely : Prop := fnExactMarkovDownRow.holds Try.pinned (OpenSpec.ofChange fnExactMarkovDownWrong)

/-- 'laws.FnExactMarkovOfWord': WHATEVER THE INPUT: true; the input reads as it did. -/
def fnExactMarkovOfWordSpec : ChangeSpec := { name := "fnExactMarkovOfWord", fn := fun _ => fun
  | [d] => { results := [.lit (.bool true)], args := [d] }
  | _ => none }
def fnExactMarkovOfWordRow : OpenClaim := { program := "ythkmbkibceojlaa", sum := "6d060b64beafe9767fefe60fc37a6b22cc033e03d93885ae4cb6f6dfb38d6947", func := "loop.example/g01122/laws.FnExactMarkovOfWord", spec := "fnExactMarkovOfWord", unfollowed := true, recurses := true, plainKeys := false, apart := false }
def FnExactMarkovOfWordSaid : Prop := fnExactMarkovOfWordRow.holds Try.pinned (OpenSpec.ofChange fnExactMarkovOfWordSpec)

/-- ITS FALSE NEIGHBOUR: 'it returns false'. Refute it at one input. -/
def fnExactMarkovOfWordWrong : ChangeSpec := { name := "fnExactMarkovOfWord", fn := fun _ => fun
  | [d] => { results := [.lit (.bool false)], args := [d] }
  | _ => none }
def FnExactMarkovOfWordWrongFalsely : Prop := fnExactMarkovOfWordRow.holds Try.pinned (OpenSpec.ofChange fnExactMarkovOfWordWrong)

/-- 'laws.FnExactMarkovMove': WHATEVER THE INPUT: true; the input reads as it did. -/
def fnExactMarkovMoveSpec : ChangeSpec := { name := "fnExactMarkovMove", fn := fun _ => fun
  | [d1, d2] => { results := [.lit (.bool true)], args := [d1, d2] }
  | _ => none }
def fnExactMarkovMoveRow : OpenClaim := { program := "ythkmbkibceojlaa", sum := "6d060b64beafe9767fefe60fc37a6b22cc033e03d93885ae4cb6f6dfb38d6947", func := "loop.example/g01122/laws.FnExactMarkovMove", spec := "fnExactMarkovMove", unfollowed := true, recurses := true, plainKeys := false, apart := false }
def FnExactMarkovMoveSaid : Prop := fnExactMarkovMoveRow.holds Try.pinned (OpenSpec.ofChange fnExactMarkovMoveSpec)

/-- ITS FALSE NEIGHBOUR: 'it returns false'. Refute it at one input. -/
def fnExactMarkovMoveWrong : ChangeSpec := { name := "fnExactMarkovMove", fn := fun _ => fun
  | [d1, d2] => { results := [.lit (.bool false)], args := [d1, d2] }
  | _ => none }
def FnExactMarkovMoveWrongFalsely : Prop := fnExactMarkovMoveRow.holds Try.pinned (OpenSpec.ofChange fnExactMarkovMoveWrong)

/-- 'laws.FnExactMarkovWord': WHATEVER THE INPUT: true; the input reads as it did. -/
def fnExactMarkovWordSpec : ChangeSpec := { name := "fnExactMarkovWord", fn := fun _ => fun
  | [d] => { results := [.lit (.bool true)], args := [d] }
  | _ => none }
def fnExactMarkovWordRow : OpenClaim := { program := "ythkmbkibceojlaa", sum := "6d060b64beafe9767fefe60fc37a6b22cc033e03d93885ae4cb6f6dfb38d6947", func := "loop.example/g01122/laws.FnExactMarkovWord", spec := "fnExactMarkovWord", unfollowed := true, recurses := true, plainKeys := false, apart := false }
def FnExactMarkovWordSaid : Prop := fnExactMarkovWordRow.holds Try.pinned (OpenSpec.ofChange fnExactMarkovWordSpec)

/-- ITS FALSE NEIGHBOUR: 'it returns false'. Refute it at one input. -/
def fnExactMarkovWordWrong : ChangeSpec := { name := "fnExactMarkovWord", fn := fun _ => fun
  | [d] => { results := [.lit (.bool false)], args := [d] }
  | _ => none }
def FnExactMarkovWordWrongFalsely : Prop := fnExactMarkovWordRow.holds Try.pinned (OpenSpec.ofChange fnExactMarkovWordWrong)

/-- 'laws.FnExactMarkovPath': WHATEVER THE INPUT: true; the input reads as it did. -/
def fnExactMarkovPathSpec : ChangeSpec := { name := "fnExactMarkovPath", fn := fun _ => fun
  | [d] => { results := [.lit (.bool true)], args := [d] }
  | _ => none }
def fnExactMarkovPathRow : OpenClaim := { program := "ythkmbkibceojlaa", sum := "6d060b64beafe9767fefe60fc37a6b22cc033e03d93885ae4cb6f6dfb38d6947", func := "loop.example/g01122/laws.FnExactMarkovPath", spec := "fnExactMarkovPath", unfollowed := true, recurses := true, plainKeys := false, apart := false }
def FnExactMarkovPathSaid : Prop := fnExactMarkovPathRow.holds Try.pinned (OpenSpec.ofChange fnExactMarkovPathSpec)

/-- ITS FALSE NEIGHBOUR: 'it returns false'. Refute it at one input. -/
def fnExactMarkovPathWrong : ChangeSpec := { name := "fnExactMarkovPath", fn := fun _ => fun
  | [d] => { results := [.lit (.bool false)], args := [d] }
  | _ => none }
def FnExactMarkovPathWrongFalsely : Prop := fnExactMarkovPathRow.holds Try.pinned (OpenSpec.ofChange fnExactMarkovPathWrong)

/-- 'laws.FnExactModOrbit': WHATEVER THE INPUT: true; the input reads as it did. -/
def fnExactModOrbitSpec : ChangeSpec := { name := "fnExactModOrbit", fn := fun _ => fun
  | [d1, d2] => { results := [.lit (.bool true)], args := [d1, d2] }
  | _ => none }
def fnExactModOrbitRow : OpenClaim := { program := "ythkmbkibceojlaa", sum := "6d060b64beafe9767fefe60fc37a6b22cc033e03d93885ae4cb6f6dfb38d6947", func := "loop.example/g01122/laws.FnExactModOrbit", spec := "fnExactModOrbit", unfollowed := true, recurses := true, plainKeys := false, apart := false }
def FnExactModOrbitSaid : Prop := fnExactModOrbitRow.holds Try.pinned (OpenSpec.ofChange fnExactModOrbitSpec)

/-- ITS FALSE NEIGHBOUR: 'it returns false'. Refute it at one input. -/
def fnExactModOrbitWrong : ChangeSpec := { name := "fnExactModOrbit", fn := fun _ => fun
  | [d1, d2] => { results := [.lit (.bool false)], args := [d1, d2] }
  | _ => none }
def FnExactModOrbitWrongFalsely : Prop := fnExactModOrbitRow.holds Try.pinned (OpenSpec.ofChange fnExactModOrbitWrong)

/-- 'laws.FnMarkovModulo': WHATEVER THE INPUT: true; the input reads as it did. -/
def fnMarkovModuloSpec : ChangeSpec := { name := "fnMarkovModulo", fn := fun _ => fun
  | [d1, d2] => { results := [.lit (.bool true)], args := [d1, d2] }
  | _ => none }
def fnMarkovModuloRow : OpenClaim := { program := "ythkmbkibceojlaa", sum := "6d060b64beafe9767fefe60fc37a6b22cc033e03d93885ae4cb6f6dfb38d6947", func := "loop.example/g01122/laws.FnMarkovModulo", spec := "fnMarkovModulo", unfollowed := true, recurses := true, plainKeys := false, apart := false }
def FnMarkovModuloSaid : Prop := fnMarkovModuloRow.holds Try.pinned (OpenSpec.ofChange fnMarkovModuloSpec)

/-- ITS FALSE NEIGHBOUR: 'it returns false'. Refute it at one input. -/
def fnMarkovModuloWrong : ChangeSpec := { name := "fnMarkovModulo", fn := fun _ => fun
  | [d1, d2] => { results := [.lit (.bool false)], args := [d1, d2] }
  | _ => none }
def FnMarkovModuloWrongFalsely : Prop := fnMarkovModuloRow.holds Try.pinned (OpenSpec.ofChange fnMarkovModuloWrong)

/-- 'laws.FnMarkovWords': WHATEVER THE INPUT: true; the input reads as it did. -/
def fnMarkovWordsSpec : ChangeSpec := { name := "fnMarkovWords", fn := fun _ => fun
  | [d1, d2] => { results := [.lit (.bool true)], args := [d1, d2] }
  | _ => none }
def fnMarkovWordsRow : OpenClaim := { program := "ythkmbkibceojlaa", sum := "6d060b64beafe9767fefe60fc37a6b22cc033e03d93885ae4cb6f6dfb38d6947", func := "loop.example/g01122/laws.FnMarkovWords", spec := "fnMarkovWords", unfollowed := true, recurses := true, plainKeys := false, apart := false }
def FnMarkovWordsSaid : Prop := fnMarkovWordsRow.holds Try.pinned (OpenSpec.ofChange fnMarkovWordsSpec)

/-- ITS FALSE NEIGHBOUR: 'it returns false'. Refute it at one input. -/
def fnMarkovWordsWrong : ChangeSpec := { name := "fnMarkovWords", fn := fun _ => fun
  | [d1, d2] => { results := [.lit (.bool false)], args := [d1, d2] }
  | _ => none }
def FnMarkovWordsWrongFalsely : Prop := fnMarkovWordsRow.holds Try.pinned (OpenSpec.ofChange fnMarkovWordsWrong)

/-- 'laws.FnExactMarkovUp': WHATEVER THE INPUT: true; the input reads as it did. -/
def fnExactMarkovUpSpec : ChangeSpec := { name := "fnExactMarkovUp", fn := fun _ => fun
  | [d] => { results := [.lit (.bool true)], args := [d] }
  | _ => none }
def fnExactMarkovUpRow : OpenClaim := { program := "ythkmbkibceojlaa", sum := "6d060b64beafe9767fefe60fc37a6b22cc033e03d93885ae4cb6f6dfb38d6947", func := "loop.example/g01122/laws.FnExactMarkovUp", spec := "fnExactMarkovUp", unfollowed := true, recurses := true, plainKeys := false, apart := false }
def FnExactMarkovUpSaid : Prop := fnExactMarkovUpRow.holds Try.pinned (OpenSpec.ofChange fnExactMarkovUpSpec)

/-- ITS FALSE NEIGHBOUR: 'it returns false'. Refute it at one input. -/
def fnExactMarkovUpWrong : ChangeSpec := { name := "fnExactMarkovUp", fn := fun _ => fun
  | [d] => { results := [.lit (.bool false)], args := [d] }
  | _ => none }
def FnExactMarkovUpWrongFalsely : Prop := fnExactMarkovUpRow.holds Try.pinned (OpenSpec.ofChange fnExactMarkovUpWrong)

/-- 'laws.FnMarkovMoves': WHATEVER THE INPUT: true; the input reads as it did. -/
def fnMarkovMovesSpec : ChangeSpec := { name := "fnMarkovMoves", fn := fun _ => fun
  | [d1, d2] => { results := [.lit (.bool true)], args := [d1, d2] }
  | _ => none }
def fnMarkovMovesRow : OpenClaim := { program := "ythkmbkibceojlaa", sum := "6d060b64beafe9767fefe60fc37a6b22cc033e03d93885ae4cb6f6dfb38d6947", func := "loop.example/g01122/laws.FnMarkovMoves", spec := "fnMarkovMoves", unfollowed := true, recurses := true, plainKeys := false, apart := false }
def FnMarkovMovesSaid : Prop := fnMarkovMovesRow.holds Try.pinned (OpenSpec.ofChange fnMarkovMovesSpec)

/-- ITS FALSE NEIGHBOUR: 'it returns false'. Refute it at one input. -/
def fnMarkovMovesWrong : ChangeSpec := { name := "fnMarkovMoves", fn := fun _ => fun
  | [d1, d2] => { results := [.lit (.bool false)], args := [d1, d2] }
  | _ => none }
def FnMarkovMovesWrongFalsely : Prop := fnMarkovMovesRow.holds Try.pinned (OpenSpec.ofChange fnMarkovMovesWrong)

/- THE SECOND FORM. 'bulk': how many values and letters a reading holds, each counted each time it is reached (what is shared counts as often as it is met; a slice's spare places count too). A statement '..UptoSaid' is the law's where the arguments, and the package variables that the reading takes, are together of bulk at most 1048576: NARROWER than '..Said'. Prove '..Said' where nothing that the law and all that it calls make is longer than what came in: it says more and counts as full. Else prove '..UptoSaid'. A law counts once. -/
mutual
def uptoBulk {H : Type} : DataW H → Nat
  | .lit (.string bytes) => bytes.length + 1
  | .lit _ => 1
  | .nil => 1
  | .ptr d => uptoBulk d + 1
  | .slice elems spare => uptoBulkAll elems + uptoBulkAll spare + 1
  | .agg parts => uptoBulkAll parts + 1
  | .iface _ d => uptoBulk d + 1
  | .map entries => uptoBulkEntries entries + 1
  | .held _ => 1
def uptoBulkAll {H : Type} : List (DataW H) → Nat
  | [] => 0
  | d :: r => uptoBulk d + uptoBulkAll r
def uptoBulkEntries {H : Type} : List (Lit × DataW H) → Nat
  | [] => 0
  | x :: r => uptoBulkEntry x + uptoBulkEntries r
def uptoBulkEntry {H : Type} : Lit × DataW H → Nat
  | (.string bytes, d) => bytes.length + uptoBulk d + 1
  | (_, d) => uptoBulk d + 1
 end
def uptoSmall : (H : Type) → List (DataW H) → Bool := fun _ ds => decide (uptoBulkAll ds ≤ 1048576)
def OpenSpec.upto (s : _root_.Go.ChangeSpec) : _root_.Go.OpenSpec := { _root_.Go.OpenSpec.ofChange s with cond := some uptoSmall }

/-- 'laws.FnExactMinusOneRoot', WHERE WHAT IT READS IS OF BULK AT MOST 1048576: true; the input reads as it did. -/
def fnExactMinusOneRootUptoRow : OpenClaim := { program := "ythkmbkibceojlaa", sum := "6d060b64beafe9767fefe60fc37a6b22cc033e03d93885ae4cb6f6dfb38d6947", func := "loop.example/g01122/laws.FnExactMinusOneRoot", spec := "fnExactMinusOneRoot", unfollowed := true, recurses := true, plainKeys := false, apart := false, narrowed := true }
def FnExactMinusOneRootUptoSaid : Prop := fnExactMinusOneRootUptoRow.holds Try.pinned (OpenSpec.upto fnExactMinusOneRootSpec)

/-- 'laws.FnExactModMove', WHERE WHAT IT READS IS OF BULK AT MOST 1048576: true; the input reads as it did. -/
def fnExactModMoveUptoRow : OpenClaim := { program := "ythkmbkibceojlaa", sum := "6d060b64beafe9767fefe60fc37a6b22cc033e03d93885ae4cb6f6dfb38d6947", func := "loop.example/g01122/laws.FnExactModMove", spec := "fnExactModMove", unfollowed := true, recurses := true, plainKeys := false, apart := false, narrowed := true }
def FnExactModMoveUptoSaid : Prop := fnExactModMoveUptoRow.holds Try.pinned (OpenSpec.upto fnExactModMoveSpec)

/-- 'laws.FnExactMarkovDown', WHERE WHAT IT READS IS OF BULK AT MOST 1048576: true; the input reads as it did. -/
def fnExactMarkovDownUptoRow : OpenClaim := { program := "ythkmbkibceojlaa", sum := "6d060b64beafe9767fefe60fc37a6b22cc033e03d93885ae4cb6f6dfb38d6947", func := "loop.example/g01122/laws.FnExactMarkovDown", spec := "fnExactMarkovDown", unfollowed := true, recurses := true, plainKeys := false, apart := false, narrowed := true }
def FnExactMarkovDownUptoSaid : Prop := fnExactMarkovDownUptoRow.holds Try.pinned (OpenSpec.upto fnExactMarkovDownSpec)

/-- 'laws.FnExactMarkovOfWord', WHERE WHAT IT READS IS OF BULK AT MOST 1048576: true; the input reads as it did. -/
def fnExactMarkovOfWordUptoRow : OpenClaim := { program := "ythkmbkibceojlaa", sum := "6d060b64beafe9767fefe60fc37a6b22cc033e03d93885ae4cb6f6dfb38d6947", func := "loop.example/g01122/laws.FnExactMarkovOfWord", spec := "fnExactMarkovOfWord", unfollowed := true, recurses := true, plainKeys := false, apart := false, narrowed := true }
def FnExactMarkovOfWordUptoSaid : Prop := fnExactMarkovOfWordUptoRow.holds Try.pinned (OpenSpec.upto fnExactMarkovOfWordSpec)

/-- 'laws.FnExactMarkovMove', WHERE WHAT IT READS IS OF BULK AT MOST 1048576: true; the input reads as it did. -/
def fnExactMarkovMoveUptoRow : OpenClaim := { program := "ythkmbkibceojlaa", sum := "6d060b64beafe9767fefe60fc37a6b22cc033e03d93885ae4cb6f6dfb38d6947", func := "loop.example/g01122/laws.FnExactMarkovMove", spec := "fnExactMarkovMove", unfollowed := true, recurses := true, plainKeys := false, apart := false, narrowed := true }
def FnExactMarkovMoveUptoSaid : Prop := fnExactMarkovMoveUptoRow.holds Try.pinned (OpenSpec.upto fnExactMarkovMoveSpec)

/-- 'laws.FnExactMarkovWord', WHERE WHAT IT READS IS OF BULK AT MOST 1048576: true; the input reads as it did. -/
def fnExactMarkovWordUptoRow : OpenClaim := { program := "ythkmbkibceojlaa", sum := "6d060b64beafe9767fefe60fc37a6b22cc033e03d93885ae4cb6f6dfb38d6947", func := "loop.example/g01122/laws.FnExactMarkovWord", spec := "fnExactMarkovWord", unfollowed := true, recurses := true, plainKeys := false, apart := false, narrowed := true }
def FnExactMarkovWordUptoSaid : Prop := fnExactMarkovWordUptoRow.holds Try.pinned (OpenSpec.upto fnExactMarkovWordSpec)

/-- 'laws.FnExactMarkovPath', WHERE WHAT IT READS IS OF BULK AT MOST 1048576: true; the input reads as it did. -/
def fnExactMarkovPathUptoRow : OpenClaim := { program := "ythkmbkibceojlaa", sum := "6d060b64beafe9767fefe60fc37a6b22cc033e03d93885ae4cb6f6dfb38d6947", func := "loop.example/g01122/laws.FnExactMarkovPath", spec := "fnExactMarkovPath", unfollowed := true, recurses := true, plainKeys := false, apart := false, narrowed := true }
def FnExactMarkovPathUptoSaid : Prop := fnExactMarkovPathUptoRow.holds Try.pinned (OpenSpec.upto fnExactMarkovPathSpec)

/-- 'laws.FnExactModOrbit', WHERE WHAT IT READS IS OF BULK AT MOST 1048576: true; the input reads as it did. -/
def fnExactModOrbitUptoRow : OpenClaim := { program := "ythkmbkibceojlaa", sum := "6d060b64beafe9767fefe60fc37a6b22cc033e03d93885ae4cb6f6dfb38d6947", func := "loop.example/g01122/laws.FnExactModOrbit", spec := "fnExactModOrbit", unfollowed := true, recurses := true, plainKeys := false, apart := false, narrowed := true }
def FnExactModOrbitUptoSaid : Prop := fnExactModOrbitUptoRow.holds Try.pinned (OpenSpec.upto fnExactModOrbitSpec)

/-- 'laws.FnMarkovModulo', WHERE WHAT IT READS IS OF BULK AT MOST 1048576: true; the input reads as it did. -/
def fnMarkovModuloUptoRow : OpenClaim := { program := "ythkmbkibceojlaa", sum := "6d060b64beafe9767fefe60fc37a6b22cc033e03d93885ae4cb6f6dfb38d6947", func := "loop.example/g01122/laws.FnMarkovModulo", spec := "fnMarkovModulo", unfollowed := true, recurses := true, plainKeys := false, apart := false, narrowed := true }
def FnMarkovModuloUptoSaid : Prop := fnMarkovModuloUptoRow.holds Try.pinned (OpenSpec.upto fnMarkovModuloSpec)

/-- 'laws.FnMarkovWords', WHERE WHAT IT READS IS OF BULK AT MOST 1048576: true; the input reads as it did. -/
def fnMarkovWordsUptoRow : OpenClaim := { program := "ythkmbkibceojlaa", sum := "6d060b64beafe9767fefe60fc37a6b22cc033e03d93885ae4cb6f6dfb38d6947", func := "loop.example/g01122/laws.FnMarkovWords", spec := "fnMarkovWords", unfollowed := true, recurses := true, plainKeys := false, apart := false, narrowed := true }
def FnMarkovWordsUptoSaid : Prop := fnMarkovWordsUptoRow.holds Try.pinned (OpenSpec.upto fnMarkovWordsSpec)

/-- 'laws.FnExactMarkovUp', WHERE WHAT IT READS IS OF BULK AT MOST 1048576: true; the input reads as it did. -/
def fnExactMarkovUpUptoRow : OpenClaim := { program := "ythkmbkibceojlaa", sum := "6d060b64beafe9767fefe60fc37a6b22cc033e03d93885ae4cb6f6dfb38d6947", func := "loop.example/g01122/laws.FnExactMarkovUp", spec := "fnExactMarkovUp", unfollowed := true, recurses := true, plainKeys := false, apart := false, narrowed := true }
def FnExactMarkovUpUptoSaid : Prop := fnExactMarkovUpUptoRow.holds Try.pinned (OpenSpec.upto fnExactMarkovUpSpec)

/-- 'laws.FnMarkovMoves', WHERE WHAT IT READS IS OF BULK AT MOST 1048576: true; the input reads as it did. -/
def fnMarkovMovesUptoRow : OpenClaim := { program := "ythkmbkibceojlaa", sum := "6d060b64beafe9767fefe60fc37a6b22cc033e03d93885ae4cb6f6dfb38d6947", func := "loop.example/g01122/laws.FnMarkovMoves", spec := "fnMarkovMoves", unfollowed := true, recurses := true, plainKeys := false, apart := false, narrowed := true }
def FnMarkovMovesUptoSaid : Prop := fnMarkovMovesUptoRow.holds Try.pinned (OpenSpec.upto fnMarkovMovesSpec)

end Rows
end Go.Proofs.Ythkmbkibceojlaa
