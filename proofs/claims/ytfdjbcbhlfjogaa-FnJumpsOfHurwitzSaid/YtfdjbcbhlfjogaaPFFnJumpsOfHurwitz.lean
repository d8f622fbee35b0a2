-- written by mp.py (a program of this session over the kit's printer) out of the translation; Lean checks it
import Derived.Test.YtfdjbcbhlfjogaaP0
import Derived.Test.YtfdjbcbhlfjogaaPFspecOtherRootAt
import Derived.Test.YtfdjbcbhlfjogaaPFimplOtherRootAt
import Derived.Test.YtfdjbcbhlfjogaaPFspecJumpAt
import Derived.Test.YtfdjbcbhlfjogaaPFimplJumpAt
import Derived.Test.YtfdjbcbhlfjogaaPFbig
import Derived.Test.YtfdjbcbhlfjogaaPFspecDrawJumpAt
import Derived.Test.YtfdjbcbhlfjogaaPFvSame
import Derived.Test.YtfdjbcbhlfjogaaPFvSquares
import Derived.Test.YtfdjbcbhlfjogaaPFvSolves
import Derived.Test.YtfdjbcbhlfjogaaPFvSum
namespace Go.Proofs.Ytfdjbcbhlfjogaa.P
open Go.RowKit Go.Proofs.YtfdjbcbhlfjogaaW.PrintWords Go.Proofs.YtfdjbcbhlfjogaaW.PrintLast
set_option linter.unusedVariables false
set_option linter.unusedSimpArgs false

/-! ### laws_FnJumpsOfHurwitz: function 14 -/
mutual
def laws_FnJumpsOfHurwitz.j0 : Nat → List Int → Int → Int → Int → List Int → Bool → Bool → Int → Bool → Bool → Option (Bool)
 | 0, _, _, _, _, _, _, _, _, _, _ => none
 | k + 1, x5, x6, x7, x8, x9, x10, x12, x13, x14, x89 => if x89 = true then (some false) else (if x14 = true then ((laws_vSquares.f k x5).bind fun t678 => (if 0 ≤ x8 then (if x8 < (x5.length : Int) then (if (wrap64 (x13 * (rd x5 x8))) = (wrap64 ((wrap64 (t678 - (wrap64 ((rd x5 x8) * (rd x5 x8))))) - x7)) then (if x13 ≥ 1 then (if (x10 != (decide (x13 ≤ 100000))) = true then (some false) else (laws_FnJumpsOfHurwitz.j1 k x5 x6 x7 x8 x9 x12 x13)) else (if (x10 != false) = true then (some false) else (laws_FnJumpsOfHurwitz.j1 k x5 x6 x7 x8 x9 x12 x13))) else (some false)) else (none)) else (none))) else (laws_FnJumpsOfHurwitz.j1 k x5 x6 x7 x8 x9 x12 x13))
def laws_FnJumpsOfHurwitz.j1 : Nat → List Int → Int → Int → Int → List Int → Bool → Int → Option (Bool)
 | 0, _, _, _, _, _, _, _ => none
 | k + 1, x5, x6, x7, x8, x9, x12, x13 => if x12 = true then ((laws_vSolves.f k x9 x6 x7).bind fun t682 => (if t682 = true then ((laws_vSum.f k x9).bind fun t683 => ((laws_vSum.f k x5).bind fun t684 => (if 0 ≤ x8 then (if x8 < (x5.length : Int) then (laws_FnJumpsOfHurwitz.j2 k x5 x6 x7 x9 x13 (t683 != (wrap64 ((wrap64 (t684 - (rd x5 x8))) + x13)))) else (none)) else (none)))) else (laws_FnJumpsOfHurwitz.j2 k x5 x6 x7 x9 x13 true))) else (some true)
def laws_FnJumpsOfHurwitz.j2 : Nat → List Int → Int → Int → List Int → Int → Bool → Option (Bool)
 | 0, _, _, _, _, _, _ => none
 | k + 1, x5, x6, x7, x9, x13, x143 => if x143 = true then (some false) else (laws_FnJumpsOfHurwitz.l0 k x5 x6 x7 x9 x13 x9 (x9.length : Int) 0)
def laws_FnJumpsOfHurwitz.l0 : Nat → List Int → Int → Int → List Int → Int → List Int → Int → Int → Option (Bool)
 | 0, _, _, _, _, _, _, _, _ => none
 | k + 1, x5, x6, x7, x9, x13, x144, x145, x146 => if x146 < x145 then (if 0 ≤ x146 then (if x146 < (x144.length : Int) then (if (rd x144 x146) = x13 then ((impl_JumpAt.f k x9 x6 x7 x146).bind fun bt687 => (if bt687.2 = true then ((laws_vSame.f k bt687.1 x5).bind fun t691 => (some t691)) else (some false))) else (laws_FnJumpsOfHurwitz.l0 k x5 x6 x7 x9 x13 x144 x145 (wrap64 (x146 + 1)))) else (none)) else (none)) else (some false)
end
def laws_FnJumpsOfHurwitz.f (k : Nat) (l0 : List Int) (l1 : List Int) : Option (Bool) := (laws_big.f l0 l1).bind fun t658 => (if t658 = true then (some true) else ((spec_DrawJumpAt.f k l0).bind fun bt659 => ((impl_JumpAt.f k bt659.1 bt659.2.1 bt659.2.2.1 bt659.2.2.2).bind fun bt665 => ((spec_JumpAt.f k bt659.1 bt659.2.1 bt659.2.2.1 bt659.2.2.2).bind fun bt669 => ((impl_OtherRootAt.f k bt659.1 bt659.2.1 bt659.2.2.1 bt659.2.2.2).bind fun bt673 => ((spec_OtherRootAt.f k bt659.1 bt659.2.1 bt659.2.2.1 bt659.2.2.2).bind fun bt675 => (if (bt665.2 != bt669.2) = true then (laws_FnJumpsOfHurwitz.j0 k bt659.1 bt659.2.1 bt659.2.2.1 bt659.2.2.2 bt665.1 bt665.2 bt669.2 bt673.1 bt673.2 true) else ((laws_vSame.f k bt665.1 bt669.1).bind fun t677 => (if t677 = true then (if (bt673.2 != bt675.2) = true then (laws_FnJumpsOfHurwitz.j0 k bt659.1 bt659.2.1 bt659.2.2.1 bt659.2.2.2 bt665.1 bt665.2 bt669.2 bt673.1 bt673.2 true) else (if bt673.1 = bt675.1 then (if bt665.2 = true then (laws_FnJumpsOfHurwitz.j0 k bt659.1 bt659.2.1 bt659.2.2.1 bt659.2.2.2 bt665.1 bt665.2 bt669.2 bt673.1 bt673.2 (!bt673.2)) else (laws_FnJumpsOfHurwitz.j0 k bt659.1 bt659.2.1 bt659.2.2.1 bt659.2.2.2 bt665.1 bt665.2 bt669.2 bt673.1 bt673.2 false)) else (laws_FnJumpsOfHurwitz.j0 k bt659.1 bt659.2.1 bt659.2.2.1 bt659.2.2.2 bt665.1 bt665.2 bt669.2 bt673.1 bt673.2 true))) else (laws_FnJumpsOfHurwitz.j0 k bt659.1 bt659.2.1 bt659.2.2.1 bt659.2.2.2 bt665.1 bt665.2 bt669.2 bt673.1 bt673.2 true))))))))))
theorem laws_FnJumpsOfHurwitz.mono_l : ∀ k, (∀ y0 y1 y2 y3 y4 y5 y6 y7 y8 y9, LeO (laws_FnJumpsOfHurwitz.j0 k y0 y1 y2 y3 y4 y5 y6 y7 y8 y9) (laws_FnJumpsOfHurwitz.j0 (k + 1) y0 y1 y2 y3 y4 y5 y6 y7 y8 y9)) ∧ (∀ y0 y1 y2 y3 y4 y5 y6, LeO (laws_FnJumpsOfHurwitz.j1 k y0 y1 y2 y3 y4 y5 y6) (laws_FnJumpsOfHurwitz.j1 (k + 1) y0 y1 y2 y3 y4 y5 y6)) ∧ (∀ y0 y1 y2 y3 y4 y5, LeO (laws_FnJumpsOfHurwitz.j2 k y0 y1 y2 y3 y4 y5) (laws_FnJumpsOfHurwitz.j2 (k + 1) y0 y1 y2 y3 y4 y5)) ∧ (∀ y0 y1 y2 y3 y4 y5 y6 y7, LeO (laws_FnJumpsOfHurwitz.l0 k y0 y1 y2 y3 y4 y5 y6 y7) (laws_FnJumpsOfHurwitz.l0 (k + 1) y0 y1 y2 y3 y4 y5 y6 y7))
 | 0 => ⟨fun _ _ _ _ _ _ _ _ _ _ r h => by simp [laws_FnJumpsOfHurwitz.j0] at h, fun _ _ _ _ _ _ _ r h => by simp [laws_FnJumpsOfHurwitz.j1] at h, fun _ _ _ _ _ _ r h => by simp [laws_FnJumpsOfHurwitz.j2] at h, fun _ _ _ _ _ _ _ _ r h => by simp [laws_FnJumpsOfHurwitz.l0] at h⟩
 | k + 1 => by
  obtain ⟨ih0, ih1, ih2, ih3⟩ := laws_FnJumpsOfHurwitz.mono_l k
  refine ⟨?_, ?_, ?_, ?_⟩
  ·intro y0 y1 y2 y3 y4 y5 y6 y7 y8 y9
   unfold laws_FnJumpsOfHurwitz.j0
   repeat' first
   | (with_reducible exact ih0 _ _ _ _ _ _ _ _ _ _)
   | (with_reducible exact ih1 _ _ _ _ _ _ _)
   | (with_reducible exact ih2 _ _ _ _ _ _)
   | (with_reducible exact ih3 _ _ _ _ _ _ _ _)
   | (with_reducible exact impl_JumpAt.mono _ _ _ _ _)
   | (with_reducible exact impl_OtherRootAt.mono _ _ _ _ _)
   | (with_reducible exact laws_vSame.mono _ _ _)
   | (with_reducible exact laws_vSolves.mono _ _ _ _)
   | (with_reducible exact laws_vSquares.mono _ _)
   | (with_reducible exact laws_vSum.mono _ _)
   | (with_reducible exact spec_DrawJumpAt.mono _ _)
   | (with_reducible exact spec_JumpAt.mono _ _ _ _ _)
   | (with_reducible exact spec_OtherRootAt.mono _ _ _ _ _)
   | (with_reducible exact LeO.refl _)
   | (with_reducible exact LeO.none _)
   | (with_reducible refine LeO.ite ?_ ?_)
   | (with_reducible refine LeO.bind ?_ (fun _ => ?_))
   | exact ih0 _ _ _ _ _ _ _ _ _ _
   | exact ih1 _ _ _ _ _ _ _
   | exact ih2 _ _ _ _ _ _
   | exact ih3 _ _ _ _ _ _ _ _
   | exact impl_JumpAt.mono _ _ _ _ _
   | exact impl_OtherRootAt.mono _ _ _ _ _
   | exact laws_vSame.mono _ _ _
   | exact laws_vSolves.mono _ _ _ _
   | exact laws_vSquares.mono _ _
   | exact laws_vSum.mono _ _
   | exact spec_DrawJumpAt.mono _ _
   | exact spec_JumpAt.mono _ _ _ _ _
   | exact spec_OtherRootAt.mono _ _ _ _ _
   | exact LeO.none _
   | refine LeO.ite ?_ ?_
   | refine LeO.bind ?_ (fun _ => ?_)
  ·intro y0 y1 y2 y3 y4 y5 y6
   unfold laws_FnJumpsOfHurwitz.j1
   repeat' first
   | (with_reducible exact ih0 _ _ _ _ _ _ _ _ _ _)
   | (with_reducible exact ih1 _ _ _ _ _ _ _)
   | (with_reducible exact ih2 _ _ _ _ _ _)
   | (with_reducible exact ih3 _ _ _ _ _ _ _ _)
   | (with_reducible exact impl_JumpAt.mono _ _ _ _ _)
   | (with_reducible exact impl_OtherRootAt.mono _ _ _ _ _)
   | (with_reducible exact laws_vSame.mono _ _ _)
   | (with_reducible exact laws_vSolves.mono _ _ _ _)
   | (with_reducible exact laws_vSquares.mono _ _)
   | (with_reducible exact laws_vSum.mono _ _)
   | (with_reducible exact spec_DrawJumpAt.mono _ _)
   | (with_reducible exact spec_JumpAt.mono _ _ _ _ _)
   | (with_reducible exact spec_OtherRootAt.mono _ _ _ _ _)
   | (with_reducible exact LeO.refl _)
   | (with_reducible exact LeO.none _)
   | (with_reducible refine LeO.ite ?_ ?_)
   | (with_reducible refine LeO.bind ?_ (fun _ => ?_))
   | exact ih0 _ _ _ _ _ _ _ _ _ _
   | exact ih1 _ _ _ _ _ _ _
   | exact ih2 _ _ _ _ _ _
   | exact ih3 _ _ _ _ _ _ _ _
   | exact impl_JumpAt.mono _ _ _ _ _
   | exact impl_OtherRootAt.mono _ _ _ _ _
   | exact laws_vSame.mono _ _ _
   | exact laws_vSolves.mono _ _ _ _
   | exact laws_vSquares.mono _ _
   | exact laws_vSum.mono _ _
   | exact spec_DrawJumpAt.mono _ _
   | exact spec_JumpAt.mono _ _ _ _ _
   | exact spec_OtherRootAt.mono _ _ _ _ _
   | exact LeO.none _
   | refine LeO.ite ?_ ?_
   | refine LeO.bind ?_ (fun _ => ?_)
  ·intro y0 y1 y2 y3 y4 y5
   unfold laws_FnJumpsOfHurwitz.j2
   repeat' first
   | (with_reducible exact ih0 _ _ _ _ _ _ _ _ _ _)
   | (with_reducible exact ih1 _ _ _ _ _ _ _)
   | (with_reducible exact ih2 _ _ _ _ _ _)
   | (with_reducible exact ih3 _ _ _ _ _ _ _ _)
   | (with_reducible exact impl_JumpAt.mono _ _ _ _ _)
   | (with_reducible exact impl_OtherRootAt.mono _ _ _ _ _)
   | (with_reducible exact laws_vSame.mono _ _ _)
   | (with_reducible exact laws_vSolves.mono _ _ _ _)
   | (with_reducible exact laws_vSquares.mono _ _)
   | (with_reducible exact laws_vSum.mono _ _)
   | (with_reducible exact spec_DrawJumpAt.mono _ _)
   | (with_reducible exact spec_JumpAt.mono _ _ _ _ _)
   | (with_reducible exact spec_OtherRootAt.mono _ _ _ _ _)
   | (with_reducible exact LeO.refl _)
   | (with_reducible exact LeO.none _)
   | (with_reducible refine LeO.ite ?_ ?_)
   | (with_reducible refine LeO.bind ?_ (fun _ => ?_))
   | exact ih0 _ _ _ _ _ _ _ _ _ _
   | exact ih1 _ _ _ _ _ _ _
   | exact ih2 _ _ _ _ _ _
   | exact ih3 _ _ _ _ _ _ _ _
   | exact impl_JumpAt.mono _ _ _ _ _
   | exact impl_OtherRootAt.mono _ _ _ _ _
   | exact laws_vSame.mono _ _ _
   | exact laws_vSolves.mono _ _ _ _
   | exact laws_vSquares.mono _ _
   | exact laws_vSum.mono _ _
   | exact spec_DrawJumpAt.mono _ _
   | exact spec_JumpAt.mono _ _ _ _ _
   | exact spec_OtherRootAt.mono _ _ _ _ _
   | exact LeO.none _
   | refine LeO.ite ?_ ?_
   | refine LeO.bind ?_ (fun _ => ?_)
  ·intro y0 y1 y2 y3 y4 y5 y6 y7
   unfold laws_FnJumpsOfHurwitz.l0
   repeat' first
   | (with_reducible exact ih0 _ _ _ _ _ _ _ _ _ _)
   | (with_reducible exact ih1 _ _ _ _ _ _ _)
   | (with_reducible exact ih2 _ _ _ _ _ _)
   | (with_reducible exact ih3 _ _ _ _ _ _ _ _)
   | (with_reducible exact impl_JumpAt.mono _ _ _ _ _)
   | (with_reducible exact impl_OtherRootAt.mono _ _ _ _ _)
   | (with_reducible exact laws_vSame.mono _ _ _)
   | (with_reducible exact laws_vSolves.mono _ _ _ _)
   | (with_reducible exact laws_vSquares.mono _ _)
   | (with_reducible exact laws_vSum.mono _ _)
   | (with_reducible exact spec_DrawJumpAt.mono _ _)
   | (with_reducible exact spec_JumpAt.mono _ _ _ _ _)
   | (with_reducible exact spec_OtherRootAt.mono _ _ _ _ _)
   | (with_reducible exact LeO.refl _)
   | (with_reducible exact LeO.none _)
   | (with_reducible refine LeO.ite ?_ ?_)
   | (with_reducible refine LeO.bind ?_ (fun _ => ?_))
   | exact ih0 _ _ _ _ _ _ _ _ _ _
   | exact ih1 _ _ _ _ _ _ _
   | exact ih2 _ _ _ _ _ _
   | exact ih3 _ _ _ _ _ _ _ _
   | exact impl_JumpAt.mono _ _ _ _ _
   | exact impl_OtherRootAt.mono _ _ _ _ _
   | exact laws_vSame.mono _ _ _
   | exact laws_vSolves.mono _ _ _ _
   | exact laws_vSquares.mono _ _
   | exact laws_vSum.mono _ _
   | exact spec_DrawJumpAt.mono _ _
   | exact spec_JumpAt.mono _ _ _ _ _
   | exact spec_OtherRootAt.mono _ _ _ _ _
   | exact LeO.none _
   | refine LeO.ite ?_ ?_
   | refine LeO.bind ?_ (fun _ => ?_)
theorem laws_FnJumpsOfHurwitz.mono : ∀ a0 a1 k, LeO (laws_FnJumpsOfHurwitz.f k a0 a1) (laws_FnJumpsOfHurwitz.f (k + 1) a0 a1) := by
 intro a0 a1 k
 obtain ⟨ih0, ih1, ih2, ih3⟩ := laws_FnJumpsOfHurwitz.mono_l k
 unfold laws_FnJumpsOfHurwitz.f
 repeat' first
   | (with_reducible exact ih0 _ _ _ _ _ _ _ _ _ _)
   | (with_reducible exact ih1 _ _ _ _ _ _ _)
   | (with_reducible exact ih2 _ _ _ _ _ _)
   | (with_reducible exact ih3 _ _ _ _ _ _ _ _)
   | (with_reducible exact impl_JumpAt.mono _ _ _ _ _)
   | (with_reducible exact impl_OtherRootAt.mono _ _ _ _ _)
   | (with_reducible exact laws_vSame.mono _ _ _)
   | (with_reducible exact laws_vSolves.mono _ _ _ _)
   | (with_reducible exact laws_vSquares.mono _ _)
   | (with_reducible exact laws_vSum.mono _ _)
   | (with_reducible exact spec_DrawJumpAt.mono _ _)
   | (with_reducible exact spec_JumpAt.mono _ _ _ _ _)
   | (with_reducible exact spec_OtherRootAt.mono _ _ _ _ _)
   | (with_reducible exact LeO.refl _)
   | (with_reducible exact LeO.none _)
   | (with_reducible refine LeO.ite ?_ ?_)
   | (with_reducible refine LeO.bind ?_ (fun _ => ?_))
   | exact ih0 _ _ _ _ _ _ _ _ _ _
   | exact ih1 _ _ _ _ _ _ _
   | exact ih2 _ _ _ _ _ _
   | exact ih3 _ _ _ _ _ _ _ _
   | exact impl_JumpAt.mono _ _ _ _ _
   | exact impl_OtherRootAt.mono _ _ _ _ _
   | exact laws_vSame.mono _ _ _
   | exact laws_vSolves.mono _ _ _ _
   | exact laws_vSquares.mono _ _
   | exact laws_vSum.mono _ _
   | exact spec_DrawJumpAt.mono _ _
   | exact spec_JumpAt.mono _ _ _ _ _
   | exact spec_OtherRootAt.mono _ _ _ _ _
   | exact LeO.none _
   | refine LeO.ite ?_ ?_
   | refine LeO.bind ?_ (fun _ => ?_)
def laws_FnJumpsOfHurwitz.T11 : Bool × List (List Nat × List Nat) := (true, [([], []), ([0], [0]), ([], []), ([], []), ([2, 3], [2, 3]), ([4], [4]), ([], []), ([], []), ([6, 7], [6, 7]), ([8], [8]), ([5, 9], [5, 9]), ([1, 10], [1, 10]), ([], []), ([11, 12], [11, 12]), ([13, 1, 0, 1, 2, 3, 4, 5, 6, 7, 8, 9, 10, 11, 12, 13], [13])])
def laws_FnJumpsOfHurwitz.B11 : List Nat := [0, 1, 0, 0, 12, 28, 0, 0, 192, 448, 1020, 2047, 0, 8191, 16383]
theorem laws_FnJumpsOfHurwitz.tab11 : rtab .any (opsOf Try.f14 11) = laws_FnJumpsOfHurwitz.T11 := by kernel_rfl
theorem laws_FnJumpsOfHurwitz.bits11 : waitsOk laws_FnJumpsOfHurwitz.T11.2 laws_FnJumpsOfHurwitz.B11 = true := by kernel_rfl
def laws_FnJumpsOfHurwitz.T16 : Bool × List (List Nat × List Nat) := (true, [([], []), ([], []), ([], []), ([0, 1, 2], [0, 1, 2]), ([3], [3]), ([4, 3], [4]), ([5], [5]), ([6, 5, 5], [5, 6]), ([5], [5]), ([8, 7, 5], [5, 8]), ([5], [5]), ([5], [5]), ([10, 11, 5], [5, 10, 11]), ([12, 5], [5, 12]), ([9, 13, 5], [5, 9, 13]), ([5], [5]), ([14, 15, 5], [5, 14, 15]), ([7, 16, 5], [5, 7, 16]), ([5, 17], [5, 17])])
def laws_FnJumpsOfHurwitz.B16 : List Nat := [0, 0, 0, 7, 15, 31, 63, 127, 63, 511, 63, 63, 3135, 7231, 16383, 63, 65535, 131071, 262143]
theorem laws_FnJumpsOfHurwitz.tab16 : rtab .any (opsOf Try.f14 16) = laws_FnJumpsOfHurwitz.T16 := by kernel_rfl
theorem laws_FnJumpsOfHurwitz.bits16 : waitsOk laws_FnJumpsOfHurwitz.T16.2 laws_FnJumpsOfHurwitz.B16 = true := by kernel_rfl
set_option maxHeartbeats 8000000 in
set_option maxRecDepth 100000 in
theorem laws_FnJumpsOfHurwitz.calls (k : Nat) (A0 : Option Addr) (c0 : Nat) (l0 : List Int) (A1 : Option Addr) (c1 : Nat) (l1 : List Int) (r : Bool) (w : World) (hr0 : Kd.C (Kd.int .u8) w A0 l0.length l0) (hc0 : l0.length ≤ c0) (hr1 : Kd.C (Kd.int .u8) w A1 l1.length l1) (hc1 : l1.length ≤ c1) (h : laws_FnJumpsOfHurwitz.f k l0 l1 = some r) :
  Calls Try.prog 14 #[.slice A0 l0.length c0, .slice A1 l1.length c1] w fun e w' => e = .returned (.bool r) ∧ Below w.heap.size w w' := by
 have HR0 := Aside0.mk hr0
 have HC0 := Aside0.mk hc0
 clear hr0 hc0
 have HR1 := Aside0.mk hr1
 have HC1 := Aside0.mk hc1
 clear hr1 hc1
 have HB := Aside0.mk (Below.refl w.heap.size w)
 have H : ((laws_big.f l0 l1).bind fun t658 => (if t658 = true then (some true) else ((spec_DrawJumpAt.f k l0).bind fun bt659 => ((impl_JumpAt.f k bt659.1 bt659.2.1 bt659.2.2.1 bt659.2.2.2).bind fun bt665 => ((spec_JumpAt.f k bt659.1 bt659.2.1 bt659.2.2.1 bt659.2.2.2).bind fun bt669 => ((impl_OtherRootAt.f k bt659.1 bt659.2.1 bt659.2.2.1 bt659.2.2.2).bind fun bt673 => ((spec_OtherRootAt.f k bt659.1 bt659.2.1 bt659.2.2.1 bt659.2.2.2).bind fun bt675 => (if (bt665.2 != bt669.2) = true then (laws_FnJumpsOfHurwitz.j0 k bt659.1 bt659.2.1 bt659.2.2.1 bt659.2.2.2 bt665.1 bt665.2 bt669.2 bt673.1 bt673.2 true) else ((laws_vSame.f k bt665.1 bt669.1).bind fun t677 => (if t677 = true then (if (bt673.2 != bt675.2) = true then (laws_FnJumpsOfHurwitz.j0 k bt659.1 bt659.2.1 bt659.2.2.1 bt659.2.2.2 bt665.1 bt665.2 bt669.2 bt673.1 bt673.2 true) else (if bt673.1 = bt675.1 then (if bt665.2 = true then (laws_FnJumpsOfHurwitz.j0 k bt659.1 bt659.2.1 bt659.2.2.1 bt659.2.2.2 bt665.1 bt665.2 bt669.2 bt673.1 bt673.2 (!bt673.2)) else (laws_FnJumpsOfHurwitz.j0 k bt659.1 bt659.2.1 bt659.2.2.1 bt659.2.2.2 bt665.1 bt665.2 bt669.2 bt673.1 bt673.2 false)) else (laws_FnJumpsOfHurwitz.j0 k bt659.1 bt659.2.1 bt659.2.2.1 bt659.2.2.2 bt665.1 bt665.2 bt669.2 bt673.1 bt673.2 true))) else (laws_FnJumpsOfHurwitz.j0 k bt659.1 bt659.2.1 bt659.2.2.1 bt659.2.2.2 bt665.1 bt665.2 bt669.2 bt673.1 bt673.2 true))))))))))) = some r := h
 clear h
 replace H := Option.bind_eq_some_iff.mp H
 obtain ⟨t658, A30, H⟩ := H
 replace H : (if t658 = true then (some true) else ((spec_DrawJumpAt.f k l0).bind fun bt659 => ((impl_JumpAt.f k bt659.1 bt659.2.1 bt659.2.2.1 bt659.2.2.2).bind fun bt665 => ((spec_JumpAt.f k bt659.1 bt659.2.1 bt659.2.2.1 bt659.2.2.2).bind fun bt669 => ((impl_OtherRootAt.f k bt659.1 bt659.2.1 bt659.2.2.1 bt659.2.2.2).bind fun bt673 => ((spec_OtherRootAt.f k bt659.1 bt659.2.1 bt659.2.2.1 bt659.2.2.2).bind fun bt675 => (if (bt665.2 != bt669.2) = true then (laws_FnJumpsOfHurwitz.j0 k bt659.1 bt659.2.1 bt659.2.2.1 bt659.2.2.2 bt665.1 bt665.2 bt669.2 bt673.1 bt673.2 true) else ((laws_vSame.f k bt665.1 bt669.1).bind fun t677 => (if t677 = true then (if (bt673.2 != bt675.2) = true then (laws_FnJumpsOfHurwitz.j0 k bt659.1 bt659.2.1 bt659.2.2.1 bt659.2.2.2 bt665.1 bt665.2 bt669.2 bt673.1 bt673.2 true) else (if bt673.1 = bt675.1 then (if bt665.2 = true then (laws_FnJumpsOfHurwitz.j0 k bt659.1 bt659.2.1 bt659.2.2.1 bt659.2.2.2 bt665.1 bt665.2 bt669.2 bt673.1 bt673.2 (!bt673.2)) else (laws_FnJumpsOfHurwitz.j0 k bt659.1 bt659.2.1 bt659.2.2.1 bt659.2.2.2 bt665.1 bt665.2 bt669.2 bt673.1 bt673.2 false)) else (laws_FnJumpsOfHurwitz.j0 k bt659.1 bt659.2.1 bt659.2.2.1 bt659.2.2.2 bt665.1 bt665.2 bt669.2 bt673.1 bt673.2 true))) else (laws_FnJumpsOfHurwitz.j0 k bt659.1 bt659.2.1 bt659.2.2.1 bt659.2.2.2 bt665.1 bt665.2 bt669.2 bt673.1 bt673.2 true)))))))))) = some r := H
 have A3 := Aside0.mk A30
 clear A30
 by_cases c4 : t658 = true
 ·subst c4
  have H1 : (some true) = some r := by rw [if_pos rfl] at H; exact H
  clear H
  have H := H1
  clear H1
  obtain rfl := Option.some.inj H
  go_enter Try.func14, Try.ntmps14
  go_wp2_with (first | ((with_reducible refine gate_callee (f := 44) rfl ?_); refine goesL_ (some 24) rfl rfl Try.func44 (by kernel_rfl) rfl #[.slice A0 l0.length c0, .slice A1 l1.length c1] rfl (by (try simp only [List.map_toArray, List.map_cons, List.map_nil]); first | done | rfl | (simp only [List.length_drop, List.length_take]; rfl)) ?_; (with_reducible refine (laws_big.calls _ _ l0 _ _ l1 true _ ?side1 ?side2 ?side3 ?side4 A3.out).mono ?_); (case side1 => repeat (first | exact HR0.out | (with_reducible refine Kd.C_alloc ?_ _) | (with_reducible refine Kd.C_drewN ?_ _) | (with_reducible refine Kd.C_drew ?_))); (case side2 => exact HC0.out); (case side3 => repeat (first | exact HR1.out | (with_reducible refine Kd.C_alloc ?_ _) | (with_reducible refine Kd.C_drewN ?_ _) | (with_reducible refine Kd.C_drew ?_))); (case side4 => exact HC1.out); rintro e w' ⟨rfl, ⟨nd, rfl⟩⟩; refine ⟨_, rfl, ?_⟩))
  go_ret
  exact ⟨by first | rfl | (simp [errW_none, errW_some] <;> rfl) | (simp [*, errW_none, errW_some] <;> rfl), by repeat (first | (with_reducible first | exact HB.out | apply below_alloc | apply pw_below_drewN | apply below_drew1) | exact HB.out)⟩
 ·replace c4 := Bool.eq_false_iff.mpr c4
  subst c4
  have H1 : ((spec_DrawJumpAt.f k l0).bind fun bt659 => ((impl_JumpAt.f k bt659.1 bt659.2.1 bt659.2.2.1 bt659.2.2.2).bind fun bt665 => ((spec_JumpAt.f k bt659.1 bt659.2.1 bt659.2.2.1 bt659.2.2.2).bind fun bt669 => ((impl_OtherRootAt.f k bt659.1 bt659.2.1 bt659.2.2.1 bt659.2.2.2).bind fun bt673 => ((spec_OtherRootAt.f k bt659.1 bt659.2.1 bt659.2.2.1 bt659.2.2.2).bind fun bt675 => (if (bt665.2 != bt669.2) = true then (laws_FnJumpsOfHurwitz.j0 k bt659.1 bt659.2.1 bt659.2.2.1 bt659.2.2.2 bt665.1 bt665.2 bt669.2 bt673.1 bt673.2 true) else ((laws_vSame.f k bt665.1 bt669.1).bind fun t677 => (if t677 = true then (if (bt673.2 != bt675.2) = true then (laws_FnJumpsOfHurwitz.j0 k bt659.1 bt659.2.1 bt659.2.2.1 bt659.2.2.2 bt665.1 bt665.2 bt669.2 bt673.1 bt673.2 true) else (if bt673.1 = bt675.1 then (if bt665.2 = true then (laws_FnJumpsOfHurwitz.j0 k bt659.1 bt659.2.1 bt659.2.2.1 bt659.2.2.2 bt665.1 bt665.2 bt669.2 bt673.1 bt673.2 (!bt673.2)) else (laws_FnJumpsOfHurwitz.j0 k bt659.1 bt659.2.1 bt659.2.2.1 bt659.2.2.2 bt665.1 bt665.2 bt669.2 bt673.1 bt673.2 false)) else (laws_FnJumpsOfHurwitz.j0 k bt659.1 bt659.2.1 bt659.2.2.1 bt659.2.2.2 bt665.1 bt665.2 bt669.2 bt673.1 bt673.2 true))) else (laws_FnJumpsOfHurwitz.j0 k bt659.1 bt659.2.1 bt659.2.2.1 bt659.2.2.2 bt665.1 bt665.2 bt669.2 bt673.1 bt673.2 true))))))))) = some r := by rw [if_neg (show ¬ (false = true) by decide)] at H; exact H
  clear H
  have H := H1
  clear H1
  replace H := Option.bind_eq_some_iff.mp H
  obtain ⟨⟨t659, t660, t661, t662⟩, A50, H⟩ := H
  replace H : ((impl_JumpAt.f k t659 t660 t661 t662).bind fun bt665 => ((spec_JumpAt.f k t659 t660 t661 t662).bind fun bt669 => ((impl_OtherRootAt.f k t659 t660 t661 t662).bind fun bt673 => ((spec_OtherRootAt.f k t659 t660 t661 t662).bind fun bt675 => (if (bt665.2 != bt669.2) = true then (laws_FnJumpsOfHurwitz.j0 k t659 t660 t661 t662 bt665.1 bt665.2 bt669.2 bt673.1 bt673.2 true) else ((laws_vSame.f k bt665.1 bt669.1).bind fun t677 => (if t677 = true then (if (bt673.2 != bt675.2) = true then (laws_FnJumpsOfHurwitz.j0 k t659 t660 t661 t662 bt665.1 bt665.2 bt669.2 bt673.1 bt673.2 true) else (if bt673.1 = bt675.1 then (if bt665.2 = true then (laws_FnJumpsOfHurwitz.j0 k t659 t660 t661 t662 bt665.1 bt665.2 bt669.2 bt673.1 bt673.2 (!bt673.2)) else (laws_FnJumpsOfHurwitz.j0 k t659 t660 t661 t662 bt665.1 bt665.2 bt669.2 bt673.1 bt673.2 false)) else (laws_FnJumpsOfHurwitz.j0 k t659 t660 t661 t662 bt665.1 bt665.2 bt669.2 bt673.1 bt673.2 true))) else (laws_FnJumpsOfHurwitz.j0 k t659 t660 t661 t662 bt665.1 bt665.2 bt669.2 bt673.1 bt673.2 true)))))))) = some r := H
  have A5 := Aside0.mk A50
  clear A50
  replace H := Option.bind_eq_some_iff.mp H
  obtain ⟨⟨t665, t666⟩, A60, H⟩ := H
  replace H : ((spec_JumpAt.f k t659 t660 t661 t662).bind fun bt669 => ((impl_OtherRootAt.f k t659 t660 t661 t662).bind fun bt673 => ((spec_OtherRootAt.f k t659 t660 t661 t662).bind fun bt675 => (if (t666 != bt669.2) = true then (laws_FnJumpsOfHurwitz.j0 k t659 t660 t661 t662 t665 t666 bt669.2 bt673.1 bt673.2 true) else ((laws_vSame.f k t665 bt669.1).bind fun t677 => (if t677 = true then (if (bt673.2 != bt675.2) = true then (laws_FnJumpsOfHurwitz.j0 k t659 t660 t661 t662 t665 t666 bt669.2 bt673.1 bt673.2 true) else (if bt673.1 = bt675.1 then (if t666 = true then (laws_FnJumpsOfHurwitz.j0 k t659 t660 t661 t662 t665 t666 bt669.2 bt673.1 bt673.2 (!bt673.2)) else (laws_FnJumpsOfHurwitz.j0 k t659 t660 t661 t662 t665 t666 bt669.2 bt673.1 bt673.2 false)) else (laws_FnJumpsOfHurwitz.j0 k t659 t660 t661 t662 t665 t666 bt669.2 bt673.1 bt673.2 true))) else (laws_FnJumpsOfHurwitz.j0 k t659 t660 t661 t662 t665 t666 bt669.2 bt673.1 bt673.2 true))))))) = some r := H
  have A6 := Aside0.mk A60
  clear A60
  replace H := Option.bind_eq_some_iff.mp H
  obtain ⟨⟨t669, t670⟩, A70, H⟩ := H
  replace H : ((impl_OtherRootAt.f k t659 t660 t661 t662).bind fun bt673 => ((spec_OtherRootAt.f k t659 t660 t661 t662).bind fun bt675 => (if (t666 != t670) = true then (laws_FnJumpsOfHurwitz.j0 k t659 t660 t661 t662 t665 t666 t670 bt673.1 bt673.2 true) else ((laws_vSame.f k t665 t669).bind fun t677 => (if t677 = true then (if (bt673.2 != bt675.2) = true then (laws_FnJumpsOfHurwitz.j0 k t659 t660 t661 t662 t665 t666 t670 bt673.1 bt673.2 true) else (if bt673.1 = bt675.1 then (if t666 = true then (laws_FnJumpsOfHurwitz.j0 k t659 t660 t661 t662 t665 t666 t670 bt673.1 bt673.2 (!bt673.2)) else (laws_FnJumpsOfHurwitz.j0 k t659 t660 t661 t662 t665 t666 t670 bt673.1 bt673.2 false)) else (laws_FnJumpsOfHurwitz.j0 k t659 t660 t661 t662 t665 t666 t670 bt673.1 bt673.2 true))) else (laws_FnJumpsOfHurwitz.j0 k t659 t660 t661 t662 t665 t666 t670 bt673.1 bt673.2 true)))))) = some r := H
  have A7 := Aside0.mk A70
  clear A70
  replace H := Option.bind_eq_some_iff.mp H
  obtain ⟨⟨t673, t674⟩, A80, H⟩ := H
  replace H : ((spec_OtherRootAt.f k t659 t660 t661 t662).bind fun bt675 => (if (t666 != t670) = true then (laws_FnJumpsOfHurwitz.j0 k t659 t660 t661 t662 t665 t666 t670 t673 t674 true) else ((laws_vSame.f k t665 t669).bind fun t677 => (if t677 = true then (if (t674 != bt675.2) = true then (laws_FnJumpsOfHurwitz.j0 k t659 t660 t661 t662 t665 t666 t670 t673 t674 true) else (if t673 = bt675.1 then (if t666 = true then (laws_FnJumpsOfHurwitz.j0 k t659 t660 t661 t662 t665 t666 t670 t673 t674 (!t674)) else (laws_FnJumpsOfHurwitz.j0 k t659 t660 t661 t662 t665 t666 t670 t673 t674 false)) else (laws_FnJumpsOfHurwitz.j0 k t659 t660 t661 t662 t665 t666 t670 t673 t674 true))) else (laws_FnJumpsOfHurwitz.j0 k t659 t660 t661 t662 t665 t666 t670 t673 t674 true))))) = some r := H
  have A8 := Aside0.mk A80
  clear A80
  replace H := Option.bind_eq_some_iff.mp H
  obtain ⟨⟨t675, t676⟩, A90, H⟩ := H
  replace H : (if (t666 != t670) = true then (laws_FnJumpsOfHurwitz.j0 k t659 t660 t661 t662 t665 t666 t670 t673 t674 true) else ((laws_vSame.f k t665 t669).bind fun t677 => (if t677 = true then (if (t674 != t676) = true then (laws_FnJumpsOfHurwitz.j0 k t659 t660 t661 t662 t665 t666 t670 t673 t674 true) else (if t673 = t675 then (if t666 = true then (laws_FnJumpsOfHurwitz.j0 k t659 t660 t661 t662 t665 t666 t670 t673 t674 (!t674)) else (laws_FnJumpsOfHurwitz.j0 k t659 t660 t661 t662 t665 t666 t670 t673 t674 false)) else (laws_FnJumpsOfHurwitz.j0 k t659 t660 t661 t662 t665 t666 t670 t673 t674 true))) else (laws_FnJumpsOfHurwitz.j0 k t659 t660 t661 t662 t665 t666 t670 t673 t674 true)))) = some r := H
  have A9 := Aside0.mk A90
  clear A90
  have HC10 := Aside0.mk H
  clear H
  go_enter Try.func14, Try.ntmps14
  go_upto_region 8 with (first | ((with_reducible refine gate_callee (f := 44) rfl ?_); refine goesL_ (some 24) rfl rfl Try.func44 (by kernel_rfl) rfl #[.slice A0 l0.length c0, .slice A1 l1.length c1] rfl (by (try simp only [List.map_toArray, List.map_cons, List.map_nil]); first | done | rfl | (simp only [List.length_drop, List.length_take]; rfl)) ?_; (with_reducible refine (laws_big.calls _ _ l0 _ _ l1 false _ ?side1 ?side2 ?side3 ?side4 A3.out).mono ?_); (case side1 => repeat (first | exact HR0.out | (with_reducible refine Kd.C_alloc ?_ _) | (with_reducible refine Kd.C_drewN ?_ _) | (with_reducible refine Kd.C_drew ?_))); (case side2 => exact HC0.out); (case side3 => repeat (first | exact HR1.out | (with_reducible refine Kd.C_alloc ?_ _) | (with_reducible refine Kd.C_drewN ?_ _) | (with_reducible refine Kd.C_drew ?_))); (case side4 => exact HC1.out); rintro e w' ⟨rfl, ⟨nd, rfl⟩⟩; refine ⟨_, rfl, ?_⟩) | ((with_reducible refine gate_callee (f := 45) rfl ?_); refine goesL_ (some 27) rfl rfl Try.func45 (by kernel_rfl) rfl #[.slice A0 l0.length c0] rfl (by (try simp only [List.map_toArray, List.map_cons, List.map_nil]); first | done | rfl | (simp only [List.length_drop, List.length_take]; rfl)) ?_; (with_reducible refine (spec_DrawJumpAt.calls k _ _ l0 t659 t660 t661 t662 _ ?side1 ?side2 A5.out).mono ?_); (case side1 => repeat (first | exact HR0.out | (with_reducible refine Kd.C_alloc ?_ _) | (with_reducible refine Kd.C_drewN ?_ _) | (with_reducible refine Kd.C_drew ?_))); (case side2 => exact HC0.out); rintro e w11 ⟨v663, rfl, ho0, hb⟩; refine ⟨_, rfl, ?_⟩; have n0_ := Aside0.mk (Kd.R_lower ho0 (below_size (by repeat (first | (with_reducible first | exact HB.out | apply below_alloc | apply pw_below_drewN | apply below_drew1) | exact HB.out)))); have n1_ := Aside0.mk (below_step (by repeat (first | (with_reducible first | exact HB.out | apply below_alloc | apply pw_below_drewN | apply below_drew1) | exact HB.out)) hb); clear HB; have HO664 := n0_; have HB := n1_; clear n0_ n1_; (try clear hb); (try clear hb2); (try clear hk); (try clear hi); (try clear ho0); obtain ⟨Ao12, co12, eo12⟩ := Kd.R_slice HO664.out; subst eo12) | ((with_reducible refine gate_callee (f := 35) rfl ?_); refine goesL_ (some 37) rfl rfl Try.func35 (by kernel_rfl) rfl #[.slice Ao12 t659.length co12, .int .i64 t660, .int .i64 t661, .int .i64 t662] rfl (by (try simp only [List.map_toArray, List.map_cons, List.map_nil]); first | done | rfl | (simp only [List.length_drop, List.length_take]; rfl)) ?_; (with_reducible refine (impl_JumpAt.calls k _ _ t659 t660 t661 t662 t665 t666 _ ?side1 ?side2 A6.out).mono ?_); (case side1 => repeat (first | exact (Kd.R_reads' HO664.out).2.2 | (with_reducible refine Kd.C_alloc ?_ _) | (with_reducible refine Kd.C_drewN ?_ _) | (with_reducible refine Kd.C_drew ?_))); (case side2 => exact (Kd.R_reads' HO664.out).2.1); rintro e w13 ⟨v667, rfl, ho0, hb⟩; refine ⟨_, rfl, ?_⟩; have n0_ := Aside0.mk (Kd.R_elder' (by (with_reducible repeat (first | apply Kd.R_alloc | apply Kd.R_drewN | apply Kd.R_drew)); exact HO664.out) (Kd.R_base ho0) hb); have n1_ := Aside0.mk (Kd.R_lower (Kd.R_new' ho0 (Kd.R_lt (by (with_reducible repeat (first | apply Kd.R_alloc | apply Kd.R_drewN | apply Kd.R_drew)); exact HO664.out))) (below_size (by repeat (first | (with_reducible first | exact HB.out | apply below_alloc | apply pw_below_drewN | apply below_drew1) | exact HB.out)))); have n2_ := Aside0.mk (below_step (by repeat (first | (with_reducible first | exact HB.out | apply below_alloc | apply pw_below_drewN | apply below_drew1) | exact HB.out)) hb); clear HO664; clear HB; have HO664 := n0_; have HO668 := n1_; have HB := n2_; clear n0_ n1_ n2_; (try clear hb); (try clear hb2); (try clear hk); (try clear hi); (try clear ho0)) | ((with_reducible refine gate_callee (f := 34) rfl ?_); refine goesL_ (some 45) rfl rfl Try.func34 (by kernel_rfl) rfl #[.slice Ao12 t659.length co12, .int .i64 t660, .int .i64 t661, .int .i64 t662] rfl (by (try simp only [List.map_toArray, List.map_cons, List.map_nil]); first | done | rfl | (simp only [List.length_drop, List.length_take]; rfl)) ?_; (with_reducible refine (spec_JumpAt.calls k _ _ t659 t660 t661 t662 t669 t670 _ ?side1 ?side2 A7.out).mono ?_); (case side1 => repeat (first | exact (Kd.R_reads' HO664.out).2.2 | (with_reducible refine Kd.C_alloc ?_ _) | (with_reducible refine Kd.C_drewN ?_ _) | (with_reducible refine Kd.C_drew ?_))); (case side2 => exact (Kd.R_reads' HO664.out).2.1); rintro e w14 ⟨v671, rfl, ho0, hb⟩; refine ⟨_, rfl, ?_⟩; have n0_ := Aside0.mk (Kd.R_elder' (by (with_reducible repeat (first | apply Kd.R_alloc | apply Kd.R_drewN | apply Kd.R_drew)); exact HO664.out) (Kd.R_base ho0) hb); have n1_ := Aside0.mk (Kd.R_elder' (by (with_reducible repeat (first | apply Kd.R_alloc | apply Kd.R_drewN | apply Kd.R_drew)); exact HO668.out) (Kd.R_base ho0) hb); have n2_ := Aside0.mk (Kd.R_lower (Kd.R_new' (Kd.R_new' ho0 (Kd.R_lt (by (with_reducible repeat (first | apply Kd.R_alloc | apply Kd.R_drewN | apply Kd.R_drew)); exact HO664.out))) (Kd.R_lt (by (with_reducible repeat (first | apply Kd.R_alloc | apply Kd.R_drewN | apply Kd.R_drew)); exact HO668.out))) (below_size (by repeat (first | (with_reducible first | exact HB.out | apply below_alloc | apply pw_below_drewN | apply below_drew1) | exact HB.out)))); have n3_ := Aside0.mk (below_step (by repeat (first | (with_reducible first | exact HB.out | apply below_alloc | apply pw_below_drewN | apply below_drew1) | exact HB.out)) hb); clear HO664; clear HO668; clear HB; have HO664 := n0_; have HO668 := n1_; have HO672 := n2_; have HB := n3_; clear n0_ n1_ n2_ n3_; (try clear hb); (try clear hb2); (try clear hk); (try clear hi); (try clear ho0)) | ((with_reducible refine gate_callee (f := 20) rfl ?_); refine goesL_ (some 53) rfl rfl Try.func20 (by kernel_rfl) rfl #[.slice Ao12 t659.length co12, .int .i64 t660, .int .i64 t661, .int .i64 t662] rfl (by (try simp only [List.map_toArray, List.map_cons, List.map_nil]); first | done | rfl | (simp only [List.length_drop, List.length_take]; rfl)) ?_; (with_reducible refine (impl_OtherRootAt.calls k _ _ t659 t660 t661 t662 t673 t674 _ ?side1 ?side2 A8.out).mono ?_); (case side1 => repeat (first | exact (Kd.R_reads' HO664.out).2.2 | (with_reducible refine Kd.C_alloc ?_ _) | (with_reducible refine Kd.C_drewN ?_ _) | (with_reducible refine Kd.C_drew ?_))); (case side2 => exact (Kd.R_reads' HO664.out).2.1); rintro e w15 ⟨rfl, hb⟩; refine ⟨_, rfl, ?_⟩; have n0_ := Aside0.mk (Kd.R_below (by (with_reducible repeat (first | apply Kd.R_alloc | apply Kd.R_drewN | apply Kd.R_drew)); exact HO664.out) hb); have n1_ := Aside0.mk (Kd.R_below (by (with_reducible repeat (first | apply Kd.R_alloc | apply Kd.R_drewN | apply Kd.R_drew)); exact HO668.out) hb); have n2_ := Aside0.mk (Kd.R_below (by (with_reducible repeat (first | apply Kd.R_alloc | apply Kd.R_drewN | apply Kd.R_drew)); exact HO672.out) hb); have n3_ := Aside0.mk (below_step (by repeat (first | (with_reducible first | exact HB.out | apply below_alloc | apply pw_below_drewN | apply below_drew1) | exact HB.out)) hb); clear HO664; clear HO668; clear HO672; clear HB; have HO664 := n0_; have HO668 := n1_; have HO672 := n2_; have HB := n3_; clear n0_ n1_ n2_ n3_; (try clear hb); (try clear hb2); (try clear hk); (try clear hi)) | ((with_reducible refine gate_callee (f := 19) rfl ?_); refine goesL_ (some 61) rfl rfl Try.func19 (by kernel_rfl) rfl #[.slice Ao12 t659.length co12, .int .i64 t660, .int .i64 t661, .int .i64 t662] rfl (by (try simp only [List.map_toArray, List.map_cons, List.map_nil]); first | done | rfl | (simp only [List.length_drop, List.length_take]; rfl)) ?_; (with_reducible refine (spec_OtherRootAt.calls k _ _ t659 t660 t661 t662 t675 t676 _ ?side1 ?side2 A9.out).mono ?_); (case side1 => repeat (first | exact (Kd.R_reads' HO664.out).2.2 | (with_reducible refine Kd.C_alloc ?_ _) | (with_reducible refine Kd.C_drewN ?_ _) | (with_reducible refine Kd.C_drew ?_))); (case side2 => exact (Kd.R_reads' HO664.out).2.1); rintro e w16 ⟨rfl, hb⟩; refine ⟨_, rfl, ?_⟩; have n0_ := Aside0.mk (Kd.R_below (by (with_reducible repeat (first | apply Kd.R_alloc | apply Kd.R_drewN | apply Kd.R_drew)); exact HO664.out) hb); have n1_ := Aside0.mk (Kd.R_below (by (with_reducible repeat (first | apply Kd.R_alloc | apply Kd.R_drewN | apply Kd.R_drew)); exact HO668.out) hb); have n2_ := Aside0.mk (Kd.R_below (by (with_reducible repeat (first | apply Kd.R_alloc | apply Kd.R_drewN | apply Kd.R_drew)); exact HO672.out) hb); have n3_ := Aside0.mk (below_step (by repeat (first | (with_reducible first | exact HB.out | apply below_alloc | apply pw_below_drewN | apply below_drew1) | exact HB.out)) hb); clear HO664; clear HO668; clear HO672; clear HB; have HO664 := n0_; have HO668 := n1_; have HO672 := n2_; have HB := n3_; clear n0_ n1_ n2_ n3_; (try clear hb); (try clear hb2); (try clear hk); (try clear hi)))
  (try simp only [Act.put, List.setIfInBounds_toArray, List.set_cons_zero, List.set_cons_succ])
  go_cut [89] (fun v89 wc => ∃ (kq : Nat) (x89_9 : Bool), v89 = .bool x89_9 ∧ Aside0 (laws_FnJumpsOfHurwitz.j0 kq t659 t660 t661 t662 t665 t666 t670 t673 t674 x89_9 = some r) ∧ Aside0 (kq ≤ k) ∧ Aside0 (Kd.R (Kd.int .i64) 3 wc w.heap.size (fun k_ => some k_ ≠ (v667 : Value).ownBlock) (.slice Ao12 t659.length co12) t659) ∧ Aside0 (Kd.R (Kd.int .i64) 3 wc w.heap.size (fun k_ => some k_ ≠ ((.slice Ao12 t659.length co12) : Value).ownBlock) v667 t665) ∧ Aside0 (Below w.heap.size w wc))
  case first =>
   have H := HC10.out
   clear HC10
   by_cases c17 : (t666 != t670) = true
   ·rw [if_pos c17] at H
    have c17b0 : (t666 != t670) = true := c17
    (try (have c17b1 : decide (t666 = t670) = false := by simpa using c17))
    (try (have c17b2 : (t666 == t670) = false := by simpa using c17))
    (try (have c17b3 : ¬ (t666 = t670) := by simpa using c17))
    clear c17
    (first | rw [c17b0] | (simp only [i64_w, i32_w]; rw [c17b0]) | skip)
    have H' := Aside0.mk H
    clear H
    go_wp2
    go_meet
    case rel => exact ⟨_, (true), (by first | rfl | (simp; done) | (simp [*]; done)), H', ⟨by first | omega | exact Nat.le_refl _⟩, ⟨by (with_reducible repeat (first | apply Kd.R_alloc | apply Kd.R_drewN | apply Kd.R_drew)); exact Kd.R_mono HO664.out (fun _ hk => hk.1.2)⟩, ⟨by (with_reducible repeat (first | apply Kd.R_alloc | apply Kd.R_drewN | apply Kd.R_drew)); exact Kd.R_mono HO668.out (fun _ hk => hk.1.2)⟩, ⟨by repeat (first | (with_reducible first | exact HB.out | apply below_alloc | apply pw_below_drewN | apply below_drew1) | exact HB.out)⟩⟩
   ·rw [if_neg c17] at H
    have c17b0 : (t666 != t670) = false := by simpa using c17
    (try (have c17b1 : decide (t666 = t670) = true := by simpa using c17))
    (try (have c17b2 : (t666 == t670) = true := by simpa using c17))
    clear c17
    (first | rw [c17b0] | (simp only [i64_w, i32_w]; rw [c17b0]) | skip)
    replace H := Option.bind_eq_some_iff.mp H
    obtain ⟨t677, A180, H⟩ := H
    replace H : (if t677 = true then (if (t674 != t676) = true then (laws_FnJumpsOfHurwitz.j0 k t659 t660 t661 t662 t665 t666 t670 t673 t674 true) else (if t673 = t675 then (if t666 = true then (laws_FnJumpsOfHurwitz.j0 k t659 t660 t661 t662 t665 t666 t670 t673 t674 (!t674)) else (laws_FnJumpsOfHurwitz.j0 k t659 t660 t661 t662 t665 t666 t670 t673 t674 false)) else (laws_FnJumpsOfHurwitz.j0 k t659 t660 t661 t662 t665 t666 t670 t673 t674 true))) else (laws_FnJumpsOfHurwitz.j0 k t659 t660 t661 t662 t665 t666 t670 t673 t674 true)) = some r := H
    have A18 := Aside0.mk A180
    clear A180
    by_cases c19 : t677 = true
    ·subst c19
     have H1 : (if (t674 != t676) = true then (laws_FnJumpsOfHurwitz.j0 k t659 t660 t661 t662 t665 t666 t670 t673 t674 true) else (if t673 = t675 then (if t666 = true then (laws_FnJumpsOfHurwitz.j0 k t659 t660 t661 t662 t665 t666 t670 t673 t674 (!t674)) else (laws_FnJumpsOfHurwitz.j0 k t659 t660 t661 t662 t665 t666 t670 t673 t674 false)) else (laws_FnJumpsOfHurwitz.j0 k t659 t660 t661 t662 t665 t666 t670 t673 t674 true))) = some r := by rw [if_pos rfl] at H; exact H
     clear H
     have H := H1
     clear H1
     by_cases c20 : (t674 != t676) = true
     ·rw [if_pos c20] at H
      have c20b0 : (t674 != t676) = true := c20
      (try (have c20b1 : decide (t674 = t676) = false := by simpa using c20))
      (try (have c20b2 : (t674 == t676) = false := by simpa using c20))
      (try (have c20b3 : ¬ (t674 = t676) := by simpa using c20))
      clear c20
      have H' := Aside0.mk H
      clear H
      obtain ⟨Ao21, co21, eo21⟩ := Kd.R_slice HO668.out
      subst eo21
      obtain ⟨Ao22, co22, eo22⟩ := Kd.R_slice HO672.out
      subst eo22
      go_wp2_with (first | (go_at_call 46; (with_reducible refine (laws_vSame.calls k _ _ t665 _ _ t669 true _ ?side1 ?side2 ?side3 ?side4 A18.out).mono ?_); (case side1 => repeat (first | exact (Kd.R_reads' HO668.out).2.2 | (with_reducible refine Kd.C_alloc ?_ _) | (with_reducible refine Kd.C_drewN ?_ _) | (with_reducible refine Kd.C_drew ?_))); (case side2 => exact (Kd.R_reads' HO668.out).2.1); (case side3 => repeat (first | exact (Kd.R_reads' HO672.out).2.2 | (with_reducible refine Kd.C_alloc ?_ _) | (with_reducible refine Kd.C_drewN ?_ _) | (with_reducible refine Kd.C_drew ?_))); (case side4 => exact (Kd.R_reads' HO672.out).2.1); rintro e w' ⟨rfl, ⟨nd, rfl⟩⟩))
      go_meet
      case rel => exact ⟨_, (true), (by first | rfl | (simp; done) | (simp [*]; done)), H', ⟨by first | omega | exact Nat.le_refl _⟩, ⟨by (with_reducible repeat (first | apply Kd.R_alloc | apply Kd.R_drewN | apply Kd.R_drew)); exact Kd.R_mono HO664.out (fun _ hk => hk.1.2)⟩, ⟨by (with_reducible repeat (first | apply Kd.R_alloc | apply Kd.R_drewN | apply Kd.R_drew)); exact Kd.R_mono HO668.out (fun _ hk => hk.1.2)⟩, ⟨by repeat (first | (with_reducible first | exact HB.out | apply below_alloc | apply pw_below_drewN | apply below_drew1) | exact HB.out)⟩⟩
     ·rw [if_neg c20] at H
      have c20b0 : (t674 != t676) = false := by simpa using c20
      (try (have c20b1 : decide (t674 = t676) = true := by simpa using c20))
      (try (have c20b2 : (t674 == t676) = true := by simpa using c20))
      clear c20
      by_cases c23 : t673 = t675
      ·rw [if_pos c23] at H
       have c23b0 : (t673 == t675) = true := beq_iff_eq.mpr c23
       have c23b1 : (t673 != t675) = false := bne_eq_false_iff_eq.mpr c23
       clear c23
       by_cases c24 : t666 = true
       ·subst c24
        have H1 : (laws_FnJumpsOfHurwitz.j0 k t659 t660 t661 t662 t665 true t670 t673 t674 (!t674)) = some r := by rw [if_pos rfl] at H; exact H
        clear H
        have H := H1
        clear H1
        have H' := Aside0.mk H
        clear H
        obtain ⟨Ao25, co25, eo25⟩ := Kd.R_slice HO668.out
        subst eo25
        obtain ⟨Ao26, co26, eo26⟩ := Kd.R_slice HO672.out
        subst eo26
        go_wp2_with (first | (go_at_call 46; (with_reducible refine (laws_vSame.calls k _ _ t665 _ _ t669 true _ ?side1 ?side2 ?side3 ?side4 A18.out).mono ?_); (case side1 => repeat (first | exact (Kd.R_reads' HO668.out).2.2 | (with_reducible refine Kd.C_alloc ?_ _) | (with_reducible refine Kd.C_drewN ?_ _) | (with_reducible refine Kd.C_drew ?_))); (case side2 => exact (Kd.R_reads' HO668.out).2.1); (case side3 => repeat (first | exact (Kd.R_reads' HO672.out).2.2 | (with_reducible refine Kd.C_alloc ?_ _) | (with_reducible refine Kd.C_drewN ?_ _) | (with_reducible refine Kd.C_drew ?_))); (case side4 => exact (Kd.R_reads' HO672.out).2.1); rintro e w' ⟨rfl, ⟨nd, rfl⟩⟩))
        go_meet
        case rel => exact ⟨_, (!t674), (by first | rfl | (simp; done) | (simp [*]; done)), H', ⟨by first | omega | exact Nat.le_refl _⟩, ⟨by (with_reducible repeat (first | apply Kd.R_alloc | apply Kd.R_drewN | apply Kd.R_drew)); exact Kd.R_mono HO664.out (fun _ hk => hk.1.2)⟩, ⟨by (with_reducible repeat (first | apply Kd.R_alloc | apply Kd.R_drewN | apply Kd.R_drew)); exact Kd.R_mono HO668.out (fun _ hk => hk.1.2)⟩, ⟨by repeat (first | (with_reducible first | exact HB.out | apply below_alloc | apply pw_below_drewN | apply below_drew1) | exact HB.out)⟩⟩
       ·replace c24 := Bool.eq_false_iff.mpr c24
        subst c24
        have H1 : (laws_FnJumpsOfHurwitz.j0 k t659 t660 t661 t662 t665 false t670 t673 t674 false) = some r := by rw [if_neg (show ¬ (false = true) by decide)] at H; exact H
        clear H
        have H := H1
        clear H1
        have H' := Aside0.mk H
        clear H
        obtain ⟨Ao27, co27, eo27⟩ := Kd.R_slice HO668.out
        subst eo27
        obtain ⟨Ao28, co28, eo28⟩ := Kd.R_slice HO672.out
        subst eo28
        go_wp2_with (first | (go_at_call 46; (with_reducible refine (laws_vSame.calls k _ _ t665 _ _ t669 true _ ?side1 ?side2 ?side3 ?side4 A18.out).mono ?_); (case side1 => repeat (first | exact (Kd.R_reads' HO668.out).2.2 | (with_reducible refine Kd.C_alloc ?_ _) | (with_reducible refine Kd.C_drewN ?_ _) | (with_reducible refine Kd.C_drew ?_))); (case side2 => exact (Kd.R_reads' HO668.out).2.1); (case side3 => repeat (first | exact (Kd.R_reads' HO672.out).2.2 | (with_reducible refine Kd.C_alloc ?_ _) | (with_reducible refine Kd.C_drewN ?_ _) | (with_reducible refine Kd.C_drew ?_))); (case side4 => exact (Kd.R_reads' HO672.out).2.1); rintro e w' ⟨rfl, ⟨nd, rfl⟩⟩))
        go_meet
        case rel => exact ⟨_, (false), (by first | rfl | (simp; done) | (simp [*]; done)), H', ⟨by first | omega | exact Nat.le_refl _⟩, ⟨by (with_reducible repeat (first | apply Kd.R_alloc | apply Kd.R_drewN | apply Kd.R_drew)); exact Kd.R_mono HO664.out (fun _ hk => hk.1.2)⟩, ⟨by (with_reducible repeat (first | apply Kd.R_alloc | apply Kd.R_drewN | apply Kd.R_drew)); exact Kd.R_mono HO668.out (fun _ hk => hk.1.2)⟩, ⟨by repeat (first | (with_reducible first | exact HB.out | apply below_alloc | apply pw_below_drewN | apply below_drew1) | exact HB.out)⟩⟩
      ·rw [if_neg c23] at H
       have c23b0 : (t673 == t675) = false := beq_eq_false_iff_ne.mpr c23
       have c23b1 : (t673 != t675) = true := bne_iff_ne.mpr c23
       have H' := Aside0.mk H
       clear H
       obtain ⟨Ao29, co29, eo29⟩ := Kd.R_slice HO668.out
       subst eo29
       obtain ⟨Ao30, co30, eo30⟩ := Kd.R_slice HO672.out
       subst eo30
       go_wp2_with (first | (go_at_call 46; (with_reducible refine (laws_vSame.calls k _ _ t665 _ _ t669 true _ ?side1 ?side2 ?side3 ?side4 A18.out).mono ?_); (case side1 => repeat (first | exact (Kd.R_reads' HO668.out).2.2 | (with_reducible refine Kd.C_alloc ?_ _) | (with_reducible refine Kd.C_drewN ?_ _) | (with_reducible refine Kd.C_drew ?_))); (case side2 => exact (Kd.R_reads' HO668.out).2.1); (case side3 => repeat (first | exact (Kd.R_reads' HO672.out).2.2 | (with_reducible refine Kd.C_alloc ?_ _) | (with_reducible refine Kd.C_drewN ?_ _) | (with_reducible refine Kd.C_drew ?_))); (case side4 => exact (Kd.R_reads' HO672.out).2.1); rintro e w' ⟨rfl, ⟨nd, rfl⟩⟩))
       go_meet
       case rel => exact ⟨_, (true), (by first | rfl | (simp; done) | (simp [*]; done)), H', ⟨by first | omega | exact Nat.le_refl _⟩, ⟨by (with_reducible repeat (first | apply Kd.R_alloc | apply Kd.R_drewN | apply Kd.R_drew)); exact Kd.R_mono HO664.out (fun _ hk => hk.1.2)⟩, ⟨by (with_reducible repeat (first | apply Kd.R_alloc | apply Kd.R_drewN | apply Kd.R_drew)); exact Kd.R_mono HO668.out (fun _ hk => hk.1.2)⟩, ⟨by repeat (first | (with_reducible first | exact HB.out | apply below_alloc | apply pw_below_drewN | apply below_drew1) | exact HB.out)⟩⟩
    ·replace c19 := Bool.eq_false_iff.mpr c19
     subst c19
     have H1 : (laws_FnJumpsOfHurwitz.j0 k t659 t660 t661 t662 t665 t666 t670 t673 t674 true) = some r := by rw [if_neg (show ¬ (false = true) by decide)] at H; exact H
     clear H
     have H := H1
     clear H1
     have H' := Aside0.mk H
     clear H
     obtain ⟨Ao31, co31, eo31⟩ := Kd.R_slice HO668.out
     subst eo31
     obtain ⟨Ao32, co32, eo32⟩ := Kd.R_slice HO672.out
     subst eo32
     go_wp2_with (first | (go_at_call 46; (with_reducible refine (laws_vSame.calls k _ _ t665 _ _ t669 false _ ?side1 ?side2 ?side3 ?side4 A18.out).mono ?_); (case side1 => repeat (first | exact (Kd.R_reads' HO668.out).2.2 | (with_reducible refine Kd.C_alloc ?_ _) | (with_reducible refine Kd.C_drewN ?_ _) | (with_reducible refine Kd.C_drew ?_))); (case side2 => exact (Kd.R_reads' HO668.out).2.1); (case side3 => repeat (first | exact (Kd.R_reads' HO672.out).2.2 | (with_reducible refine Kd.C_alloc ?_ _) | (with_reducible refine Kd.C_drewN ?_ _) | (with_reducible refine Kd.C_drew ?_))); (case side4 => exact (Kd.R_reads' HO672.out).2.1); rintro e w' ⟨rfl, ⟨nd, rfl⟩⟩))
     go_meet
     case rel => exact ⟨_, (true), (by first | rfl | (simp; done) | (simp [*]; done)), H', ⟨by first | omega | exact Nat.le_refl _⟩, ⟨by (with_reducible repeat (first | apply Kd.R_alloc | apply Kd.R_drewN | apply Kd.R_drew)); exact Kd.R_mono HO664.out (fun _ hk => hk.1.2)⟩, ⟨by (with_reducible repeat (first | apply Kd.R_alloc | apply Kd.R_drewN | apply Kd.R_drew)); exact Kd.R_mono HO668.out (fun _ hk => hk.1.2)⟩, ⟨by repeat (first | (with_reducible first | exact HB.out | apply below_alloc | apply pw_below_drewN | apply below_drew1) | exact HB.out)⟩⟩
  case rest =>
   clear HC10
   try clear c1
   try clear c2
   try clear p2
   try clear c3
   try clear c4
   try clear c14
   try clear c17
   try clear c17b0
   try clear c17b1
   try clear c17b2
   try clear c19
   try clear c20
   try clear c20b0
   try clear c20b1
   try clear c20b2
   try clear c23
   try clear c23b0
   try clear c23b1
   try clear c24
   obtain ⟨kq, x89_9, rfl, HA, HJ9, HO_5, HO_9, HB⟩ := hcut
   cases kq with
   | zero => exact absurd HA.out (by simp [laws_FnJumpsOfHurwitz.j0])
   | succ kj9 =>
    have H := HA.out
    clear HA
    simp only [laws_FnJumpsOfHurwitz.j0] at H
    by_cases c33 : x89_9 = true
    ·subst c33
     have H1 : (some false) = some r := by rw [if_pos rfl] at H; exact H
     clear H
     have H := H1
     clear H1
     obtain rfl := Option.some.inj H
     go_wp2
     go_ret
     exact ⟨by first | rfl | (simp [errW_none, errW_some] <;> rfl) | (simp [*, errW_none, errW_some] <;> rfl), by repeat (first | (with_reducible first | exact HB.out | apply below_alloc | apply pw_below_drewN | apply below_drew1) | exact HB.out)⟩
    ·replace c33 := Bool.eq_false_iff.mpr c33
     subst c33
     have H1 : (if t674 = true then ((laws_vSquares.f kj9 t659).bind fun t678 => (if 0 ≤ t662 then (if t662 < (t659.length : Int) then (if (wrap64 (t673 * (rd t659 t662))) = (wrap64 ((wrap64 (t678 - (wrap64 ((rd t659 t662) * (rd t659 t662))))) - t661)) then (if t673 ≥ 1 then (if (t666 != (decide (t673 ≤ 100000))) = true then (some false) else (laws_FnJumpsOfHurwitz.j1 kj9 t659 t660 t661 t662 t665 t670 t673)) else (if (t666 != false) = true then (some false) else (laws_FnJumpsOfHurwitz.j1 kj9 t659 t660 t661 t662 t665 t670 t673))) else (some false)) else (none)) else (none))) else (laws_FnJumpsOfHurwitz.j1 kj9 t659 t660 t661 t662 t665 t670 t673)) = some r := by rw [if_neg (show ¬ (false = true) by decide)] at H; exact H
     clear H
     have H := H1
     clear H1
     have HC34 := Aside0.mk H
     clear H
     go_upto_if 90 with (fail)
     go_cut [] (fun wc => ∃ (kq : Nat), Aside0 (laws_FnJumpsOfHurwitz.j1 kq t659 t660 t661 t662 t665 t670 t673 = some r) ∧ Aside0 (kq ≤ kj9) ∧ Aside0 (Kd.R (Kd.int .i64) 3 wc w.heap.size (fun k_ => some k_ ≠ (v667 : Value).ownBlock) (.slice Ao12 t659.length co12) t659) ∧ Aside0 (Kd.R (Kd.int .i64) 3 wc w.heap.size (fun k_ => some k_ ≠ ((.slice Ao12 t659.length co12) : Value).ownBlock) v667 t665) ∧ Aside0 (Below w.heap.size w wc))
     case first =>
      have H := HC34.out
      clear HC34
      by_cases c35 : t674 = true
      ·subst c35
       have H1 : ((laws_vSquares.f kj9 t659).bind fun t678 => (if 0 ≤ t662 then (if t662 < (t659.length : Int) then (if (wrap64 (t673 * (rd t659 t662))) = (wrap64 ((wrap64 (t678 - (wrap64 ((rd t659 t662) * (rd t659 t662))))) - t661)) then (if t673 ≥ 1 then (if (t666 != (decide (t673 ≤ 100000))) = true then (some false) else (laws_FnJumpsOfHurwitz.j1 kj9 t659 t660 t661 t662 t665 t670 t673)) else (if (t666 != false) = true then (some false) else (laws_FnJumpsOfHurwitz.j1 kj9 t659 t660 t661 t662 t665 t670 t673))) else (some false)) else (none)) else (none))) = some r := by rw [if_pos rfl] at H; exact H
       clear H
       have H := H1
       clear H1
       replace H := Option.bind_eq_some_iff.mp H
       obtain ⟨t678, A360, H⟩ := H
       replace H : (if 0 ≤ t662 then (if t662 < (t659.length : Int) then (if (wrap64 (t673 * (rd t659 t662))) = (wrap64 ((wrap64 (t678 - (wrap64 ((rd t659 t662) * (rd t659 t662))))) - t661)) then (if t673 ≥ 1 then (if (t666 != (decide (t673 ≤ 100000))) = true then (some false) else (laws_FnJumpsOfHurwitz.j1 kj9 t659 t660 t661 t662 t665 t670 t673)) else (if (t666 != false) = true then (some false) else (laws_FnJumpsOfHurwitz.j1 kj9 t659 t660 t661 t662 t665 t670 t673))) else (some false)) else (none)) else (none)) = some r := H
       have A36 := Aside0.mk A360
       clear A360
       by_cases c37 : 0 ≤ t662
       ·rw [if_pos c37] at H
        have c37b0 : decide (0 ≤ t662) = true := decide_eq_true c37
        clear c37
        (first | rw [c37b0] | (simp only [i64_w, i32_w]; rw [c37b0]) | skip)
        by_cases c38 : t662 < (t659.length : Int)
        ·rw [if_pos c38] at H
         have c38b0 : decide (t662 < (t659.length : Int)) = true := decide_eq_true c38
         clear c38
         by_cases c39 : (wrap64 (t673 * (rd t659 t662))) = (wrap64 ((wrap64 (t678 - (wrap64 ((rd t659 t662) * (rd t659 t662))))) - t661))
         ·rw [if_pos c39] at H
          have c39b0 : ((wrap64 (t673 * (rd t659 t662))) == (wrap64 ((wrap64 (t678 - (wrap64 ((rd t659 t662) * (rd t659 t662))))) - t661))) = true := beq_iff_eq.mpr c39
          have c39b1 : ((wrap64 (t673 * (rd t659 t662))) != (wrap64 ((wrap64 (t678 - (wrap64 ((rd t659 t662) * (rd t659 t662))))) - t661))) = false := bne_eq_false_iff_eq.mpr c39
          clear c39
          by_cases c40 : t673 ≥ 1
          ·rw [if_pos c40] at H
           have c40b0 : decide (1 ≤ t673) = true := decide_eq_true c40
           clear c40
           by_cases c41 : (t666 != (decide (t673 ≤ 100000))) = true
           ·rw [if_pos c41] at H
            have c41b0 : (t666 != (decide (t673 ≤ 100000))) = true := c41
            (try (have c41b1 : decide (t666 = (decide (t673 ≤ 100000))) = false := by simpa using c41))
            (try (have c41b2 : (t666 == (decide (t673 ≤ 100000))) = false := by simpa using c41))
            (try (have c41b3 : ¬ (t666 = (decide (t673 ≤ 100000))) := by simpa using c41))
            clear c41
            obtain rfl := Option.some.inj H
            try go_wp2
            have n0_ := Aside0.mk (Kd.R_drew HO_5.out)
            have n1_ := Aside0.mk (Kd.R_drew HO_9.out)
            have n2_ := Aside0.mk (below_drew1 HB.out)
            clear HO_5
            clear HO_9
            clear HB
            have HO_5 := n0_
            have HO_9 := n1_
            have HB := n2_
            clear n0_ n1_ n2_
            have p679 : 0 ≤ (t662 : Int) := of_decide_eq_true (by first | (with_reducible assumption) | assumption)
            have q679 : t662 < (t659.length : Int) := of_decide_eq_true (by first | (with_reducible assumption) | assumption)
            obtain ⟨ad679, e679, hx679_0⟩ := Kd.at_int (Kd.R_reads' HO_5.out).2.2 t662 p679 q679
            cases e679
            replace p679 := eq_true p679
            replace q679 := eq_true q679
            have p680 : 0 ≤ (t662 : Int) := of_decide_eq_true (by first | (with_reducible assumption) | assumption)
            have q680 : t662 < (t659.length : Int) := of_decide_eq_true (by first | (with_reducible assumption) | assumption)
            obtain ⟨ad680, e680, hx680_0⟩ := Kd.at_int (Kd.R_reads' HO_5.out).2.2 t662 p680 q680
            obtain rfl : ad679 = ad680 := (by injection e680)
            replace p680 := eq_true p680
            replace q680 := eq_true q680
            refine start_ (n := 15) (S := fun w' => w'.cell? (ad679.add (t662).toNat) = some (.int .i64 (rd t659 t662)) ∧ w'.cell? (ad679.add (t662).toNat) = some (.int .i64 (rd t659 t662))) (ds := []) #[false, false, false, false, false, false, false, false, false, false, false, false, false, false, false] (by kernel_rfl) rfl rfl ⟨hx679_0, hx680_0⟩ (fun hHeld => ?_); refine with_tabW laws_FnJumpsOfHurwitz.tab11 laws_FnJumpsOfHurwitz.bits11 (fun HT_ HW_ => ?_)
            generalize wc.drew = w42 at HO_5 HO_9 HB hx679_0 hx680_0 hHeld ⊢
            refine pure_ (i := 0) (N := some 91) (v := ?_) (a' := ?_) #[true, false, false, false, false, false, false, false, false, false, false, false, false, false, false] rfl rfl (any_of HT_.out (by kernel_rfl)) (fun _ _ _ h => h) (Or.inl ⟨by rfl, ?_⟩) ?_ ?_
            rotate_left
            ·intro w'
             go_simp
             with_reducible rfl
            rotate_left
            ·simp only [Act.put, List.setIfInBounds_toArray, List.set_cons_zero, List.set_cons_succ, i64_w, i32_w]
             rfl
            refine pure_ (i := 2) (N := some 93) (v := ?_) (a' := ?_) #[true, false, true, false, false, false, false, false, false, false, false, false, false, false, false] rfl rfl (any_of HT_.out (by kernel_rfl)) (fun _ _ _ h => h) (Or.inl ⟨by rfl, ?_⟩) ?_ ?_
            rotate_left
            ·intro w'
             go_simp
             with_reducible rfl
            rotate_left
            ·simp only [Act.put, List.setIfInBounds_toArray, List.set_cons_zero, List.set_cons_succ, i64_w, i32_w]
             rfl
            refine pure_ (i := 3) (N := some 94) (v := ?_) (a' := ?_) #[true, false, true, true, false, false, false, false, false, false, false, false, false, false, false] rfl rfl (any_of HT_.out (by kernel_rfl)) (fun _ _ _ h => h) (Or.inl ⟨by rfl, ?_⟩) ?_ ?_
            rotate_left
            ·intro w'
             go_simp
             with_reducible rfl
            rotate_left
            ·simp only [Act.put, List.setIfInBounds_toArray, List.set_cons_zero, List.set_cons_succ, i64_w, i32_w]
             rfl
            refine pure_ (i := 4) (N := some 95) (v := ?_) (a' := ?_) #[true, false, true, true, true, false, false, false, false, false, false, false, false, false, false] rfl rfl (any_of HT_.out (by kernel_rfl)) (fun _ _ _ h => h) (Or.inl ⟨by rfl, ?_⟩) ?_ ?_
            rotate_left
            ·intro w'
             go_simp
             with_reducible rfl
            rotate_left
            ·simp only [Act.put, List.setIfInBounds_toArray, List.set_cons_zero, List.set_cons_succ, i64_w, i32_w]
             rfl
            refine pure_ (i := 6) (N := some 97) (v := ?_) (a' := ?_) #[true, false, true, true, true, false, true, false, false, false, false, false, false, false, false] rfl rfl (any_of HT_.out (by kernel_rfl)) (fun _ _ _ h => h) (Or.inl ⟨by rfl, ?_⟩) ?_ ?_
            rotate_left
            ·intro w'
             go_simp
             with_reducible rfl
            rotate_left
            ·simp only [Act.put, List.setIfInBounds_toArray, List.set_cons_zero, List.set_cons_succ, i64_w, i32_w]
             rfl
            refine pure_ (i := 7) (N := some 98) (v := ?_) (a' := ?_) #[true, false, true, true, true, false, true, true, false, false, false, false, false, false, false] rfl rfl (any_of HT_.out (by kernel_rfl)) (fun _ _ _ h => h) (Or.inl ⟨by rfl, ?_⟩) ?_ ?_
            rotate_left
            ·intro w'
             go_simp
             with_reducible rfl
            rotate_left
            ·simp only [Act.put, List.setIfInBounds_toArray, List.set_cons_zero, List.set_cons_succ, i64_w, i32_w]
             rfl
            refine pure_ (i := 8) (N := some 99) (v := ?_) (a' := ?_) #[true, false, true, true, true, false, true, true, true, false, false, false, false, false, false] rfl rfl (any_of HT_.out (by kernel_rfl)) (fun _ _ _ h => h) (Or.inl ⟨by rfl, ?_⟩) ?_ ?_
            rotate_left
            ·intro w'
             go_simp
             with_reducible rfl
            rotate_left
            ·simp only [Act.put, List.setIfInBounds_toArray, List.set_cons_zero, List.set_cons_succ, i64_w, i32_w]
             rfl
            refine pure_ (i := 12) (N := some 103) (v := ?_) (a' := ?_) #[true, false, true, true, true, false, true, true, true, false, false, false, true, false, false] rfl rfl (any_of HT_.out (by kernel_rfl)) (fun _ _ _ h => h) (Or.inl ⟨by rfl, ?_⟩) ?_ ?_
            rotate_left
            ·intro w'
             go_simp
             with_reducible rfl
            rotate_left
            ·simp only [Act.put, List.setIfInBounds_toArray, List.set_cons_zero, List.set_cons_succ, i64_w, i32_w]
             rfl
            refine take_ (i := 5) (N := some 96) (v := ?_) (a' := ?_) #[true, false, true, true, true, true, true, true, true, false, false, false, true, false, false] rfl rfl (take_ofW HT_.out HW_.out (by kernel_rfl)) (fun _ _ _ h => h) (Or.inl ⟨by rfl, ?_⟩) hHeld ?_ ?_
            rotate_left
            ·rintro w' ⟨s0, s1⟩
             go_simp
             with_reducible rfl
            rotate_left
            ·simp only [Act.put, List.setIfInBounds_toArray, List.set_cons_zero, List.set_cons_succ, i64_w, i32_w]
             rfl
            refine take_ (i := 9) (N := some 100) (v := ?_) (a' := ?_) #[true, false, true, true, true, true, true, true, true, true, false, false, true, false, false] rfl rfl (take_ofW HT_.out HW_.out (by kernel_rfl)) (fun _ _ _ h => h) (Or.inl ⟨by rfl, ?_⟩) hHeld ?_ ?_
            rotate_left
            ·rintro w' ⟨s0, s1⟩
             go_simp
             with_reducible rfl
            rotate_left
            ·simp only [Act.put, List.setIfInBounds_toArray, List.set_cons_zero, List.set_cons_succ, i64_w, i32_w]
             rfl
            refine pure_ (i := 10) (N := some 101) (v := ?_) (a' := ?_) #[true, false, true, true, true, true, true, true, true, true, true, false, true, false, false] rfl rfl (any_of HT_.out (by kernel_rfl)) (fun _ _ _ h => h) (Or.inl ⟨by rfl, ?_⟩) ?_ ?_
            rotate_left
            ·intro w'
             go_simp
             with_reducible rfl
            rotate_left
            ·simp only [Act.put, List.setIfInBounds_toArray, List.set_cons_zero, List.set_cons_succ, i64_w, i32_w]
             rfl
            refine one_ (i := 1) (N := some 92) #[true, true, true, true, true, true, true, true, true, true, true, false, true, false, false] rfl rfl (one_of HT_.out (by kernel_rfl)) (by decide) (fun K hK => ?_)
            refine goes_ Try.func47 (by kernel_rfl) rfl #[.slice (some ad679) t659.length co12] (by rfl) rfl rfl (by (try simp only [List.map_toArray, List.map_cons, List.map_nil]); first | done | rfl | (simp only [List.length_drop, List.length_take]; rfl)) ?_
            with_reducible refine (laws_vSquares.calls kj9 _ _ t659 t678 _ ?side1 ?side2 A36.out).mono ?_
            (case side1 => repeat (first | exact (Kd.R_reads' HO_5.out).2.2 | (with_reducible refine Kd.C_alloc ?_ _) | (with_reducible refine Kd.C_drewN ?_ _) | (with_reducible refine Kd.C_drew ?_)))
            (case side2 => exact (Kd.R_reads' HO_5.out).2.1)
            rintro e w' ⟨rfl, ⟨nd, rfl⟩⟩
            refine ⟨_, rfl, ?_⟩
            refine hK.out _ _ ⟨hHeld.1, hHeld.2⟩ (fun hHeld => ?_)
            clear hK K
            refine norm_ (a' := ?_) ?_ ?_
            rotate_left
            ·show Act.put _ (some 92) _ = _
             simp only [Act.put, List.setIfInBounds_toArray, List.set_cons_zero, List.set_cons_succ, i64_w, i32_w]
             rfl
            refine pure_ (i := 11) (N := some 102) (v := ?_) (a' := ?_) #[true, true, true, true, true, true, true, true, true, true, true, true, true, false, false] rfl rfl (any_of HT_.out (by kernel_rfl)) (fun _ _ _ h => h) (Or.inl ⟨by rfl, ?_⟩) ?_ ?_
            rotate_left
            ·intro w'
             go_simp
             with_reducible rfl
            rotate_left
            ·simp only [Act.put, List.setIfInBounds_toArray, List.set_cons_zero, List.set_cons_succ, i64_w, i32_w]
             rfl
            refine pure_ (i := 13) (N := some 104) (v := ?_) (a' := ?_) #[true, true, true, true, true, true, true, true, true, true, true, true, true, true, false] rfl rfl (any_of HT_.out (by kernel_rfl)) (fun _ _ _ h => h) (Or.inl ⟨by rfl, ?_⟩) ?_ ?_
            rotate_left
            ·intro w'
             go_simp
             with_reducible rfl
            rotate_left
            ·simp only [Act.put, List.setIfInBounds_toArray, List.set_cons_zero, List.set_cons_succ, i64_w, i32_w]
             rfl
            refine pure_ (i := 14) (N := some 17) (v := ?_) (a' := ?_) #[true, true, true, true, true, true, true, true, true, true, true, true, true, true, true] rfl rfl (any_of HT_.out (by kernel_rfl)) (fun _ _ _ h => h) (Or.inl ⟨by rfl, ?_⟩) ?_ ?_
            rotate_left
            ·intro w'
             go_simp
             with_reducible rfl
            rotate_left
            ·simp only [Act.put, List.setIfInBounds_toArray, List.set_cons_zero, List.set_cons_succ, i64_w, i32_w]
             rfl
            refine done_ (done_of HT_.out (by kernel_rfl)) ?_
            have p681 : 0 ≤ (t662 : Int) := of_decide_eq_true (by first | (with_reducible assumption) | assumption)
            have q681 : t662 < (t659.length : Int) := of_decide_eq_true (by first | (with_reducible assumption) | assumption)
            obtain ⟨ad681, e681, hx681_0⟩ := Kd.at_int (Kd.R_reads' HO_5.out).2.2 t662 p681 q681
            obtain rfl : ad679 = ad681 := (by injection e681)
            replace p681 := eq_true p681
            replace q681 := eq_true q681
            try go_wp2
            go_ret
            exact ⟨by first | rfl | (simp [errW_none, errW_some] <;> rfl) | (simp [*, errW_none, errW_some] <;> rfl), by repeat (first | (with_reducible first | exact HB.out | apply below_alloc | apply pw_below_drewN | apply below_drew1) | exact HB.out)⟩
           ·rw [if_neg c41] at H
            have c41b0 : (t666 != (decide (t673 ≤ 100000))) = false := by simpa using c41
            (try (have c41b1 : decide (t666 = (decide (t673 ≤ 100000))) = true := by simpa using c41))
            (try (have c41b2 : (t666 == (decide (t673 ≤ 100000))) = true := by simpa using c41))
            clear c41
            have H' := Aside0.mk H
            clear H
            try go_wp2
            have n0_ := Aside0.mk (Kd.R_drew HO_5.out)
            have n1_ := Aside0.mk (Kd.R_drew HO_9.out)
            have n2_ := Aside0.mk (below_drew1 HB.out)
            clear HO_5
            clear HO_9
            clear HB
            have HO_5 := n0_
            have HO_9 := n1_
            have HB := n2_
            clear n0_ n1_ n2_
            have p679 : 0 ≤ (t662 : Int) := of_decide_eq_true (by first | (with_reducible assumption) | assumption)
            have q679 : t662 < (t659.length : Int) := of_decide_eq_true (by first | (with_reducible assumption) | assumption)
            obtain ⟨ad679, e679, hx679_0⟩ := Kd.at_int (Kd.R_reads' HO_5.out).2.2 t662 p679 q679
            cases e679
            replace p679 := eq_true p679
            replace q679 := eq_true q679
            have p680 : 0 ≤ (t662 : Int) := of_decide_eq_true (by first | (with_reducible assumption) | assumption)
            have q680 : t662 < (t659.length : Int) := of_decide_eq_true (by first | (with_reducible assumption) | assumption)
            obtain ⟨ad680, e680, hx680_0⟩ := Kd.at_int (Kd.R_reads' HO_5.out).2.2 t662 p680 q680
            obtain rfl : ad679 = ad680 := (by injection e680)
            replace p680 := eq_true p680
            replace q680 := eq_true q680
            refine start_ (n := 15) (S := fun w' => w'.cell? (ad679.add (t662).toNat) = some (.int .i64 (rd t659 t662)) ∧ w'.cell? (ad679.add (t662).toNat) = some (.int .i64 (rd t659 t662))) (ds := []) #[false, false, false, false, false, false, false, false, false, false, false, false, false, false, false] (by kernel_rfl) rfl rfl ⟨hx679_0, hx680_0⟩ (fun hHeld => ?_); refine with_tabW laws_FnJumpsOfHurwitz.tab11 laws_FnJumpsOfHurwitz.bits11 (fun HT_ HW_ => ?_)
            generalize wc.drew = w43 at HO_5 HO_9 HB hx679_0 hx680_0 hHeld ⊢
            refine pure_ (i := 0) (N := some 91) (v := ?_) (a' := ?_) #[true, false, false, false, false, false, false, false, false, false, false, false, false, false, false] rfl rfl (any_of HT_.out (by kernel_rfl)) (fun _ _ _ h => h) (Or.inl ⟨by rfl, ?_⟩) ?_ ?_
            rotate_left
            ·intro w'
             go_simp
             with_reducible rfl
            rotate_left
            ·simp only [Act.put, List.setIfInBounds_toArray, List.set_cons_zero, List.set_cons_succ, i64_w, i32_w]
             rfl
            refine pure_ (i := 2) (N := some 93) (v := ?_) (a' := ?_) #[true, false, true, false, false, false, false, false, false, false, false, false, false, false, false] rfl rfl (any_of HT_.out (by kernel_rfl)) (fun _ _ _ h => h) (Or.inl ⟨by rfl, ?_⟩) ?_ ?_
            rotate_left
            ·intro w'
             go_simp
             with_reducible rfl
            rotate_left
            ·simp only [Act.put, List.setIfInBounds_toArray, List.set_cons_zero, List.set_cons_succ, i64_w, i32_w]
             rfl
            refine pure_ (i := 3) (N := some 94) (v := ?_) (a' := ?_) #[true, false, true, true, false, false, false, false, false, false, false, false, false, false, false] rfl rfl (any_of HT_.out (by kernel_rfl)) (fun _ _ _ h => h) (Or.inl ⟨by rfl, ?_⟩) ?_ ?_
            rotate_left
            ·intro w'
             go_simp
             with_reducible rfl
            rotate_left
            ·simp only [Act.put, List.setIfInBounds_toArray, List.set_cons_zero, List.set_cons_succ, i64_w, i32_w]
             rfl
            refine pure_ (i := 4) (N := some 95) (v := ?_) (a' := ?_) #[true, false, true, true, true, false, false, false, false, false, false, false, false, false, false] rfl rfl (any_of HT_.out (by kernel_rfl)) (fun _ _ _ h => h) (Or.inl ⟨by rfl, ?_⟩) ?_ ?_
            rotate_left
            ·intro w'
             go_simp
             with_reducible rfl
            rotate_left
            ·simp only [Act.put, List.setIfInBounds_toArray, List.set_cons_zero, List.set_cons_succ, i64_w, i32_w]
             rfl
            refine pure_ (i := 6) (N := some 97) (v := ?_) (a' := ?_) #[true, false, true, true, true, false, true, false, false, false, false, false, false, false, false] rfl rfl (any_of HT_.out (by kernel_rfl)) (fun _ _ _ h => h) (Or.inl ⟨by rfl, ?_⟩) ?_ ?_
            rotate_left
            ·intro w'
             go_simp
             with_reducible rfl
            rotate_left
            ·simp only [Act.put, List.setIfInBounds_toArray, List.set_cons_zero, List.set_cons_succ, i64_w, i32_w]
             rfl
            refine pure_ (i := 7) (N := some 98) (v := ?_) (a' := ?_) #[true, false, true, true, true, false, true, true, false, false, false, false, false, false, false] rfl rfl (any_of HT_.out (by kernel_rfl)) (fun _ _ _ h => h) (Or.inl ⟨by rfl, ?_⟩) ?_ ?_
            rotate_left
            ·intro w'
             go_simp
             with_reducible rfl
            rotate_left
            ·simp only [Act.put, List.setIfInBounds_toArray, List.set_cons_zero, List.set_cons_succ, i64_w, i32_w]
             rfl
            refine pure_ (i := 8) (N := some 99) (v := ?_) (a' := ?_) #[true, false, true, true, true, false, true, true, true, false, false, false, false, false, false] rfl rfl (any_of HT_.out (by kernel_rfl)) (fun _ _ _ h => h) (Or.inl ⟨by rfl, ?_⟩) ?_ ?_
            rotate_left
            ·intro w'
             go_simp
             with_reducible rfl
            rotate_left
            ·simp only [Act.put, List.setIfInBounds_toArray, List.set_cons_zero, List.set_cons_succ, i64_w, i32_w]
             rfl
            refine pure_ (i := 12) (N := some 103) (v := ?_) (a' := ?_) #[true, false, true, true, true, false, true, true, true, false, false, false, true, false, false] rfl rfl (any_of HT_.out (by kernel_rfl)) (fun _ _ _ h => h) (Or.inl ⟨by rfl, ?_⟩) ?_ ?_
            rotate_left
            ·intro w'
             go_simp
             with_reducible rfl
            rotate_left
            ·simp only [Act.put, List.setIfInBounds_toArray, List.set_cons_zero, List.set_cons_succ, i64_w, i32_w]
             rfl
            refine take_ (i := 5) (N := some 96) (v := ?_) (a' := ?_) #[true, false, true, true, true, true, true, true, true, false, false, false, true, false, false] rfl rfl (take_ofW HT_.out HW_.out (by kernel_rfl)) (fun _ _ _ h => h) (Or.inl ⟨by rfl, ?_⟩) hHeld ?_ ?_
            rotate_left
            ·rintro w' ⟨s0, s1⟩
             go_simp
             with_reducible rfl
            rotate_left
            ·simp only [Act.put, List.setIfInBounds_toArray, List.set_cons_zero, List.set_cons_succ, i64_w, i32_w]
             rfl
            refine take_ (i := 9) (N := some 100) (v := ?_) (a' := ?_) #[true, false, true, true, true, true, true, true, true, true, false, false, true, false, false] rfl rfl (take_ofW HT_.out HW_.out (by kernel_rfl)) (fun _ _ _ h => h) (Or.inl ⟨by rfl, ?_⟩) hHeld ?_ ?_
            rotate_left
            ·rintro w' ⟨s0, s1⟩
             go_simp
             with_reducible rfl
            rotate_left
            ·simp only [Act.put, List.setIfInBounds_toArray, List.set_cons_zero, List.set_cons_succ, i64_w, i32_w]
             rfl
            refine pure_ (i := 10) (N := some 101) (v := ?_) (a' := ?_) #[true, false, true, true, true, true, true, true, true, true, true, false, true, false, false] rfl rfl (any_of HT_.out (by kernel_rfl)) (fun _ _ _ h => h) (Or.inl ⟨by rfl, ?_⟩) ?_ ?_
            rotate_left
            ·intro w'
             go_simp
             with_reducible rfl
            rotate_left
            ·simp only [Act.put, List.setIfInBounds_toArray, List.set_cons_zero, List.set_cons_succ, i64_w, i32_w]
             rfl
            refine one_ (i := 1) (N := some 92) #[true, true, true, true, true, true, true, true, true, true, true, false, true, false, false] rfl rfl (one_of HT_.out (by kernel_rfl)) (by decide) (fun K hK => ?_)
            refine goes_ Try.func47 (by kernel_rfl) rfl #[.slice (some ad679) t659.length co12] (by rfl) rfl rfl (by (try simp only [List.map_toArray, List.map_cons, List.map_nil]); first | done | rfl | (simp only [List.length_drop, List.length_take]; rfl)) ?_
            with_reducible refine (laws_vSquares.calls kj9 _ _ t659 t678 _ ?side1 ?side2 A36.out).mono ?_
            (case side1 => repeat (first | exact (Kd.R_reads' HO_5.out).2.2 | (with_reducible refine Kd.C_alloc ?_ _) | (with_reducible refine Kd.C_drewN ?_ _) | (with_reducible refine Kd.C_drew ?_)))
            (case side2 => exact (Kd.R_reads' HO_5.out).2.1)
            rintro e w' ⟨rfl, ⟨nd, rfl⟩⟩
            refine ⟨_, rfl, ?_⟩
            refine hK.out _ _ ⟨hHeld.1, hHeld.2⟩ (fun hHeld => ?_)
            clear hK K
            refine norm_ (a' := ?_) ?_ ?_
            rotate_left
            ·show Act.put _ (some 92) _ = _
             simp only [Act.put, List.setIfInBounds_toArray, List.set_cons_zero, List.set_cons_succ, i64_w, i32_w]
             rfl
            refine pure_ (i := 11) (N := some 102) (v := ?_) (a' := ?_) #[true, true, true, true, true, true, true, true, true, true, true, true, true, false, false] rfl rfl (any_of HT_.out (by kernel_rfl)) (fun _ _ _ h => h) (Or.inl ⟨by rfl, ?_⟩) ?_ ?_
            rotate_left
            ·intro w'
             go_simp
             with_reducible rfl
            rotate_left
            ·simp only [Act.put, List.setIfInBounds_toArray, List.set_cons_zero, List.set_cons_succ, i64_w, i32_w]
             rfl
            refine pure_ (i := 13) (N := some 104) (v := ?_) (a' := ?_) #[true, true, true, true, true, true, true, true, true, true, true, true, true, true, false] rfl rfl (any_of HT_.out (by kernel_rfl)) (fun _ _ _ h => h) (Or.inl ⟨by rfl, ?_⟩) ?_ ?_
            rotate_left
            ·intro w'
             go_simp
             with_reducible rfl
            rotate_left
            ·simp only [Act.put, List.setIfInBounds_toArray, List.set_cons_zero, List.set_cons_succ, i64_w, i32_w]
             rfl
            refine pure_ (i := 14) (N := some 17) (v := ?_) (a' := ?_) #[true, true, true, true, true, true, true, true, true, true, true, true, true, true, true] rfl rfl (any_of HT_.out (by kernel_rfl)) (fun _ _ _ h => h) (Or.inl ⟨by rfl, ?_⟩) ?_ ?_
            rotate_left
            ·intro w'
             go_simp
             with_reducible rfl
            rotate_left
            ·simp only [Act.put, List.setIfInBounds_toArray, List.set_cons_zero, List.set_cons_succ, i64_w, i32_w]
             rfl
            refine done_ (done_of HT_.out (by kernel_rfl)) ?_
            have p681 : 0 ≤ (t662 : Int) := of_decide_eq_true (by first | (with_reducible assumption) | assumption)
            have q681 : t662 < (t659.length : Int) := of_decide_eq_true (by first | (with_reducible assumption) | assumption)
            obtain ⟨ad681, e681, hx681_0⟩ := Kd.at_int (Kd.R_reads' HO_5.out).2.2 t662 p681 q681
            obtain rfl : ad679 = ad681 := (by injection e681)
            replace p681 := eq_true p681
            replace q681 := eq_true q681
            try go_wp2
            go_meet
            case rel => exact ⟨_, H', ⟨by have := HJ9.out; first | omega | exact Nat.le_refl _⟩, ⟨by (with_reducible repeat (first | apply Kd.R_alloc | apply Kd.R_drewN | apply Kd.R_drew)); exact HO_5.out⟩, ⟨by (with_reducible repeat (first | apply Kd.R_alloc | apply Kd.R_drewN | apply Kd.R_drew)); exact HO_9.out⟩, ⟨by repeat (first | (with_reducible first | exact HB.out | apply below_alloc | apply pw_below_drewN | apply below_drew1) | exact HB.out)⟩⟩
          ·rw [if_neg c40] at H
           have c40b0 : decide (1 ≤ t673) = false := decide_eq_false c40
           clear c40
           by_cases c44 : (t666 != false) = true
           ·rw [if_pos c44] at H
            have c44b0 : (t666 != false) = true := c44
            (try (have c44b1 : decide (t666 = false) = false := by simpa using c44))
            (try (have c44b2 : (t666 == false) = false := by simpa using c44))
            (try (have c44b3 : ¬ (t666 = false) := by simpa using c44))
            clear c44
            obtain rfl := Option.some.inj H
            try go_wp2
            have n0_ := Aside0.mk (Kd.R_drew HO_5.out)
            have n1_ := Aside0.mk (Kd.R_drew HO_9.out)
            have n2_ := Aside0.mk (below_drew1 HB.out)
            clear HO_5
            clear HO_9
            clear HB
            have HO_5 := n0_
            have HO_9 := n1_
            have HB := n2_
            clear n0_ n1_ n2_
            have p679 : 0 ≤ (t662 : Int) := of_decide_eq_true (by first | (with_reducible assumption) | assumption)
            have q679 : t662 < (t659.length : Int) := of_decide_eq_true (by first | (with_reducible assumption) | assumption)
            obtain ⟨ad679, e679, hx679_0⟩ := Kd.at_int (Kd.R_reads' HO_5.out).2.2 t662 p679 q679
            cases e679
            replace p679 := eq_true p679
            replace q679 := eq_true q679
            have p680 : 0 ≤ (t662 : Int) := of_decide_eq_true (by first | (with_reducible assumption) | assumption)
            have q680 : t662 < (t659.length : Int) := of_decide_eq_true (by first | (with_reducible assumption) | assumption)
            obtain ⟨ad680, e680, hx680_0⟩ := Kd.at_int (Kd.R_reads' HO_5.out).2.2 t662 p680 q680
            obtain rfl : ad679 = ad680 := (by injection e680)
            replace p680 := eq_true p680
            replace q680 := eq_true q680
            refine start_ (n := 15) (S := fun w' => w'.cell? (ad679.add (t662).toNat) = some (.int .i64 (rd t659 t662)) ∧ w'.cell? (ad679.add (t662).toNat) = some (.int .i64 (rd t659 t662))) (ds := []) #[false, false, false, false, false, false, false, false, false, false, false, false, false, false, false] (by kernel_rfl) rfl rfl ⟨hx679_0, hx680_0⟩ (fun hHeld => ?_); refine with_tabW laws_FnJumpsOfHurwitz.tab11 laws_FnJumpsOfHurwitz.bits11 (fun HT_ HW_ => ?_)
            generalize wc.drew = w45 at HO_5 HO_9 HB hx679_0 hx680_0 hHeld ⊢
            refine pure_ (i := 0) (N := some 91) (v := ?_) (a' := ?_) #[true, false, false, false, false, false, false, false, false, false, false, false, false, false, false] rfl rfl (any_of HT_.out (by kernel_rfl)) (fun _ _ _ h => h) (Or.inl ⟨by rfl, ?_⟩) ?_ ?_
            rotate_left
            ·intro w'
             go_simp
             with_reducible rfl
            rotate_left
            ·simp only [Act.put, List.setIfInBounds_toArray, List.set_cons_zero, List.set_cons_succ, i64_w, i32_w]
             rfl
            refine pure_ (i := 2) (N := some 93) (v := ?_) (a' := ?_) #[true, false, true, false, false, false, false, false, false, false, false, false, false, false, false] rfl rfl (any_of HT_.out (by kernel_rfl)) (fun _ _ _ h => h) (Or.inl ⟨by rfl, ?_⟩) ?_ ?_
            rotate_left
            ·intro w'
             go_simp
             with_reducible rfl
            rotate_left
            ·simp only [Act.put, List.setIfInBounds_toArray, List.set_cons_zero, List.set_cons_succ, i64_w, i32_w]
             rfl
            refine pure_ (i := 3) (N := some 94) (v := ?_) (a' := ?_) #[true, false, true, true, false, false, false, false, false, false, false, false, false, false, false] rfl rfl (any_of HT_.out (by kernel_rfl)) (fun _ _ _ h => h) (Or.inl ⟨by rfl, ?_⟩) ?_ ?_
            rotate_left
            ·intro w'
             go_simp
             with_reducible rfl
            rotate_left
            ·simp only [Act.put, List.setIfInBounds_toArray, List.set_cons_zero, List.set_cons_succ, i64_w, i32_w]
             rfl
            refine pure_ (i := 4) (N := some 95) (v := ?_) (a' := ?_) #[true, false, true, true, true, false, false, false, false, false, false, false, false, false, false] rfl rfl (any_of HT_.out (by kernel_rfl)) (fun _ _ _ h => h) (Or.inl ⟨by rfl, ?_⟩) ?_ ?_
            rotate_left
            ·intro w'
             go_simp
             with_reducible rfl
            rotate_left
            ·simp only [Act.put, List.setIfInBounds_toArray, List.set_cons_zero, List.set_cons_succ, i64_w, i32_w]
             rfl
            refine pure_ (i := 6) (N := some 97) (v := ?_) (a' := ?_) #[true, false, true, true, true, false, true, false, false, false, false, false, false, false, false] rfl rfl (any_of HT_.out (by kernel_rfl)) (fun _ _ _ h => h) (Or.inl ⟨by rfl, ?_⟩) ?_ ?_
            rotate_left
            ·intro w'
             go_simp
             with_reducible rfl
            rotate_left
            ·simp only [Act.put, List.setIfInBounds_toArray, List.set_cons_zero, List.set_cons_succ, i64_w, i32_w]
             rfl
            refine pure_ (i := 7) (N := some 98) (v := ?_) (a' := ?_) #[true, false, true, true, true, false, true, true, false, false, false, false, false, false, false] rfl rfl (any_of HT_.out (by kernel_rfl)) (fun _ _ _ h => h) (Or.inl ⟨by rfl, ?_⟩) ?_ ?_
            rotate_left
            ·intro w'
             go_simp
             with_reducible rfl
            rotate_left
            ·simp only [Act.put, List.setIfInBounds_toArray, List.set_cons_zero, List.set_cons_succ, i64_w, i32_w]
             rfl
            refine pure_ (i := 8) (N := some 99) (v := ?_) (a' := ?_) #[true, false, true, true, true, false, true, true, true, false, false, false, false, false, false] rfl rfl (any_of HT_.out (by kernel_rfl)) (fun _ _ _ h => h) (Or.inl ⟨by rfl, ?_⟩) ?_ ?_
            rotate_left
            ·intro w'
             go_simp
             with_reducible rfl
            rotate_left
            ·simp only [Act.put, List.setIfInBounds_toArray, List.set_cons_zero, List.set_cons_succ, i64_w, i32_w]
             rfl
            refine pure_ (i := 12) (N := some 103) (v := ?_) (a' := ?_) #[true, false, true, true, true, false, true, true, true, false, false, false, true, false, false] rfl rfl (any_of HT_.out (by kernel_rfl)) (fun _ _ _ h => h) (Or.inl ⟨by rfl, ?_⟩) ?_ ?_
            rotate_left
            ·intro w'
             go_simp
             with_reducible rfl
            rotate_left
            ·simp only [Act.put, List.setIfInBounds_toArray, List.set_cons_zero, List.set_cons_succ, i64_w, i32_w]
             rfl
            refine take_ (i := 5) (N := some 96) (v := ?_) (a' := ?_) #[true, false, true, true, true, true, true, true, true, false, false, false, true, false, false] rfl rfl (take_ofW HT_.out HW_.out (by kernel_rfl)) (fun _ _ _ h => h) (Or.inl ⟨by rfl, ?_⟩) hHeld ?_ ?_
            rotate_left
            ·rintro w' ⟨s0, s1⟩
             go_simp
             with_reducible rfl
            rotate_left
            ·simp only [Act.put, List.setIfInBounds_toArray, List.set_cons_zero, List.set_cons_succ, i64_w, i32_w]
             rfl
            refine take_ (i := 9) (N := some 100) (v := ?_) (a' := ?_) #[true, false, true, true, true, true, true, true, true, true, false, false, true, false, false] rfl rfl (take_ofW HT_.out HW_.out (by kernel_rfl)) (fun _ _ _ h => h) (Or.inl ⟨by rfl, ?_⟩) hHeld ?_ ?_
            rotate_left
            ·rintro w' ⟨s0, s1⟩
             go_simp
             with_reducible rfl
            rotate_left
            ·simp only [Act.put, List.setIfInBounds_toArray, List.set_cons_zero, List.set_cons_succ, i64_w, i32_w]
             rfl
            refine pure_ (i := 10) (N := some 101) (v := ?_) (a' := ?_) #[true, false, true, true, true, true, true, true, true, true, true, false, true, false, false] rfl rfl (any_of HT_.out (by kernel_rfl)) (fun _ _ _ h => h) (Or.inl ⟨by rfl, ?_⟩) ?_ ?_
            rotate_left
            ·intro w'
             go_simp
             with_reducible rfl
            rotate_left
            ·simp only [Act.put, List.setIfInBounds_toArray, List.set_cons_zero, List.set_cons_succ, i64_w, i32_w]
             rfl
            refine one_ (i := 1) (N := some 92) #[true, true, true, true, true, true, true, true, true, true, true, false, true, false, false] rfl rfl (one_of HT_.out (by kernel_rfl)) (by decide) (fun K hK => ?_)
            refine goes_ Try.func47 (by kernel_rfl) rfl #[.slice (some ad679) t659.length co12] (by rfl) rfl rfl (by (try simp only [List.map_toArray, List.map_cons, List.map_nil]); first | done | rfl | (simp only [List.length_drop, List.length_take]; rfl)) ?_
            with_reducible refine (laws_vSquares.calls kj9 _ _ t659 t678 _ ?side1 ?side2 A36.out).mono ?_
            (case side1 => repeat (first | exact (Kd.R_reads' HO_5.out).2.2 | (with_reducible refine Kd.C_alloc ?_ _) | (with_reducible refine Kd.C_drewN ?_ _) | (with_reducible refine Kd.C_drew ?_)))
            (case side2 => exact (Kd.R_reads' HO_5.out).2.1)
            rintro e w' ⟨rfl, ⟨nd, rfl⟩⟩
            refine ⟨_, rfl, ?_⟩
            refine hK.out _ _ ⟨hHeld.1, hHeld.2⟩ (fun hHeld => ?_)
            clear hK K
            refine norm_ (a' := ?_) ?_ ?_
            rotate_left
            ·show Act.put _ (some 92) _ = _
             simp only [Act.put, List.setIfInBounds_toArray, List.set_cons_zero, List.set_cons_succ, i64_w, i32_w]
             rfl
            refine pure_ (i := 11) (N := some 102) (v := ?_) (a' := ?_) #[true, true, true, true, true, true, true, true, true, true, true, true, true, false, false] rfl rfl (any_of HT_.out (by kernel_rfl)) (fun _ _ _ h => h) (Or.inl ⟨by rfl, ?_⟩) ?_ ?_
            rotate_left
            ·intro w'
             go_simp
             with_reducible rfl
            rotate_left
            ·simp only [Act.put, List.setIfInBounds_toArray, List.set_cons_zero, List.set_cons_succ, i64_w, i32_w]
             rfl
            refine pure_ (i := 13) (N := some 104) (v := ?_) (a' := ?_) #[true, true, true, true, true, true, true, true, true, true, true, true, true, true, false] rfl rfl (any_of HT_.out (by kernel_rfl)) (fun _ _ _ h => h) (Or.inl ⟨by rfl, ?_⟩) ?_ ?_
            rotate_left
            ·intro w'
             go_simp
             with_reducible rfl
            rotate_left
            ·simp only [Act.put, List.setIfInBounds_toArray, List.set_cons_zero, List.set_cons_succ, i64_w, i32_w]
             rfl
            refine pure_ (i := 14) (N := some 17) (v := ?_) (a' := ?_) #[true, true, true, true, true, true, true, true, true, true, true, true, true, true, true] rfl rfl (any_of HT_.out (by kernel_rfl)) (fun _ _ _ h => h) (Or.inl ⟨by rfl, ?_⟩) ?_ ?_
            rotate_left
            ·intro w'
             go_simp
             with_reducible rfl
            rotate_left
            ·simp only [Act.put, List.setIfInBounds_toArray, List.set_cons_zero, List.set_cons_succ, i64_w, i32_w]
             rfl
            refine done_ (done_of HT_.out (by kernel_rfl)) ?_
            have p681 : 0 ≤ (t662 : Int) := of_decide_eq_true (by first | (with_reducible assumption) | assumption)
            have q681 : t662 < (t659.length : Int) := of_decide_eq_true (by first | (with_reducible assumption) | assumption)
            obtain ⟨ad681, e681, hx681_0⟩ := Kd.at_int (Kd.R_reads' HO_5.out).2.2 t662 p681 q681
            obtain rfl : ad679 = ad681 := (by injection e681)
            replace p681 := eq_true p681
            replace q681 := eq_true q681
            try go_wp2
            go_ret
            exact ⟨by first | rfl | (simp [errW_none, errW_some] <;> rfl) | (simp [*, errW_none, errW_some] <;> rfl), by repeat (first | (with_reducible first | exact HB.out | apply below_alloc | apply pw_below_drewN | apply below_drew1) | exact HB.out)⟩
           ·rw [if_neg c44] at H
            have c44b0 : (t666 != false) = false := by simpa using c44
            (try (have c44b1 : decide (t666 = false) = true := by simpa using c44))
            (try (have c44b2 : (t666 == false) = true := by simpa using c44))
            clear c44
            have H' := Aside0.mk H
            clear H
            try go_wp2
            have n0_ := Aside0.mk (Kd.R_drew HO_5.out)
            have n1_ := Aside0.mk (Kd.R_drew HO_9.out)
            have n2_ := Aside0.mk (below_drew1 HB.out)
            clear HO_5
            clear HO_9
            clear HB
            have HO_5 := n0_
            have HO_9 := n1_
            have HB := n2_
            clear n0_ n1_ n2_
            have p679 : 0 ≤ (t662 : Int) := of_decide_eq_true (by first | (with_reducible assumption) | assumption)
            have q679 : t662 < (t659.length : Int) := of_decide_eq_true (by first | (with_reducible assumption) | assumption)
            obtain ⟨ad679, e679, hx679_0⟩ := Kd.at_int (Kd.R_reads' HO_5.out).2.2 t662 p679 q679
            cases e679
            replace p679 := eq_true p679
            replace q679 := eq_true q679
            have p680 : 0 ≤ (t662 : Int) := of_decide_eq_true (by first | (with_reducible assumption) | assumption)
            have q680 : t662 < (t659.length : Int) := of_decide_eq_true (by first | (with_reducible assumption) | assumption)
            obtain ⟨ad680, e680, hx680_0⟩ := Kd.at_int (Kd.R_reads' HO_5.out).2.2 t662 p680 q680
            obtain rfl : ad679 = ad680 := (by injection e680)
            replace p680 := eq_true p680
            replace q680 := eq_true q680
            refine start_ (n := 15) (S := fun w' => w'.cell? (ad679.add (t662).toNat) = some (.int .i64 (rd t659 t662)) ∧ w'.cell? (ad679.add (t662).toNat) = some (.int .i64 (rd t659 t662))) (ds := []) #[false, false, false, false, false, false, false, false, false, false, false, false, false, false, false] (by kernel_rfl) rfl rfl ⟨hx679_0, hx680_0⟩ (fun hHeld => ?_); refine with_tabW laws_FnJumpsOfHurwitz.tab11 laws_FnJumpsOfHurwitz.bits11 (fun HT_ HW_ => ?_)
            generalize wc.drew = w46 at HO_5 HO_9 HB hx679_0 hx680_0 hHeld ⊢
            refine pure_ (i := 0) (N := some 91) (v := ?_) (a' := ?_) #[true, false, false, false, false, false, false, false, false, false, false, false, false, false, false] rfl rfl (any_of HT_.out (by kernel_rfl)) (fun _ _ _ h => h) (Or.inl ⟨by rfl, ?_⟩) ?_ ?_
            rotate_left
            ·intro w'
             go_simp
             with_reducible rfl
            rotate_left
            ·simp only [Act.put, List.setIfInBounds_toArray, List.set_cons_zero, List.set_cons_succ, i64_w, i32_w]
             rfl
            refine pure_ (i := 2) (N := some 93) (v := ?_) (a' := ?_) #[true, false, true, false, false, false, false, false, false, false, false, false, false, false, false] rfl rfl (any_of HT_.out (by kernel_rfl)) (fun _ _ _ h => h) (Or.inl ⟨by rfl, ?_⟩) ?_ ?_
            rotate_left
            ·intro w'
             go_simp
             with_reducible rfl
            rotate_left
            ·simp only [Act.put, List.setIfInBounds_toArray, List.set_cons_zero, List.set_cons_succ, i64_w, i32_w]
             rfl
            refine pure_ (i := 3) (N := some 94) (v := ?_) (a' := ?_) #[true, false, true, true, false, false, false, false, false, false, false, false, false, false, false] rfl rfl (any_of HT_.out (by kernel_rfl)) (fun _ _ _ h => h) (Or.inl ⟨by rfl, ?_⟩) ?_ ?_
            rotate_left
            ·intro w'
             go_simp
             with_reducible rfl
            rotate_left
            ·simp only [Act.put, List.setIfInBounds_toArray, List.set_cons_zero, List.set_cons_succ, i64_w, i32_w]
             rfl
            refine pure_ (i := 4) (N := some 95) (v := ?_) (a' := ?_) #[true, false, true, true, true, false, false, false, false, false, false, false, false, false, false] rfl rfl (any_of HT_.out (by kernel_rfl)) (fun _ _ _ h => h) (Or.inl ⟨by rfl, ?_⟩) ?_ ?_
            rotate_left
            ·intro w'
             go_simp
             with_reducible rfl
            rotate_left
            ·simp only [Act.put, List.setIfInBounds_toArray, List.set_cons_zero, List.set_cons_succ, i64_w, i32_w]
             rfl
            refine pure_ (i := 6) (N := some 97) (v := ?_) (a' := ?_) #[true, false, true, true, true, false, true, false, false, false, false, false, false, false, false] rfl rfl (any_of HT_.out (by kernel_rfl)) (fun _ _ _ h => h) (Or.inl ⟨by rfl, ?_⟩) ?_ ?_
            rotate_left
            ·intro w'
             go_simp
             with_reducible rfl
            rotate_left
            ·simp only [Act.put, List.setIfInBounds_toArray, List.set_cons_zero, List.set_cons_succ, i64_w, i32_w]
             rfl
            refine pure_ (i := 7) (N := some 98) (v := ?_) (a' := ?_) #[true, false, true, true, true, false, true, true, false, false, false, false, false, false, false] rfl rfl (any_of HT_.out (by kernel_rfl)) (fun _ _ _ h => h) (Or.inl ⟨by rfl, ?_⟩) ?_ ?_
            rotate_left
            ·intro w'
             go_simp
             with_reducible rfl
            rotate_left
            ·simp only [Act.put, List.setIfInBounds_toArray, List.set_cons_zero, List.set_cons_succ, i64_w, i32_w]
             rfl
            refine pure_ (i := 8) (N := some 99) (v := ?_) (a' := ?_) #[true, false, true, true, true, false, true, true, true, false, false, false, false, false, false] rfl rfl (any_of HT_.out (by kernel_rfl)) (fun _ _ _ h => h) (Or.inl ⟨by rfl, ?_⟩) ?_ ?_
            rotate_left
            ·intro w'
             go_simp
             with_reducible rfl
            rotate_left
            ·simp only [Act.put, List.setIfInBounds_toArray, List.set_cons_zero, List.set_cons_succ, i64_w, i32_w]
             rfl
            refine pure_ (i := 12) (N := some 103) (v := ?_) (a' := ?_) #[true, false, true, true, true, false, true, true, true, false, false, false, true, false, false] rfl rfl (any_of HT_.out (by kernel_rfl)) (fun _ _ _ h => h) (Or.inl ⟨by rfl, ?_⟩) ?_ ?_
            rotate_left
            ·intro w'
             go_simp
             with_reducible rfl
            rotate_left
            ·simp only [Act.put, List.setIfInBounds_toArray, List.set_cons_zero, List.set_cons_succ, i64_w, i32_w]
             rfl
            refine take_ (i := 5) (N := some 96) (v := ?_) (a' := ?_) #[true, false, true, true, true, true, true, true, true, false, false, false, true, false, false] rfl rfl (take_ofW HT_.out HW_.out (by kernel_rfl)) (fun _ _ _ h => h) (Or.inl ⟨by rfl, ?_⟩) hHeld ?_ ?_
            rotate_left
            ·rintro w' ⟨s0, s1⟩
             go_simp
             with_reducible rfl
            rotate_left
            ·simp only [Act.put, List.setIfInBounds_toArray, List.set_cons_zero, List.set_cons_succ, i64_w, i32_w]
             rfl
            refine take_ (i := 9) (N := some 100) (v := ?_) (a' := ?_) #[true, false, true, true, true, true, true, true, true, true, false, false, true, false, false] rfl rfl (take_ofW HT_.out HW_.out (by kernel_rfl)) (fun _ _ _ h => h) (Or.inl ⟨by rfl, ?_⟩) hHeld ?_ ?_
            rotate_left
            ·rintro w' ⟨s0, s1⟩
             go_simp
             with_reducible rfl
            rotate_left
            ·simp only [Act.put, List.setIfInBounds_toArray, List.set_cons_zero, List.set_cons_succ, i64_w, i32_w]
             rfl
            refine pure_ (i := 10) (N := some 101) (v := ?_) (a' := ?_) #[true, false, true, true, true, true, true, true, true, true, true, false, true, false, false] rfl rfl (any_of HT_.out (by kernel_rfl)) (fun _ _ _ h => h) (Or.inl ⟨by rfl, ?_⟩) ?_ ?_
            rotate_left
            ·intro w'
             go_simp
             with_reducible rfl
            rotate_left
            ·simp only [Act.put, List.setIfInBounds_toArray, List.set_cons_zero, List.set_cons_succ, i64_w, i32_w]
             rfl
            refine one_ (i := 1) (N := some 92) #[true, true, true, true, true, true, true, true, true, true, true, false, true, false, false] rfl rfl (one_of HT_.out (by kernel_rfl)) (by decide) (fun K hK => ?_)
            refine goes_ Try.func47 (by kernel_rfl) rfl #[.slice (some ad679) t659.length co12] (by rfl) rfl rfl (by (try simp only [List.map_toArray, List.map_cons, List.map_nil]); first | done | rfl | (simp only [List.length_drop, List.length_take]; rfl)) ?_
            with_reducible refine (laws_vSquares.calls kj9 _ _ t659 t678 _ ?side1 ?side2 A36.out).mono ?_
            (case side1 => repeat (first | exact (Kd.R_reads' HO_5.out).2.2 | (with_reducible refine Kd.C_alloc ?_ _) | (with_reducible refine Kd.C_drewN ?_ _) | (with_reducible refine Kd.C_drew ?_)))
            (case side2 => exact (Kd.R_reads' HO_5.out).2.1)
            rintro e w' ⟨rfl, ⟨nd, rfl⟩⟩
            refine ⟨_, rfl, ?_⟩
            refine hK.out _ _ ⟨hHeld.1, hHeld.2⟩ (fun hHeld => ?_)
            clear hK K
            refine norm_ (a' := ?_) ?_ ?_
            rotate_left
            ·show Act.put _ (some 92) _ = _
             simp only [Act.put, List.setIfInBounds_toArray, List.set_cons_zero, List.set_cons_succ, i64_w, i32_w]
             rfl
            refine pure_ (i := 11) (N := some 102) (v := ?_) (a' := ?_) #[true, true, true, true, true, true, true, true, true, true, true, true, true, false, false] rfl rfl (any_of HT_.out (by kernel_rfl)) (fun _ _ _ h => h) (Or.inl ⟨by rfl, ?_⟩) ?_ ?_
            rotate_left
            ·intro w'
             go_simp
             with_reducible rfl
            rotate_left
            ·simp only [Act.put, List.setIfInBounds_toArray, List.set_cons_zero, List.set_cons_succ, i64_w, i32_w]
             rfl
            refine pure_ (i := 13) (N := some 104) (v := ?_) (a' := ?_) #[true, true, true, true, true, true, true, true, true, true, true, true, true, true, false] rfl rfl (any_of HT_.out (by kernel_rfl)) (fun _ _ _ h => h) (Or.inl ⟨by rfl, ?_⟩) ?_ ?_
            rotate_left
            ·intro w'
             go_simp
             with_reducible rfl
            rotate_left
            ·simp only [Act.put, List.setIfInBounds_toArray, List.set_cons_zero, List.set_cons_succ, i64_w, i32_w]
             rfl
            refine pure_ (i := 14) (N := some 17) (v := ?_) (a' := ?_) #[true, true, true, true, true, true, true, true, true, true, true, true, true, true, true] rfl rfl (any_of HT_.out (by kernel_rfl)) (fun _ _ _ h => h) (Or.inl ⟨by rfl, ?_⟩) ?_ ?_
            rotate_left
            ·intro w'
             go_simp
             with_reducible rfl
            rotate_left
            ·simp only [Act.put, List.setIfInBounds_toArray, List.set_cons_zero, List.set_cons_succ, i64_w, i32_w]
             rfl
            refine done_ (done_of HT_.out (by kernel_rfl)) ?_
            have p681 : 0 ≤ (t662 : Int) := of_decide_eq_true (by first | (with_reducible assumption) | assumption)
            have q681 : t662 < (t659.length : Int) := of_decide_eq_true (by first | (with_reducible assumption) | assumption)
            obtain ⟨ad681, e681, hx681_0⟩ := Kd.at_int (Kd.R_reads' HO_5.out).2.2 t662 p681 q681
            obtain rfl : ad679 = ad681 := (by injection e681)
            replace p681 := eq_true p681
            replace q681 := eq_true q681
            try go_wp2
            go_meet
            case rel => exact ⟨_, H', ⟨by have := HJ9.out; first | omega | exact Nat.le_refl _⟩, ⟨by (with_reducible repeat (first | apply Kd.R_alloc | apply Kd.R_drewN | apply Kd.R_drew)); exact HO_5.out⟩, ⟨by (with_reducible repeat (first | apply Kd.R_alloc | apply Kd.R_drewN | apply Kd.R_drew)); exact HO_9.out⟩, ⟨by repeat (first | (with_reducible first | exact HB.out | apply below_alloc | apply pw_below_drewN | apply below_drew1) | exact HB.out)⟩⟩
         ·rw [if_neg c39] at H
          have c39b0 : ((wrap64 (t673 * (rd t659 t662))) == (wrap64 ((wrap64 (t678 - (wrap64 ((rd t659 t662) * (rd t659 t662))))) - t661))) = false := beq_eq_false_iff_ne.mpr c39
          have c39b1 : ((wrap64 (t673 * (rd t659 t662))) != (wrap64 ((wrap64 (t678 - (wrap64 ((rd t659 t662) * (rd t659 t662))))) - t661))) = true := bne_iff_ne.mpr c39
          obtain rfl := Option.some.inj H
          try go_wp2
          have n0_ := Aside0.mk (Kd.R_drew HO_5.out)
          have n1_ := Aside0.mk (Kd.R_drew HO_9.out)
          have n2_ := Aside0.mk (below_drew1 HB.out)
          clear HO_5
          clear HO_9
          clear HB
          have HO_5 := n0_
          have HO_9 := n1_
          have HB := n2_
          clear n0_ n1_ n2_
          have p679 : 0 ≤ (t662 : Int) := of_decide_eq_true (by first | (with_reducible assumption) | assumption)
          have q679 : t662 < (t659.length : Int) := of_decide_eq_true (by first | (with_reducible assumption) | assumption)
          obtain ⟨ad679, e679, hx679_0⟩ := Kd.at_int (Kd.R_reads' HO_5.out).2.2 t662 p679 q679
          cases e679
          replace p679 := eq_true p679
          replace q679 := eq_true q679
          have p680 : 0 ≤ (t662 : Int) := of_decide_eq_true (by first | (with_reducible assumption) | assumption)
          have q680 : t662 < (t659.length : Int) := of_decide_eq_true (by first | (with_reducible assumption) | assumption)
          obtain ⟨ad680, e680, hx680_0⟩ := Kd.at_int (Kd.R_reads' HO_5.out).2.2 t662 p680 q680
          obtain rfl : ad679 = ad680 := (by injection e680)
          replace p680 := eq_true p680
          replace q680 := eq_true q680
          refine start_ (n := 15) (S := fun w' => w'.cell? (ad679.add (t662).toNat) = some (.int .i64 (rd t659 t662)) ∧ w'.cell? (ad679.add (t662).toNat) = some (.int .i64 (rd t659 t662))) (ds := []) #[false, false, false, false, false, false, false, false, false, false, false, false, false, false, false] (by kernel_rfl) rfl rfl ⟨hx679_0, hx680_0⟩ (fun hHeld => ?_); refine with_tabW laws_FnJumpsOfHurwitz.tab11 laws_FnJumpsOfHurwitz.bits11 (fun HT_ HW_ => ?_)
          generalize wc.drew = w47 at HO_5 HO_9 HB hx679_0 hx680_0 hHeld ⊢
          refine pure_ (i := 0) (N := some 91) (v := ?_) (a' := ?_) #[true, false, false, false, false, false, false, false, false, false, false, false, false, false, false] rfl rfl (any_of HT_.out (by kernel_rfl)) (fun _ _ _ h => h) (Or.inl ⟨by rfl, ?_⟩) ?_ ?_
          rotate_left
          ·intro w'
           go_simp
           with_reducible rfl
          rotate_left
          ·simp only [Act.put, List.setIfInBounds_toArray, List.set_cons_zero, List.set_cons_succ, i64_w, i32_w]
           rfl
          refine pure_ (i := 2) (N := some 93) (v := ?_) (a' := ?_) #[true, false, true, false, false, false, false, false, false, false, false, false, false, false, false] rfl rfl (any_of HT_.out (by kernel_rfl)) (fun _ _ _ h => h) (Or.inl ⟨by rfl, ?_⟩) ?_ ?_
          rotate_left
          ·intro w'
           go_simp
           with_reducible rfl
          rotate_left
          ·simp only [Act.put, List.setIfInBounds_toArray, List.set_cons_zero, List.set_cons_succ, i64_w, i32_w]
           rfl
          refine pure_ (i := 3) (N := some 94) (v := ?_) (a' := ?_) #[true, false, true, true, false, false, false, false, false, false, false, false, false, false, false] rfl rfl (any_of HT_.out (by kernel_rfl)) (fun _ _ _ h => h) (Or.inl ⟨by rfl, ?_⟩) ?_ ?_
          rotate_left
          ·intro w'
           go_simp
           with_reducible rfl
          rotate_left
          ·simp only [Act.put, List.setIfInBounds_toArray, List.set_cons_zero, List.set_cons_succ, i64_w, i32_w]
           rfl
          refine pure_ (i := 4) (N := some 95) (v := ?_) (a' := ?_) #[true, false, true, true, true, false, false, false, false, false, false, false, false, false, false] rfl rfl (any_of HT_.out (by kernel_rfl)) (fun _ _ _ h => h) (Or.inl ⟨by rfl, ?_⟩) ?_ ?_
          rotate_left
          ·intro w'
           go_simp
           with_reducible rfl
          rotate_left
          ·simp only [Act.put, List.setIfInBounds_toArray, List.set_cons_zero, List.set_cons_succ, i64_w, i32_w]
           rfl
          refine pure_ (i := 6) (N := some 97) (v := ?_) (a' := ?_) #[true, false, true, true, true, false, true, false, false, false, false, false, false, false, false] rfl rfl (any_of HT_.out (by kernel_rfl)) (fun _ _ _ h => h) (Or.inl ⟨by rfl, ?_⟩) ?_ ?_
          rotate_left
          ·intro w'
           go_simp
           with_reducible rfl
          rotate_left
          ·simp only [Act.put, List.setIfInBounds_toArray, List.set_cons_zero, List.set_cons_succ, i64_w, i32_w]
           rfl
          refine pure_ (i := 7) (N := some 98) (v := ?_) (a' := ?_) #[true, false, true, true, true, false, true, true, false, false, false, false, false, false, false] rfl rfl (any_of HT_.out (by kernel_rfl)) (fun _ _ _ h => h) (Or.inl ⟨by rfl, ?_⟩) ?_ ?_
          rotate_left
          ·intro w'
           go_simp
           with_reducible rfl
          rotate_left
          ·simp only [Act.put, List.setIfInBounds_toArray, List.set_cons_zero, List.set_cons_succ, i64_w, i32_w]
           rfl
          refine pure_ (i := 8) (N := some 99) (v := ?_) (a' := ?_) #[true, false, true, true, true, false, true, true, true, false, false, false, false, false, false] rfl rfl (any_of HT_.out (by kernel_rfl)) (fun _ _ _ h => h) (Or.inl ⟨by rfl, ?_⟩) ?_ ?_
          rotate_left
          ·intro w'
           go_simp
           with_reducible rfl
          rotate_left
          ·simp only [Act.put, List.setIfInBounds_toArray, List.set_cons_zero, List.set_cons_succ, i64_w, i32_w]
           rfl
          refine pure_ (i := 12) (N := some 103) (v := ?_) (a' := ?_) #[true, false, true, true, true, false, true, true, true, false, false, false, true, false, false] rfl rfl (any_of HT_.out (by kernel_rfl)) (fun _ _ _ h => h) (Or.inl ⟨by rfl, ?_⟩) ?_ ?_
          rotate_left
          ·intro w'
           go_simp
           with_reducible rfl
          rotate_left
          ·simp only [Act.put, List.setIfInBounds_toArray, List.set_cons_zero, List.set_cons_succ, i64_w, i32_w]
           rfl
          refine take_ (i := 5) (N := some 96) (v := ?_) (a' := ?_) #[true, false, true, true, true, true, true, true, true, false, false, false, true, false, false] rfl rfl (take_ofW HT_.out HW_.out (by kernel_rfl)) (fun _ _ _ h => h) (Or.inl ⟨by rfl, ?_⟩) hHeld ?_ ?_
          rotate_left
          ·rintro w' ⟨s0, s1⟩
           go_simp
           with_reducible rfl
          rotate_left
          ·simp only [Act.put, List.setIfInBounds_toArray, List.set_cons_zero, List.set_cons_succ, i64_w, i32_w]
           rfl
          refine take_ (i := 9) (N := some 100) (v := ?_) (a' := ?_) #[true, false, true, true, true, true, true, true, true, true, false, false, true, false, false] rfl rfl (take_ofW HT_.out HW_.out (by kernel_rfl)) (fun _ _ _ h => h) (Or.inl ⟨by rfl, ?_⟩) hHeld ?_ ?_
          rotate_left
          ·rintro w' ⟨s0, s1⟩
           go_simp
           with_reducible rfl
          rotate_left
          ·simp only [Act.put, List.setIfInBounds_toArray, List.set_cons_zero, List.set_cons_succ, i64_w, i32_w]
           rfl
          refine pure_ (i := 10) (N := some 101) (v := ?_) (a' := ?_) #[true, false, true, true, true, true, true, true, true, true, true, false, true, false, false] rfl rfl (any_of HT_.out (by kernel_rfl)) (fun _ _ _ h => h) (Or.inl ⟨by rfl, ?_⟩) ?_ ?_
          rotate_left
          ·intro w'
           go_simp
           with_reducible rfl
          rotate_left
          ·simp only [Act.put, List.setIfInBounds_toArray, List.set_cons_zero, List.set_cons_succ, i64_w, i32_w]
           rfl
          refine one_ (i := 1) (N := some 92) #[true, true, true, true, true, true, true, true, true, true, true, false, true, false, false] rfl rfl (one_of HT_.out (by kernel_rfl)) (by decide) (fun K hK => ?_)
          refine goes_ Try.func47 (by kernel_rfl) rfl #[.slice (some ad679) t659.length co12] (by rfl) rfl rfl (by (try simp only [List.map_toArray, List.map_cons, List.map_nil]); first | done | rfl | (simp only [List.length_drop, List.length_take]; rfl)) ?_
          with_reducible refine (laws_vSquares.calls kj9 _ _ t659 t678 _ ?side1 ?side2 A36.out).mono ?_
          (case side1 => repeat (first | exact (Kd.R_reads' HO_5.out).2.2 | (with_reducible refine Kd.C_alloc ?_ _) | (with_reducible refine Kd.C_drewN ?_ _) | (with_reducible refine Kd.C_drew ?_)))
          (case side2 => exact (Kd.R_reads' HO_5.out).2.1)
          rintro e w' ⟨rfl, ⟨nd, rfl⟩⟩
          refine ⟨_, rfl, ?_⟩
          refine hK.out _ _ ⟨hHeld.1, hHeld.2⟩ (fun hHeld => ?_)
          clear hK K
          refine norm_ (a' := ?_) ?_ ?_
          rotate_left
          ·show Act.put _ (some 92) _ = _
           simp only [Act.put, List.setIfInBounds_toArray, List.set_cons_zero, List.set_cons_succ, i64_w, i32_w]
           rfl
          refine pure_ (i := 11) (N := some 102) (v := ?_) (a' := ?_) #[true, true, true, true, true, true, true, true, true, true, true, true, true, false, false] rfl rfl (any_of HT_.out (by kernel_rfl)) (fun _ _ _ h => h) (Or.inl ⟨by rfl, ?_⟩) ?_ ?_
          rotate_left
          ·intro w'
           go_simp
           with_reducible rfl
          rotate_left
          ·simp only [Act.put, List.setIfInBounds_toArray, List.set_cons_zero, List.set_cons_succ, i64_w, i32_w]
           rfl
          refine pure_ (i := 13) (N := some 104) (v := ?_) (a' := ?_) #[true, true, true, true, true, true, true, true, true, true, true, true, true, true, false] rfl rfl (any_of HT_.out (by kernel_rfl)) (fun _ _ _ h => h) (Or.inl ⟨by rfl, ?_⟩) ?_ ?_
          rotate_left
          ·intro w'
           go_simp
           with_reducible rfl
          rotate_left
          ·simp only [Act.put, List.setIfInBounds_toArray, List.set_cons_zero, List.set_cons_succ, i64_w, i32_w]
           rfl
          refine pure_ (i := 14) (N := some 17) (v := ?_) (a' := ?_) #[true, true, true, true, true, true, true, true, true, true, true, true, true, true, true] rfl rfl (any_of HT_.out (by kernel_rfl)) (fun _ _ _ h => h) (Or.inl ⟨by rfl, ?_⟩) ?_ ?_
          rotate_left
          ·intro w'
           go_simp
           with_reducible rfl
          rotate_left
          ·simp only [Act.put, List.setIfInBounds_toArray, List.set_cons_zero, List.set_cons_succ, i64_w, i32_w]
           rfl
          refine done_ (done_of HT_.out (by kernel_rfl)) ?_
          have p681 : 0 ≤ (t662 : Int) := of_decide_eq_true (by first | (with_reducible assumption) | assumption)
          have q681 : t662 < (t659.length : Int) := of_decide_eq_true (by first | (with_reducible assumption) | assumption)
          obtain ⟨ad681, e681, hx681_0⟩ := Kd.at_int (Kd.R_reads' HO_5.out).2.2 t662 p681 q681
          obtain rfl : ad679 = ad681 := (by injection e681)
          replace p681 := eq_true p681
          replace q681 := eq_true q681
          try go_wp2
          go_ret
          exact ⟨by first | rfl | (simp [errW_none, errW_some] <;> rfl) | (simp [*, errW_none, errW_some] <;> rfl), by repeat (first | (with_reducible first | exact HB.out | apply below_alloc | apply pw_below_drewN | apply below_drew1) | exact HB.out)⟩
        ·rw [if_neg c38] at H
         exact absurd H (by simp)
       ·rw [if_neg c37] at H
        exact absurd H (by simp)
      ·replace c35 := Bool.eq_false_iff.mpr c35
       subst c35
       have H1 : (laws_FnJumpsOfHurwitz.j1 kj9 t659 t660 t661 t662 t665 t670 t673) = some r := by rw [if_neg (show ¬ (false = true) by decide)] at H; exact H
       clear H
       have H := H1
       clear H1
       have H' := Aside0.mk H
       clear H
       go_wp2
       go_meet
       case rel => exact ⟨_, H', ⟨by have := HJ9.out; first | omega | exact Nat.le_refl _⟩, ⟨by (with_reducible repeat (first | apply Kd.R_alloc | apply Kd.R_drewN | apply Kd.R_drew)); exact HO_5.out⟩, ⟨by (with_reducible repeat (first | apply Kd.R_alloc | apply Kd.R_drewN | apply Kd.R_drew)); exact HO_9.out⟩, ⟨by repeat (first | (with_reducible first | exact HB.out | apply below_alloc | apply pw_below_drewN | apply below_drew1) | exact HB.out)⟩⟩
     case rest =>
      clear HC34
      try clear p2
      try clear c3
      try clear c4
      try clear p6
      try clear q6
      try clear hx6
      try clear c35
      try clear c37
      try clear c38
      try clear c39
      try clear c39b0
      try clear c39b1
      try clear c40
      try clear c40b0
      try clear c44
      try clear c44b0
      try clear c44b1
      try clear c44b2
      try clear c47
      try clear hx679_0
      try clear hx680_0
      try clear hx681_0
      try clear p679
      try clear p680
      try clear p681
      try clear q679
      try clear q680
      try clear q681
      obtain ⟨kq, HA, HJ33, HO_5, HO_9, HB⟩ := hcut
      cases kq with
      | zero => exact absurd HA.out (by simp [laws_FnJumpsOfHurwitz.j1])
      | succ kj33 =>
       have H := HA.out
       clear HA
       simp only [laws_FnJumpsOfHurwitz.j1] at H
       by_cases c48 : t670 = true
       ·subst c48
        have H1 : ((laws_vSolves.f kj33 t665 t660 t661).bind fun t682 => (if t682 = true then ((laws_vSum.f kj33 t665).bind fun t683 => ((laws_vSum.f kj33 t659).bind fun t684 => (if 0 ≤ t662 then (if t662 < (t659.length : Int) then (laws_FnJumpsOfHurwitz.j2 kj33 t659 t660 t661 t665 t673 (t683 != (wrap64 ((wrap64 (t684 - (rd t659 t662))) + t673)))) else (none)) else (none)))) else (laws_FnJumpsOfHurwitz.j2 kj33 t659 t660 t661 t665 t673 true))) = some r := by rw [if_pos rfl] at H; exact H
        clear H
        have H := H1
        clear H1
        have HC49 := Aside0.mk H
        clear H
        go_upto_region 16 with (fail)
        go_cut [143] (fun v143 wc => ∃ (kq : Nat) (x143_48 : Bool), v143 = .bool x143_48 ∧ Aside0 (laws_FnJumpsOfHurwitz.j2 kq t659 t660 t661 t665 t673 x143_48 = some r) ∧ Aside0 (kq ≤ kj33) ∧ Aside0 (Kd.R (Kd.int .i64) 3 wc w.heap.size (fun k_ => some k_ ≠ (v667 : Value).ownBlock) (.slice Ao12 t659.length co12) t659) ∧ Aside0 (Kd.R (Kd.int .i64) 3 wc w.heap.size (fun k_ => some k_ ≠ ((.slice Ao12 t659.length co12) : Value).ownBlock) v667 t665) ∧ Aside0 (Below w.heap.size w wc))
        case first =>
         have H := HC49.out
         clear HC49
         replace H := Option.bind_eq_some_iff.mp H
         obtain ⟨t682, A500, H⟩ := H
         replace H : (if t682 = true then ((laws_vSum.f kj33 t665).bind fun t683 => ((laws_vSum.f kj33 t659).bind fun t684 => (if 0 ≤ t662 then (if t662 < (t659.length : Int) then (laws_FnJumpsOfHurwitz.j2 kj33 t659 t660 t661 t665 t673 (t683 != (wrap64 ((wrap64 (t684 - (rd t659 t662))) + t673)))) else (none)) else (none)))) else (laws_FnJumpsOfHurwitz.j2 kj33 t659 t660 t661 t665 t673 true)) = some r := H
         have A50 := Aside0.mk A500
         clear A500
         by_cases c51 : t682 = true
         ·subst c51
          have H1 : ((laws_vSum.f kj33 t665).bind fun t683 => ((laws_vSum.f kj33 t659).bind fun t684 => (if 0 ≤ t662 then (if t662 < (t659.length : Int) then (laws_FnJumpsOfHurwitz.j2 kj33 t659 t660 t661 t665 t673 (t683 != (wrap64 ((wrap64 (t684 - (rd t659 t662))) + t673)))) else (none)) else (none)))) = some r := by rw [if_pos rfl] at H; exact H
          clear H
          have H := H1
          clear H1
          replace H := Option.bind_eq_some_iff.mp H
          obtain ⟨t683, A520, H⟩ := H
          replace H : ((laws_vSum.f kj33 t659).bind fun t684 => (if 0 ≤ t662 then (if t662 < (t659.length : Int) then (laws_FnJumpsOfHurwitz.j2 kj33 t659 t660 t661 t665 t673 (t683 != (wrap64 ((wrap64 (t684 - (rd t659 t662))) + t673)))) else (none)) else (none))) = some r := H
          have A52 := Aside0.mk A520
          clear A520
          replace H := Option.bind_eq_some_iff.mp H
          obtain ⟨t684, A530, H⟩ := H
          replace H : (if 0 ≤ t662 then (if t662 < (t659.length : Int) then (laws_FnJumpsOfHurwitz.j2 kj33 t659 t660 t661 t665 t673 (t683 != (wrap64 ((wrap64 (t684 - (rd t659 t662))) + t673)))) else (none)) else (none)) = some r := H
          have A53 := Aside0.mk A530
          clear A530
          by_cases c54 : 0 ≤ t662
          ·rw [if_pos c54] at H
           have c54b0 : decide (0 ≤ t662) = true := decide_eq_true c54
           clear c54
           (first | rw [c54b0] | (simp only [i64_w, i32_w]; rw [c54b0]) | skip)
           by_cases c55 : t662 < (t659.length : Int)
           ·rw [if_pos c55] at H
            have c55b0 : decide (t662 < (t659.length : Int)) = true := decide_eq_true c55
            clear c55
            have H' := Aside0.mk H
            clear H
            try go_wp2
            have n0_ := Aside0.mk (Kd.R_drew HO_5.out)
            have n1_ := Aside0.mk (Kd.R_drew HO_9.out)
            have n2_ := Aside0.mk (below_drew1 HB.out)
            clear HO_5
            clear HO_9
            clear HB
            have HO_5 := n0_
            have HO_9 := n1_
            have HB := n2_
            clear n0_ n1_ n2_
            obtain ⟨Ao57, co57, eo57⟩ := Kd.R_slice HO_9.out
            (first | subst eo57 | (injection eo57 with f1_ f2_ f3_; have f4_ := f1_.symm; have f5_ := f3_.symm; clear f1_ f2_ f3_; subst f4_; subst f5_))
            have p685 : 0 ≤ (t662 : Int) := of_decide_eq_true (by first | (with_reducible assumption) | assumption)
            have q685 : t662 < (t659.length : Int) := of_decide_eq_true (by first | (with_reducible assumption) | assumption)
            obtain ⟨ad685, e685, hx685_0⟩ := Kd.at_int (Kd.R_reads' HO_5.out).2.2 t662 p685 q685
            cases e685
            replace p685 := eq_true p685
            replace q685 := eq_true q685
            refine start_ (n := 19) (S := fun w' => w'.cell? (ad685.add (t662).toNat) = some (.int .i64 (rd t659 t662))) (ds := []) #[false, false, false, false, false, false, false, false, false, false, false, false, false, false, false, false, false, false, false] (by kernel_rfl) rfl rfl (hx685_0) (fun hHeld => ?_); refine with_tabW laws_FnJumpsOfHurwitz.tab16 laws_FnJumpsOfHurwitz.bits16 (fun HT_ HW_ => ?_)
            generalize wc.drew = w56 at HO_5 HO_9 HB hx685_0 hHeld ⊢
            refine pure_ (i := 0) (N := some 125) (v := ?_) (a' := ?_) #[true, false, false, false, false, false, false, false, false, false, false, false, false, false, false, false, false, false, false] rfl rfl (any_of HT_.out (by kernel_rfl)) (fun _ _ _ h => h) (Or.inl ⟨by rfl, ?_⟩) ?_ ?_
            rotate_left
            ·intro w'
             go_simp
             with_reducible rfl
            rotate_left
            ·simp only [Act.put, List.setIfInBounds_toArray, List.set_cons_zero, List.set_cons_succ, i64_w, i32_w]
             rfl
            refine pure_ (i := 1) (N := some 126) (v := ?_) (a' := ?_) #[true, true, false, false, false, false, false, false, false, false, false, false, false, false, false, false, false, false, false] rfl rfl (any_of HT_.out (by kernel_rfl)) (fun _ _ _ h => h) (Or.inl ⟨by rfl, ?_⟩) ?_ ?_
            rotate_left
            ·intro w'
             go_simp
             with_reducible rfl
            rotate_left
            ·simp only [Act.put, List.setIfInBounds_toArray, List.set_cons_zero, List.set_cons_succ, i64_w, i32_w]
             rfl
            refine pure_ (i := 2) (N := some 127) (v := ?_) (a' := ?_) #[true, true, true, false, false, false, false, false, false, false, false, false, false, false, false, false, false, false, false] rfl rfl (any_of HT_.out (by kernel_rfl)) (fun _ _ _ h => h) (Or.inl ⟨by rfl, ?_⟩) ?_ ?_
            rotate_left
            ·intro w'
             go_simp
             with_reducible rfl
            rotate_left
            ·simp only [Act.put, List.setIfInBounds_toArray, List.set_cons_zero, List.set_cons_succ, i64_w, i32_w]
             rfl
            refine one_ (i := 3) (N := some 128) #[true, true, true, true, false, false, false, false, false, false, false, false, false, false, false, false, false, false, false] rfl rfl (one_of HT_.out (by kernel_rfl)) (by decide) (fun K hK => ?_)
            refine goes_ Try.func48 (by kernel_rfl) rfl #[.slice Ao57 t665.length co57, .int .i64 t660, .int .i64 t661] (by rfl) rfl rfl (by (try simp only [List.map_toArray, List.map_cons, List.map_nil]); first | done | rfl | (simp only [List.length_drop, List.length_take]; rfl)) ?_
            with_reducible refine (laws_vSolves.calls kj33 _ _ t665 t660 t661 true _ ?side1 ?side2 A50.out).mono ?_
            (case side1 => repeat (first | exact (Kd.R_reads' HO_9.out).2.2 | (with_reducible refine Kd.C_alloc ?_ _) | (with_reducible refine Kd.C_drewN ?_ _) | (with_reducible refine Kd.C_drew ?_)))
            (case side2 => exact (Kd.R_reads' HO_9.out).2.1)
            rintro e w58 ⟨rfl, hb⟩
            have HS0_ := (hb.cell (World.block_lt_of_cell? _ _ (hHeld))).trans (hHeld)
            refine ⟨_, rfl, ?_⟩
            have n0_ := Aside0.mk (Kd.R_below (by (with_reducible repeat (first | apply Kd.R_alloc | apply Kd.R_drewN | apply Kd.R_drew)); exact HO_5.out) hb)
            have n1_ := Aside0.mk (Kd.R_below (by (with_reducible repeat (first | apply Kd.R_alloc | apply Kd.R_drewN | apply Kd.R_drew)); exact HO_9.out) hb)
            have n2_ := Aside0.mk (below_step (by repeat (first | (with_reducible first | exact HB.out | apply below_alloc | apply pw_below_drewN | apply below_drew1) | exact HB.out)) hb)
            clear HO_5
            clear HO_9
            clear HB
            have HO_5 := n0_
            have HO_9 := n1_
            have HB := n2_
            clear n0_ n1_ n2_
            (try clear hb)
            (try clear hb2)
            (try clear hk)
            (try clear hi)
            refine hK.out _ _ (HS0_) (fun hHeld => ?_)
            clear hK K
            refine norm_ (a' := ?_) ?_ ?_
            rotate_left
            ·show Act.put _ (some 128) _ = _
             simp only [Act.put, List.setIfInBounds_toArray, List.set_cons_zero, List.set_cons_succ, i64_w, i32_w]
             rfl
            refine pure_ (i := 4) (N := some 129) (v := ?_) (a' := ?_) #[true, true, true, true, true, false, false, false, false, false, false, false, false, false, false, false, false, false, false] rfl rfl (any_of HT_.out (by kernel_rfl)) (fun _ _ _ h => h) (Or.inl ⟨by rfl, ?_⟩) ?_ ?_
            rotate_left
            ·intro w'
             go_simp
             with_reducible rfl
            rotate_left
            ·simp only [Act.put, List.setIfInBounds_toArray, List.set_cons_zero, List.set_cons_succ, i64_w, i32_w]
             rfl
            refine pure_ (i := 5) (N := some 130) (v := ?_) (a' := ?_) #[true, true, true, true, true, true, false, false, false, false, false, false, false, false, false, false, false, false, false] rfl rfl (any_of HT_.out (by kernel_rfl)) (fun _ _ _ h => h) (Or.inl ⟨by rfl, ?_⟩) ?_ ?_
            rotate_left
            ·intro w'
             go_simp
             with_reducible rfl
            rotate_left
            ·simp only [Act.put, List.setIfInBounds_toArray, List.set_cons_zero, List.set_cons_succ, i64_w, i32_w]
             rfl
            refine pure_ (i := 6) (N := some 131) (v := ?_) (a' := ?_) #[true, true, true, true, true, true, true, false, false, false, false, false, false, false, false, false, false, false, false] rfl rfl (any_of HT_.out (by kernel_rfl)) (fun _ _ _ h => h) (Or.inl ⟨by rfl, ?_⟩) ?_ ?_
            rotate_left
            ·intro w'
             go_simp
             with_reducible rfl
            rotate_left
            ·simp only [Act.put, List.setIfInBounds_toArray, List.set_cons_zero, List.set_cons_succ, i64_w, i32_w]
             rfl
            refine pure_ (i := 8) (N := some 133) (v := ?_) (a' := ?_) #[true, true, true, true, true, true, true, false, true, false, false, false, false, false, false, false, false, false, false] rfl rfl (any_of HT_.out (by kernel_rfl)) (fun _ _ _ h => h) (Or.inl ⟨by rfl, ?_⟩) ?_ ?_
            rotate_left
            ·intro w'
             go_simp
             with_reducible rfl
            rotate_left
            ·simp only [Act.put, List.setIfInBounds_toArray, List.set_cons_zero, List.set_cons_succ, i64_w, i32_w]
             rfl
            refine pure_ (i := 10) (N := some 135) (v := ?_) (a' := ?_) #[true, true, true, true, true, true, true, false, true, false, true, false, false, false, false, false, false, false, false] rfl rfl (any_of HT_.out (by kernel_rfl)) (fun _ _ _ h => h) (Or.inl ⟨by rfl, ?_⟩) ?_ ?_
            rotate_left
            ·intro w'
             go_simp
             with_reducible rfl
            rotate_left
            ·simp only [Act.put, List.setIfInBounds_toArray, List.set_cons_zero, List.set_cons_succ, i64_w, i32_w]
             rfl
            refine pure_ (i := 11) (N := some 136) (v := ?_) (a' := ?_) #[true, true, true, true, true, true, true, false, true, false, true, true, false, false, false, false, false, false, false] rfl rfl (any_of HT_.out (by kernel_rfl)) (fun _ _ _ h => h) (Or.inl ⟨by rfl, ?_⟩) ?_ ?_
            rotate_left
            ·intro w'
             go_simp
             with_reducible rfl
            rotate_left
            ·simp only [Act.put, List.setIfInBounds_toArray, List.set_cons_zero, List.set_cons_succ, i64_w, i32_w]
             rfl
            refine pure_ (i := 12) (N := some 137) (v := ?_) (a' := ?_) #[true, true, true, true, true, true, true, false, true, false, true, true, true, false, false, false, false, false, false] rfl rfl (any_of HT_.out (by kernel_rfl)) (fun _ _ _ h => h) (Or.inl ⟨by rfl, ?_⟩) ?_ ?_
            rotate_left
            ·intro w'
             go_simp
             with_reducible rfl
            rotate_left
            ·simp only [Act.put, List.setIfInBounds_toArray, List.set_cons_zero, List.set_cons_succ, i64_w, i32_w]
             rfl
            refine pure_ (i := 15) (N := some 140) (v := ?_) (a' := ?_) #[true, true, true, true, true, true, true, false, true, false, true, true, true, false, false, true, false, false, false] rfl rfl (any_of HT_.out (by kernel_rfl)) (fun _ _ _ h => h) (Or.inl ⟨by rfl, ?_⟩) ?_ ?_
            rotate_left
            ·intro w'
             go_simp
             with_reducible rfl
            rotate_left
            ·simp only [Act.put, List.setIfInBounds_toArray, List.set_cons_zero, List.set_cons_succ, i64_w, i32_w]
             rfl
            refine take_ (i := 13) (N := some 138) (v := ?_) (a' := ?_) #[true, true, true, true, true, true, true, false, true, false, true, true, true, true, false, true, false, false, false] rfl rfl (take_ofW HT_.out HW_.out (by kernel_rfl)) (fun _ _ _ h => h) (Or.inl ⟨by rfl, ?_⟩) hHeld ?_ ?_
            rotate_left
            ·intro w' s0
             go_simp
             with_reducible rfl
            rotate_left
            ·simp only [Act.put, List.setIfInBounds_toArray, List.set_cons_zero, List.set_cons_succ, i64_w, i32_w]
             rfl
            refine one_ (i := 7) (N := some 132) #[true, true, true, true, true, true, true, true, true, false, true, true, true, true, false, true, false, false, false] rfl rfl (one_of HT_.out (by kernel_rfl)) (by decide) (fun K hK => ?_)
            refine goes_ Try.func49 (by kernel_rfl) rfl #[.slice Ao57 t665.length co57] (by rfl) rfl rfl (by (try simp only [List.map_toArray, List.map_cons, List.map_nil]); first | done | rfl | (simp only [List.length_drop, List.length_take]; rfl)) ?_
            with_reducible refine (laws_vSum.calls kj33 _ _ t665 t683 _ ?side1 ?side2 A52.out).mono ?_
            (case side1 => repeat (first | exact (Kd.R_reads' HO_9.out).2.2 | (with_reducible refine Kd.C_alloc ?_ _) | (with_reducible refine Kd.C_drewN ?_ _) | (with_reducible refine Kd.C_drew ?_)))
            (case side2 => exact (Kd.R_reads' HO_9.out).2.1)
            rintro e w' ⟨rfl, ⟨nd, rfl⟩⟩
            refine ⟨_, rfl, ?_⟩
            refine hK.out _ _ (hHeld) (fun hHeld => ?_)
            clear hK K
            refine norm_ (a' := ?_) ?_ ?_
            rotate_left
            ·show Act.put _ (some 132) _ = _
             simp only [Act.put, List.setIfInBounds_toArray, List.set_cons_zero, List.set_cons_succ, i64_w, i32_w]
             rfl
            refine one_ (i := 9) (N := some 134) #[true, true, true, true, true, true, true, true, true, true, true, true, true, true, false, true, false, false, false] rfl rfl (one_of HT_.out (by kernel_rfl)) (by decide) (fun K hK => ?_)
            refine goes_ Try.func49 (by kernel_rfl) rfl #[.slice (some ad685) t659.length co12] (by rfl) rfl rfl (by (try simp only [List.map_toArray, List.map_cons, List.map_nil]); first | done | rfl | (simp only [List.length_drop, List.length_take]; rfl)) ?_
            with_reducible refine (laws_vSum.calls kj33 _ _ t659 t684 _ ?side1 ?side2 A53.out).mono ?_
            (case side1 => repeat (first | exact (Kd.R_reads' HO_5.out).2.2 | (with_reducible refine Kd.C_alloc ?_ _) | (with_reducible refine Kd.C_drewN ?_ _) | (with_reducible refine Kd.C_drew ?_)))
            (case side2 => exact (Kd.R_reads' HO_5.out).2.1)
            rintro e w' ⟨rfl, ⟨nd, rfl⟩⟩
            refine ⟨_, rfl, ?_⟩
            refine hK.out _ _ (hHeld) (fun hHeld => ?_)
            clear hK K
            refine norm_ (a' := ?_) ?_ ?_
            rotate_left
            ·show Act.put _ (some 134) _ = _
             simp only [Act.put, List.setIfInBounds_toArray, List.set_cons_zero, List.set_cons_succ, i64_w, i32_w]
             rfl
            refine pure_ (i := 14) (N := some 139) (v := ?_) (a' := ?_) #[true, true, true, true, true, true, true, true, true, true, true, true, true, true, true, true, false, false, false] rfl rfl (any_of HT_.out (by kernel_rfl)) (fun _ _ _ h => h) (Or.inl ⟨by rfl, ?_⟩) ?_ ?_
            rotate_left
            ·intro w'
             go_simp
             with_reducible rfl
            rotate_left
            ·simp only [Act.put, List.setIfInBounds_toArray, List.set_cons_zero, List.set_cons_succ, i64_w, i32_w]
             rfl
            refine pure_ (i := 16) (N := some 141) (v := ?_) (a' := ?_) #[true, true, true, true, true, true, true, true, true, true, true, true, true, true, true, true, true, false, false] rfl rfl (any_of HT_.out (by kernel_rfl)) (fun _ _ _ h => h) (Or.inl ⟨by rfl, ?_⟩) ?_ ?_
            rotate_left
            ·intro w'
             go_simp
             with_reducible rfl
            rotate_left
            ·simp only [Act.put, List.setIfInBounds_toArray, List.set_cons_zero, List.set_cons_succ, i64_w, i32_w]
             rfl
            refine pure_ (i := 17) (N := some 142) (v := ?_) (a' := ?_) #[true, true, true, true, true, true, true, true, true, true, true, true, true, true, true, true, true, true, false] rfl rfl (any_of HT_.out (by kernel_rfl)) (fun _ _ _ h => h) (Or.inl ⟨by rfl, ?_⟩) ?_ ?_
            rotate_left
            ·intro w'
             go_simp
             with_reducible rfl
            rotate_left
            ·simp only [Act.put, List.setIfInBounds_toArray, List.set_cons_zero, List.set_cons_succ, i64_w, i32_w]
             rfl
            refine pure_ (i := 18) (N := some 143) (v := ?_) (a' := ?_) #[true, true, true, true, true, true, true, true, true, true, true, true, true, true, true, true, true, true, true] rfl rfl (any_of HT_.out (by kernel_rfl)) (fun _ _ _ h => h) (Or.inl ⟨by rfl, ?_⟩) ?_ ?_
            rotate_left
            ·intro w'
             go_simp
             with_reducible rfl
            rotate_left
            ·simp only [Act.put, List.setIfInBounds_toArray, List.set_cons_zero, List.set_cons_succ, i64_w, i32_w]
             rfl
            refine done_ (done_of HT_.out (by kernel_rfl)) ?_
            try go_wp2
            go_meet
            case rel => exact ⟨_, ((t683 != (wrap64 ((wrap64 (t684 - (rd t659 t662))) + t673)))), (by first | rfl | (simp; done) | (simp [*]; done)), H', ⟨by have := HJ9.out; have := HJ33.out; first | omega | exact Nat.le_refl _⟩, ⟨by (with_reducible repeat (first | apply Kd.R_alloc | apply Kd.R_drewN | apply Kd.R_drew)); exact HO_5.out⟩, ⟨by (with_reducible repeat (first | apply Kd.R_alloc | apply Kd.R_drewN | apply Kd.R_drew)); exact HO_9.out⟩, ⟨by repeat (first | (with_reducible first | exact HB.out | apply below_alloc | apply pw_below_drewN | apply below_drew1) | exact HB.out)⟩⟩
           ·rw [if_neg c55] at H
            exact absurd H (by simp)
          ·rw [if_neg c54] at H
           exact absurd H (by simp)
         ·replace c51 := Bool.eq_false_iff.mpr c51
          subst c51
          have H1 : (laws_FnJumpsOfHurwitz.j2 kj33 t659 t660 t661 t665 t673 true) = some r := by rw [if_neg (show ¬ (false = true) by decide)] at H; exact H
          clear H
          have H := H1
          clear H1
          have H' := Aside0.mk H
          clear H
          try go_wp2
          have n0_ := Aside0.mk (Kd.R_drew HO_5.out)
          have n1_ := Aside0.mk (Kd.R_drew HO_9.out)
          have n2_ := Aside0.mk (below_drew1 HB.out)
          clear HO_5
          clear HO_9
          clear HB
          have HO_5 := n0_
          have HO_9 := n1_
          have HB := n2_
          clear n0_ n1_ n2_
          obtain ⟨Ao60, co60, eo60⟩ := Kd.R_slice HO_9.out
          (first | subst eo60 | (injection eo60 with f1_ f2_ f3_; have f4_ := f1_.symm; have f5_ := f3_.symm; clear f1_ f2_ f3_; subst f4_; subst f5_))
          refine start_ (n := 19) (S := fun w' => True) (ds := []) #[false, false, false, false, false, false, false, false, false, false, false, false, false, false, false, false, false, false, false] (by kernel_rfl) rfl rfl trivial (fun hHeld => ?_); refine with_tabW laws_FnJumpsOfHurwitz.tab16 laws_FnJumpsOfHurwitz.bits16 (fun HT_ HW_ => ?_)
          generalize wc.drew = w59 at HO_5 HO_9 HB hHeld ⊢
          refine pure_ (i := 0) (N := some 125) (v := ?_) (a' := ?_) #[true, false, false, false, false, false, false, false, false, false, false, false, false, false, false, false, false, false, false] rfl rfl (any_of HT_.out (by kernel_rfl)) (fun _ _ _ h => h) (Or.inl ⟨by rfl, ?_⟩) ?_ ?_
          rotate_left
          ·intro w'
           go_simp
           with_reducible rfl
          rotate_left
          ·simp only [Act.put, List.setIfInBounds_toArray, List.set_cons_zero, List.set_cons_succ, i64_w, i32_w]
           rfl
          refine pure_ (i := 1) (N := some 126) (v := ?_) (a' := ?_) #[true, true, false, false, false, false, false, false, false, false, false, false, false, false, false, false, false, false, false] rfl rfl (any_of HT_.out (by kernel_rfl)) (fun _ _ _ h => h) (Or.inl ⟨by rfl, ?_⟩) ?_ ?_
          rotate_left
          ·intro w'
           go_simp
           with_reducible rfl
          rotate_left
          ·simp only [Act.put, List.setIfInBounds_toArray, List.set_cons_zero, List.set_cons_succ, i64_w, i32_w]
           rfl
          refine pure_ (i := 2) (N := some 127) (v := ?_) (a' := ?_) #[true, true, true, false, false, false, false, false, false, false, false, false, false, false, false, false, false, false, false] rfl rfl (any_of HT_.out (by kernel_rfl)) (fun _ _ _ h => h) (Or.inl ⟨by rfl, ?_⟩) ?_ ?_
          rotate_left
          ·intro w'
           go_simp
           with_reducible rfl
          rotate_left
          ·simp only [Act.put, List.setIfInBounds_toArray, List.set_cons_zero, List.set_cons_succ, i64_w, i32_w]
           rfl
          refine one_ (i := 3) (N := some 128) #[true, true, true, true, false, false, false, false, false, false, false, false, false, false, false, false, false, false, false] rfl rfl (one_of HT_.out (by kernel_rfl)) (by decide) (fun K hK => ?_)
          refine goes_ Try.func48 (by kernel_rfl) rfl #[.slice Ao60 t665.length co60, .int .i64 t660, .int .i64 t661] (by rfl) rfl rfl (by (try simp only [List.map_toArray, List.map_cons, List.map_nil]); first | done | rfl | (simp only [List.length_drop, List.length_take]; rfl)) ?_
          with_reducible refine (laws_vSolves.calls kj33 _ _ t665 t660 t661 false _ ?side1 ?side2 A50.out).mono ?_
          (case side1 => repeat (first | exact (Kd.R_reads' HO_9.out).2.2 | (with_reducible refine Kd.C_alloc ?_ _) | (with_reducible refine Kd.C_drewN ?_ _) | (with_reducible refine Kd.C_drew ?_)))
          (case side2 => exact (Kd.R_reads' HO_9.out).2.1)
          rintro e w61 ⟨rfl, hb⟩
          refine ⟨_, rfl, ?_⟩
          have n0_ := Aside0.mk (Kd.R_below (by (with_reducible repeat (first | apply Kd.R_alloc | apply Kd.R_drewN | apply Kd.R_drew)); exact HO_5.out) hb)
          have n1_ := Aside0.mk (Kd.R_below (by (with_reducible repeat (first | apply Kd.R_alloc | apply Kd.R_drewN | apply Kd.R_drew)); exact HO_9.out) hb)
          have n2_ := Aside0.mk (below_step (by repeat (first | (with_reducible first | exact HB.out | apply below_alloc | apply pw_below_drewN | apply below_drew1) | exact HB.out)) hb)
          clear HO_5
          clear HO_9
          clear HB
          have HO_5 := n0_
          have HO_9 := n1_
          have HB := n2_
          clear n0_ n1_ n2_
          (try clear hb)
          (try clear hb2)
          (try clear hk)
          (try clear hi)
          refine hK.out _ _ trivial (fun hHeld => ?_)
          clear hK K
          refine norm_ (a' := ?_) ?_ ?_
          rotate_left
          ·show Act.put _ (some 128) _ = _
           simp only [Act.put, List.setIfInBounds_toArray, List.set_cons_zero, List.set_cons_succ, i64_w, i32_w]
           rfl
          refine pure_ (i := 4) (N := some 129) (v := ?_) (a' := ?_) #[true, true, true, true, true, false, false, false, false, false, false, false, false, false, false, false, false, false, false] rfl rfl (any_of HT_.out (by kernel_rfl)) (fun _ _ _ h => h) (Or.inl ⟨by rfl, ?_⟩) ?_ ?_
          rotate_left
          ·intro w'
           go_simp
           with_reducible rfl
          rotate_left
          ·simp only [Act.put, List.setIfInBounds_toArray, List.set_cons_zero, List.set_cons_succ, i64_w, i32_w]
           rfl
          refine pure_ (i := 5) (N := some 130) (v := ?_) (a' := ?_) #[true, true, true, true, true, true, false, false, false, false, false, false, false, false, false, false, false, false, false] rfl rfl (any_of HT_.out (by kernel_rfl)) (fun _ _ _ h => h) (Or.inl ⟨by rfl, ?_⟩) ?_ ?_
          rotate_left
          ·intro w'
           go_simp
           with_reducible rfl
          rotate_left
          ·simp only [Act.put, List.setIfInBounds_toArray, List.set_cons_zero, List.set_cons_succ, i64_w, i32_w]
           rfl
          refine pure_ (i := 6) (N := some 131) (v := undef) (a' := ?_) #[true, true, true, true, true, true, true, false, false, false, false, false, false, false, false, false, false, false, false] rfl rfl (any_of HT_.out (by kernel_rfl)) (fun _ _ _ h => h) (Or.inr ⟨by rfl, rfl⟩) ?_ ?_
          rotate_left
          ·simp only [Act.put, List.setIfInBounds_toArray, List.set_cons_zero, List.set_cons_succ, i64_w, i32_w]
           rfl
          refine pure_ (i := 7) (N := some 132) (v := undef) (a' := ?_) #[true, true, true, true, true, true, true, true, false, false, false, false, false, false, false, false, false, false, false] rfl rfl (any_of HT_.out (by kernel_rfl)) (fun _ _ _ h => h) (Or.inr ⟨by rfl, rfl⟩) ?_ ?_
          rotate_left
          ·simp only [Act.put, List.setIfInBounds_toArray, List.set_cons_zero, List.set_cons_succ, i64_w, i32_w]
           rfl
          refine pure_ (i := 8) (N := some 133) (v := undef) (a' := ?_) #[true, true, true, true, true, true, true, true, true, false, false, false, false, false, false, false, false, false, false] rfl rfl (any_of HT_.out (by kernel_rfl)) (fun _ _ _ h => h) (Or.inr ⟨by rfl, rfl⟩) ?_ ?_
          rotate_left
          ·simp only [Act.put, List.setIfInBounds_toArray, List.set_cons_zero, List.set_cons_succ, i64_w, i32_w]
           rfl
          refine pure_ (i := 9) (N := some 134) (v := undef) (a' := ?_) #[true, true, true, true, true, true, true, true, true, true, false, false, false, false, false, false, false, false, false] rfl rfl (any_of HT_.out (by kernel_rfl)) (fun _ _ _ h => h) (Or.inr ⟨by rfl, rfl⟩) ?_ ?_
          rotate_left
          ·simp only [Act.put, List.setIfInBounds_toArray, List.set_cons_zero, List.set_cons_succ, i64_w, i32_w]
           rfl
          refine pure_ (i := 10) (N := some 135) (v := undef) (a' := ?_) #[true, true, true, true, true, true, true, true, true, true, true, false, false, false, false, false, false, false, false] rfl rfl (any_of HT_.out (by kernel_rfl)) (fun _ _ _ h => h) (Or.inr ⟨by rfl, rfl⟩) ?_ ?_
          rotate_left
          ·simp only [Act.put, List.setIfInBounds_toArray, List.set_cons_zero, List.set_cons_succ, i64_w, i32_w]
           rfl
          refine pure_ (i := 11) (N := some 136) (v := undef) (a' := ?_) #[true, true, true, true, true, true, true, true, true, true, true, true, false, false, false, false, false, false, false] rfl rfl (any_of HT_.out (by kernel_rfl)) (fun _ _ _ h => h) (Or.inr ⟨by rfl, rfl⟩) ?_ ?_
          rotate_left
          ·simp only [Act.put, List.setIfInBounds_toArray, List.set_cons_zero, List.set_cons_succ, i64_w, i32_w]
           rfl
          refine pure_ (i := 12) (N := some 137) (v := undef) (a' := ?_) #[true, true, true, true, true, true, true, true, true, true, true, true, true, false, false, false, false, false, false] rfl rfl (any_of HT_.out (by kernel_rfl)) (fun _ _ _ h => h) (Or.inr ⟨by rfl, rfl⟩) ?_ ?_
          rotate_left
          ·simp only [Act.put, List.setIfInBounds_toArray, List.set_cons_zero, List.set_cons_succ, i64_w, i32_w]
           rfl
          refine pure_ (i := 13) (N := some 138) (v := undef) (a' := ?_) #[true, true, true, true, true, true, true, true, true, true, true, true, true, true, false, false, false, false, false] rfl rfl (any_of HT_.out (by kernel_rfl)) (fun _ _ _ h => h) (Or.inr ⟨by rfl, rfl⟩) ?_ ?_
          rotate_left
          ·simp only [Act.put, List.setIfInBounds_toArray, List.set_cons_zero, List.set_cons_succ, i64_w, i32_w]
           rfl
          refine pure_ (i := 14) (N := some 139) (v := undef) (a' := ?_) #[true, true, true, true, true, true, true, true, true, true, true, true, true, true, true, false, false, false, false] rfl rfl (any_of HT_.out (by kernel_rfl)) (fun _ _ _ h => h) (Or.inr ⟨by rfl, rfl⟩) ?_ ?_
          rotate_left
          ·simp only [Act.put, List.setIfInBounds_toArray, List.set_cons_zero, List.set_cons_succ, i64_w, i32_w]
           rfl
          refine pure_ (i := 15) (N := some 140) (v := undef) (a' := ?_) #[true, true, true, true, true, true, true, true, true, true, true, true, true, true, true, true, false, false, false] rfl rfl (any_of HT_.out (by kernel_rfl)) (fun _ _ _ h => h) (Or.inr ⟨by rfl, rfl⟩) ?_ ?_
          rotate_left
          ·simp only [Act.put, List.setIfInBounds_toArray, List.set_cons_zero, List.set_cons_succ, i64_w, i32_w]
           rfl
          refine pure_ (i := 16) (N := some 141) (v := undef) (a' := ?_) #[true, true, true, true, true, true, true, true, true, true, true, true, true, true, true, true, true, false, false] rfl rfl (any_of HT_.out (by kernel_rfl)) (fun _ _ _ h => h) (Or.inr ⟨by rfl, rfl⟩) ?_ ?_
          rotate_left
          ·simp only [Act.put, List.setIfInBounds_toArray, List.set_cons_zero, List.set_cons_succ, i64_w, i32_w]
           rfl
          refine pure_ (i := 17) (N := some 142) (v := undef) (a' := ?_) #[true, true, true, true, true, true, true, true, true, true, true, true, true, true, true, true, true, true, false] rfl rfl (any_of HT_.out (by kernel_rfl)) (fun _ _ _ h => h) (Or.inr ⟨by rfl, rfl⟩) ?_ ?_
          rotate_left
          ·simp only [Act.put, List.setIfInBounds_toArray, List.set_cons_zero, List.set_cons_succ, i64_w, i32_w]
           rfl
          refine pure_ (i := 18) (N := some 143) (v := ?_) (a' := ?_) #[true, true, true, true, true, true, true, true, true, true, true, true, true, true, true, true, true, true, true] rfl rfl (any_of HT_.out (by kernel_rfl)) (fun _ _ _ h => h) (Or.inl ⟨by rfl, ?_⟩) ?_ ?_
          rotate_left
          ·intro w'
           go_simp
           with_reducible rfl
          rotate_left
          ·simp only [Act.put, List.setIfInBounds_toArray, List.set_cons_zero, List.set_cons_succ, i64_w, i32_w]
           rfl
          refine done_ (done_of HT_.out (by kernel_rfl)) ?_
          try go_wp2
          go_meet
          case rel => exact ⟨_, (true), (by first | rfl | (simp; done) | (simp [*]; done)), H', ⟨by have := HJ9.out; have := HJ33.out; first | omega | exact Nat.le_refl _⟩, ⟨by (with_reducible repeat (first | apply Kd.R_alloc | apply Kd.R_drewN | apply Kd.R_drew)); exact HO_5.out⟩, ⟨by (with_reducible repeat (first | apply Kd.R_alloc | apply Kd.R_drewN | apply Kd.R_drew)); exact HO_9.out⟩, ⟨by repeat (first | (with_reducible first | exact HB.out | apply below_alloc | apply pw_below_drewN | apply below_drew1) | exact HB.out)⟩⟩
        case rest =>
         clear HC49
         try clear p2
         try clear c3
         try clear c4
         try clear c5
         try clear p6
         try clear q6
         try clear hx6
         try clear c35
         try clear c37
         try clear c38
         try clear c39
         try clear c39b0
         try clear c39b1
         try clear c40
         try clear c40b0
         try clear c44
         try clear c44b0
         try clear c44b1
         try clear c44b2
         try clear c47
         try clear c48
         try clear c49
         try clear c51
         try clear c54
         try clear c54b0
         try clear c55
         try clear c55b0
         try clear hx679_0
         try clear hx680_0
         try clear hx681_0
         try clear hx685_0
         try clear p2
         try clear p6
         try clear p679
         try clear p680
         try clear p681
         try clear p685
         try clear q6
         try clear q679
         try clear q680
         try clear q681
         try clear q685
         obtain ⟨kq, x143_48, rfl, HA, HJ48, HO_5, HO_9, HB⟩ := hcut
         cases kq with
         | zero => exact absurd HA.out (by simp [laws_FnJumpsOfHurwitz.j2])
         | succ kj48 =>
          have H := HA.out
          clear HA
          simp only [laws_FnJumpsOfHurwitz.j2] at H
          by_cases c62 : x143_48 = true
          ·subst c62
           have H1 : (some false) = some r := by rw [if_pos rfl] at H; exact H
           clear H
           have H := H1
           clear H1
           obtain rfl := Option.some.inj H
           go_wp2
           go_ret
           exact ⟨by first | rfl | (simp [errW_none, errW_some] <;> rfl) | (simp [*, errW_none, errW_some] <;> rfl), by repeat (first | (with_reducible first | exact HB.out | apply below_alloc | apply pw_below_drewN | apply below_drew1) | exact HB.out)⟩
          ·replace c62 := Bool.eq_false_iff.mpr c62
           subst c62
           have H1 : (laws_FnJumpsOfHurwitz.l0 kj48 t659 t660 t661 t665 t673 t665 (t665.length : Int) 0) = some r := by rw [if_neg (show ¬ (false = true) by decide)] at H; exact H
           clear H
           have H := H1
           clear H1
           have H' := Aside0.mk H
           clear H
           obtain ⟨Ao63, co63, eo63⟩ := Kd.R_slice HO_9.out
           subst eo63
           go_wp2
           go_loopg [146] kj48 (fun kq v146 w' => ∃ (x146_4 : Int), v146 = .int .i64 x146_4 ∧ Aside0 (laws_FnJumpsOfHurwitz.l0 kq t659 t660 t661 t665 t673 t665 (t665.length : Int) x146_4 = some r) ∧ Aside0 (kq ≤ kj48) ∧ Aside0 (Kd.R (Kd.int .i64) 3 w' w.heap.size (fun k_ => some k_ ≠ ((.slice Ao63 t665.length co63) : Value).ownBlock ∧ some k_ ≠ ((.slice Ao63 t665.length co63) : Value).ownBlock) (.slice Ao12 t659.length co12) t659) ∧ Aside0 (Kd.R (Kd.int .i64) 3 w' w.heap.size (fun k_ => some k_ ≠ ((.slice Ao12 t659.length co12) : Value).ownBlock) (.slice Ao63 t665.length co63) t665) ∧ Aside0 (Kd.R (Kd.int .i64) 3 w' w.heap.size (fun k_ => some k_ ≠ ((.slice Ao12 t659.length co12) : Value).ownBlock) (.slice Ao63 t665.length co63) t665) ∧ Aside0 (Below w.heap.size w w'))
           case atStart => exact ⟨(0), (by first | rfl | (simp; done) | (simp [*]; done)), H', ⟨Nat.le_refl _⟩, ⟨by (with_reducible repeat (first | apply Kd.R_alloc | apply Kd.R_drewN | apply Kd.R_drew)); exact Kd.R_mono HO_5.out (fun _ hk => ⟨hk, hk⟩)⟩, ⟨by (with_reducible repeat (first | apply Kd.R_alloc | apply Kd.R_drewN | apply Kd.R_drew)); exact HO_9.out⟩, ⟨by (with_reducible repeat (first | apply Kd.R_alloc | apply Kd.R_drewN | apply Kd.R_drew)); exact HO_9.out⟩, ⟨by repeat (first | (with_reducible first | exact HB.out | apply below_alloc | apply pw_below_drewN | apply below_drew1) | exact HB.out)⟩⟩
           case round =>
            clear H'
            try clear p2
            try clear c3
            try clear c4
            try clear c5
            try clear c6
            try clear p6
            try clear q6
            try clear hx6
            try clear c35
            try clear c37
            try clear c38
            try clear c39
            try clear c39b0
            try clear c39b1
            try clear c40
            try clear c40b0
            try clear c44
            try clear c44b0
            try clear c44b1
            try clear c44b2
            try clear c47
            try clear c48
            try clear c49
            try clear c51
            try clear c54
            try clear c54b0
            try clear c55
            try clear c55b0
            try clear c62
            try clear hx679_0
            try clear hx680_0
            try clear hx681_0
            try clear hx685_0
            try clear p2
            try clear p6
            try clear p679
            try clear p680
            try clear p681
            try clear p685
            try clear q6
            try clear q679
            try clear q680
            try clear q681
            try clear q685
            obtain ⟨x146_4, rfl, HA, HK4, HO_5, HO_9, HO_144, HB⟩ := hrel
            cases gk with
            | zero => exact absurd HA.out (by simp [laws_FnJumpsOfHurwitz.l0])
            | succ k4 =>
             have H := HA.out
             clear HA
             simp only [laws_FnJumpsOfHurwitz.l0] at H
             by_cases c64 : x146_4 < (t665.length : Int)
             ·rw [if_pos c64] at H
              have c64b0 : decide (x146_4 < (t665.length : Int)) = true := decide_eq_true c64
              clear c64
              by_cases c65 : 0 ≤ x146_4
              ·rw [if_pos c65] at H
               have c65b0 : decide (0 ≤ x146_4) = true := decide_eq_true c65
               clear c65
               by_cases c66 : x146_4 < (t665.length : Int)
               ·rw [if_pos c66] at H
                have c66b0 : decide (x146_4 < (t665.length : Int)) = true := decide_eq_true c66
                clear c66
                by_cases c67 : (rd t665 x146_4) = t673
                ·rw [if_pos c67] at H
                 have c67b0 : ((rd t665 x146_4) == t673) = true := beq_iff_eq.mpr c67
                 have c67b1 : ((rd t665 x146_4) != t673) = false := bne_eq_false_iff_eq.mpr c67
                 clear c67
                 replace H := Option.bind_eq_some_iff.mp H
                 obtain ⟨⟨t687, t688⟩, A680, H⟩ := H
                 replace H : (if t688 = true then ((laws_vSame.f k4 t687 t659).bind fun t691 => (some t691)) else (some false)) = some r := H
                 have A68 := Aside0.mk A680
                 clear A680
                 by_cases c69 : t688 = true
                 ·subst c69
                  have H1 : ((laws_vSame.f k4 t687 t659).bind fun t691 => (some t691)) = some r := by rw [if_pos rfl] at H; exact H
                  clear H
                  have H := H1
                  clear H1
                  replace H := Option.bind_eq_some_iff.mp H
                  obtain ⟨t691, A700, H⟩ := H
                  replace H : (some t691) = some r := H
                  have A70 := Aside0.mk A700
                  clear A700
                  obtain rfl := Option.some.inj H
                  have p686 : 0 ≤ (x146_4 : Int) := of_decide_eq_true (by first | (with_reducible assumption) | assumption)
                  have q686 : x146_4 < (t665.length : Int) := of_decide_eq_true (by first | (with_reducible assumption) | assumption)
                  obtain ⟨ad686, e686, hx686_0⟩ := Kd.at_int (Kd.R_reads' HO_144.out).2.2 x146_4 p686 q686
                  cases e686
                  replace p686 := eq_true p686
                  replace q686 := eq_true q686
                  go_wp2_with (first | ((with_reducible refine gate_callee (f := 35) rfl ?_); refine goesL_ (some 159) rfl rfl Try.func35 (by kernel_rfl) rfl #[.slice (some ad686) t665.length co63, .int .i64 t660, .int .i64 t661, .int .i64 x146_4] rfl (by (try simp only [List.map_toArray, List.map_cons, List.map_nil]); first | done | rfl | (simp only [List.length_drop, List.length_take]; rfl)) ?_; (with_reducible refine (impl_JumpAt.calls k4 _ _ t665 t660 t661 x146_4 t687 true _ ?side1 ?side2 A68.out).mono ?_); (case side1 => repeat (first | exact (Kd.R_reads' HO_9.out).2.2 | (with_reducible refine Kd.C_alloc ?_ _) | (with_reducible refine Kd.C_drewN ?_ _) | (with_reducible refine Kd.C_drew ?_))); (case side2 => exact (Kd.R_reads' HO_9.out).2.1); rintro e w71 ⟨v689, rfl, ho0, hb⟩; refine ⟨_, rfl, ?_⟩; have n0_ := Aside0.mk (Kd.R_elder' (by (with_reducible repeat (first | apply Kd.R_alloc | apply Kd.R_drewN | apply Kd.R_drew)); exact HO_5.out) (Kd.R_base ho0) hb); have n1_ := Aside0.mk (Kd.R_elder' (by (with_reducible repeat (first | apply Kd.R_alloc | apply Kd.R_drewN | apply Kd.R_drew)); exact HO_9.out) (Kd.R_base ho0) hb); have n2_ := Aside0.mk (Kd.R_elder' (by (with_reducible repeat (first | apply Kd.R_alloc | apply Kd.R_drewN | apply Kd.R_drew)); exact HO_144.out) (Kd.R_base ho0) hb); have n3_ := Aside0.mk (Kd.R_lower (Kd.R_new' (Kd.R_new' (Kd.R_new' ho0 (Kd.R_lt (by (with_reducible repeat (first | apply Kd.R_alloc | apply Kd.R_drewN | apply Kd.R_drew)); exact HO_5.out))) (Kd.R_lt (by (with_reducible repeat (first | apply Kd.R_alloc | apply Kd.R_drewN | apply Kd.R_drew)); exact HO_9.out))) (Kd.R_lt (by (with_reducible repeat (first | apply Kd.R_alloc | apply Kd.R_drewN | apply Kd.R_drew)); exact HO_144.out))) (below_size (by repeat (first | (with_reducible first | exact HB.out | apply below_alloc | apply pw_below_drewN | apply below_drew1) | exact HB.out)))); have n4_ := Aside0.mk (below_step (by repeat (first | (with_reducible first | exact HB.out | apply below_alloc | apply pw_below_drewN | apply below_drew1) | exact HB.out)) hb); clear HO_5; clear HO_9; clear HO_144; clear HB; have HO_5 := n0_; have HO_9 := n1_; have HO_144 := n2_; have HO690 := n3_; have HB := n4_; clear n0_ n1_ n2_ n3_ n4_; (try clear hb); (try clear hb2); (try clear hk); (try clear hi); (try clear ho0); obtain ⟨Ao72, co72, eo72⟩ := Kd.R_slice HO690.out; subst eo72) | (go_at_call 46; (with_reducible refine (laws_vSame.calls k4 _ _ t687 _ _ t659 t691 _ ?side1 ?side2 ?side3 ?side4 A70.out).mono ?_); (case side1 => repeat (first | exact (Kd.R_reads' HO690.out).2.2 | (with_reducible refine Kd.C_alloc ?_ _) | (with_reducible refine Kd.C_drewN ?_ _) | (with_reducible refine Kd.C_drew ?_))); (case side2 => exact (Kd.R_reads' HO690.out).2.1); (case side3 => repeat (first | exact (Kd.R_reads' HO_5.out).2.2 | (with_reducible refine Kd.C_alloc ?_ _) | (with_reducible refine Kd.C_drewN ?_ _) | (with_reducible refine Kd.C_drew ?_))); (case side4 => exact (Kd.R_reads' HO_5.out).2.1); rintro e w' ⟨rfl, ⟨nd, rfl⟩⟩))
                  go_ret
                  exact ⟨by first | rfl | (simp [errW_none, errW_some] <;> rfl) | (simp [*, errW_none, errW_some] <;> rfl), by repeat (first | (with_reducible first | exact HB.out | apply below_alloc | apply pw_below_drewN | apply below_drew1) | exact HB.out)⟩
                 ·replace c69 := Bool.eq_false_iff.mpr c69
                  subst c69
                  have H1 : (some false) = some r := by rw [if_neg (show ¬ (false = true) by decide)] at H; exact H
                  clear H
                  have H := H1
                  clear H1
                  obtain rfl := Option.some.inj H
                  have p686 : 0 ≤ (x146_4 : Int) := of_decide_eq_true (by first | (with_reducible assumption) | assumption)
                  have q686 : x146_4 < (t665.length : Int) := of_decide_eq_true (by first | (with_reducible assumption) | assumption)
                  obtain ⟨ad686, e686, hx686_0⟩ := Kd.at_int (Kd.R_reads' HO_144.out).2.2 x146_4 p686 q686
                  cases e686
                  replace p686 := eq_true p686
                  replace q686 := eq_true q686
                  go_wp2_with (first | ((with_reducible refine gate_callee (f := 35) rfl ?_); refine goesL_ (some 159) rfl rfl Try.func35 (by kernel_rfl) rfl #[.slice (some ad686) t665.length co63, .int .i64 t660, .int .i64 t661, .int .i64 x146_4] rfl (by (try simp only [List.map_toArray, List.map_cons, List.map_nil]); first | done | rfl | (simp only [List.length_drop, List.length_take]; rfl)) ?_; (with_reducible refine (impl_JumpAt.calls k4 _ _ t665 t660 t661 x146_4 t687 false _ ?side1 ?side2 A68.out).mono ?_); (case side1 => repeat (first | exact (Kd.R_reads' HO_9.out).2.2 | (with_reducible refine Kd.C_alloc ?_ _) | (with_reducible refine Kd.C_drewN ?_ _) | (with_reducible refine Kd.C_drew ?_))); (case side2 => exact (Kd.R_reads' HO_9.out).2.1); rintro e w73 ⟨v689, rfl, ho0, hb⟩; refine ⟨_, rfl, ?_⟩; have n0_ := Aside0.mk (Kd.R_elder' (by (with_reducible repeat (first | apply Kd.R_alloc | apply Kd.R_drewN | apply Kd.R_drew)); exact HO_5.out) (Kd.R_base ho0) hb); have n1_ := Aside0.mk (Kd.R_elder' (by (with_reducible repeat (first | apply Kd.R_alloc | apply Kd.R_drewN | apply Kd.R_drew)); exact HO_9.out) (Kd.R_base ho0) hb); have n2_ := Aside0.mk (Kd.R_elder' (by (with_reducible repeat (first | apply Kd.R_alloc | apply Kd.R_drewN | apply Kd.R_drew)); exact HO_144.out) (Kd.R_base ho0) hb); have n3_ := Aside0.mk (Kd.R_lower (Kd.R_new' (Kd.R_new' (Kd.R_new' ho0 (Kd.R_lt (by (with_reducible repeat (first | apply Kd.R_alloc | apply Kd.R_drewN | apply Kd.R_drew)); exact HO_5.out))) (Kd.R_lt (by (with_reducible repeat (first | apply Kd.R_alloc | apply Kd.R_drewN | apply Kd.R_drew)); exact HO_9.out))) (Kd.R_lt (by (with_reducible repeat (first | apply Kd.R_alloc | apply Kd.R_drewN | apply Kd.R_drew)); exact HO_144.out))) (below_size (by repeat (first | (with_reducible first | exact HB.out | apply below_alloc | apply pw_below_drewN | apply below_drew1) | exact HB.out)))); have n4_ := Aside0.mk (below_step (by repeat (first | (with_reducible first | exact HB.out | apply below_alloc | apply pw_below_drewN | apply below_drew1) | exact HB.out)) hb); clear HO_5; clear HO_9; clear HO_144; clear HB; have HO_5 := n0_; have HO_9 := n1_; have HO_144 := n2_; have HO690 := n3_; have HB := n4_; clear n0_ n1_ n2_ n3_ n4_; (try clear hb); (try clear hb2); (try clear hk); (try clear hi); (try clear ho0)))
                  go_ret
                  exact ⟨by first | rfl | (simp [errW_none, errW_some] <;> rfl) | (simp [*, errW_none, errW_some] <;> rfl), by repeat (first | (with_reducible first | exact HB.out | apply below_alloc | apply pw_below_drewN | apply below_drew1) | exact HB.out)⟩
                ·rw [if_neg c67] at H
                 have c67b0 : ((rd t665 x146_4) == t673) = false := beq_eq_false_iff_ne.mpr c67
                 have c67b1 : ((rd t665 x146_4) != t673) = true := bne_iff_ne.mpr c67
                 have H' := Aside0.mk H
                 clear H
                 have p686 : 0 ≤ (x146_4 : Int) := of_decide_eq_true (by first | (with_reducible assumption) | assumption)
                 have q686 : x146_4 < (t665.length : Int) := of_decide_eq_true (by first | (with_reducible assumption) | assumption)
                 obtain ⟨ad686, e686, hx686_0⟩ := Kd.at_int (Kd.R_reads' HO_144.out).2.2 x146_4 p686 q686
                 cases e686
                 replace p686 := eq_true p686
                 replace q686 := eq_true q686
                 go_wp2
                 go_roundg k4
                 case measure => have := HJ9.out; have := HJ33.out; have := HJ48.out; have := HK4.out; omega
                 case rel => exact ⟨(wrap64 (x146_4 + 1)), (by first | rfl | (simp; done) | (simp [*]; done)), H', ⟨by have := HJ9.out; have := HJ33.out; have := HJ48.out; have := HK4.out; omega⟩, ⟨by (with_reducible repeat (first | apply Kd.R_alloc | apply Kd.R_drewN | apply Kd.R_drew)); exact HO_5.out⟩, ⟨by (with_reducible repeat (first | apply Kd.R_alloc | apply Kd.R_drewN | apply Kd.R_drew)); exact HO_9.out⟩, ⟨by (with_reducible repeat (first | apply Kd.R_alloc | apply Kd.R_drewN | apply Kd.R_drew)); exact HO_144.out⟩, ⟨by repeat (first | (with_reducible first | exact HB.out | apply below_alloc | apply pw_below_drewN | apply below_drew1) | exact HB.out)⟩⟩
               ·rw [if_neg c66] at H
                exact absurd H (by simp)
              ·rw [if_neg c65] at H
               exact absurd H (by simp)
             ·rw [if_neg c64] at H
              have c64b0 : decide (x146_4 < (t665.length : Int)) = false := decide_eq_false c64
              clear c64
              obtain rfl := Option.some.inj H
              go_wp2
              go_ret
              exact ⟨by first | rfl | (simp [errW_none, errW_some] <;> rfl) | (simp [*, errW_none, errW_some] <;> rfl), by repeat (first | (with_reducible first | exact HB.out | apply below_alloc | apply pw_below_drewN | apply below_drew1) | exact HB.out)⟩
       ·replace c48 := Bool.eq_false_iff.mpr c48
        subst c48
        have H1 : (some true) = some r := by rw [if_neg (show ¬ (false = true) by decide)] at H; exact H
        clear H
        have H := H1
        clear H1
        obtain rfl := Option.some.inj H
        go_wp2
        go_ret
        exact ⟨by first | rfl | (simp [errW_none, errW_some] <;> rfl) | (simp [*, errW_none, errW_some] <;> rfl), by repeat (first | (with_reducible first | exact HB.out | apply below_alloc | apply pw_below_drewN | apply below_drew1) | exact HB.out)⟩

/-- THE ONE PURE STATEMENT of laws_FnJumpsOfHurwitz: yours. -/
def laws_FnJumpsOfHurwitz.Pure : Prop := ∀ (l0 : List Int) (l1 : List Int), l0.length ≤ maxLen → l0.length * 1 ≤ 140737488351232 → (∀ x ∈ l0, (Lit.int .u8 x).wf = true) → l1.length ≤ maxLen → l1.length * 1 ≤ 140737488351232 → (∀ x ∈ l1, (Lit.int .u8 x).wf = true) → ∃ k, laws_FnJumpsOfHurwitz.f k l0 l1 = some true
theorem laws_FnJumpsOfHurwitz.walk (P : laws_FnJumpsOfHurwitz.Pure) (a0 : Option Addr) (len0 cap0 : Nat) (z0 : List Int) (a1 : Option Addr) (len1 cap1 : Nat) (z1 : List Int) (w : World) (w0 : (a0 = none ∧ len0 = 0 ∧ cap0 = 0 ∧ z0 = []) ∨ ∃ x, a0 = some x ∧ len0 ≤ cap0 ∧ cap0 ≤ maxLen ∧ z0.length = cap0 ∧ (∀ i, i < z0.length → w.cell? (x.add i) = some (.int .u8 (z0.getD i 0))) ∧ ∀ n ∈ z0, (Lit.int .u8 n).wf = true) (y0 : len0 * 1 ≤ 140737488351232) (w1 : (a1 = none ∧ len1 = 0 ∧ cap1 = 0 ∧ z1 = []) ∨ ∃ x, a1 = some x ∧ len1 ≤ cap1 ∧ cap1 ≤ maxLen ∧ z1.length = cap1 ∧ (∀ i, i < z1.length → w.cell? (x.add i) = some (.int .u8 (z1.getD i 0))) ∧ ∀ n ∈ z1, (Lit.int .u8 n).wf = true) (y1 : len1 * 1 ≤ 140737488351232) :
  Calls Try.prog 14 #[.slice a0 len0 cap0, .slice a1 len1 cap1] w fun e w' => e = .returned (.bool true) ∧ Below w.heap.size w w' := by
 obtain ⟨l0, rfl, hr0, hm0, hw0, hc0⟩ := ReadsInt.ofRowC w0
 obtain ⟨l1, rfl, hr1, hm1, hw1, hc1⟩ := ReadsInt.ofRowC w1
 obtain ⟨k, h⟩ := P l0 l1 hm0 y0 hw0 hm1 y1 hw1
 refine (laws_FnJumpsOfHurwitz.calls k _ _ l0 _ _ l1 true w (Kd.C_of_reads (d := (0 : Int)) (h1 := fun _ => rfl) hr0) hc0 (Kd.C_of_reads (d := (0 : Int)) (h1 := fun _ => rfl) hr1) hc1 h).mono ?_
 rintro e w' ⟨rfl, hd⟩
 exact ⟨rfl, hd⟩

end Go.Proofs.Ytfdjbcbhlfjogaa.P
