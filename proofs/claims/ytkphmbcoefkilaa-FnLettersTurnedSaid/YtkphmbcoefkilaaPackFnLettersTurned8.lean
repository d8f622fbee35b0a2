/- Turns are told in order, mirrored twice letters are the same, and neighbours of a word have its factors. No condition. -/
import Derived.Test.YtkphmbcoefkilaaPackFnLettersTurned7
import Derived.Laws.Cover1
import Derived.Sort.Walk0
-- PFFnLettersTurned
namespace Go.Proofs.Ytkphmbcoefkilaa.P
open Go.RowKit Go.Proofs.YtkphmbcoefkilaaW.PrintWords Go.Proofs.YtkphmbcoefkilaaW.PrintLast
set_option linter.unusedVariables false
set_option linter.unusedSimpArgs false

/-! ### laws_FnLettersTurned: function 13 -/
mutual
def laws_FnLettersTurned.j0 : Nat → List Int → ByteArray → List ByteArray → Bool → ByteArray → Bool → Option (Bool)
 | 0, _, _, _, _, _, _ => none
 | k + 1, x1, x5, x6, x7, x14, x118 => if x118 = true then (some false) else (if x7 = true then (if (x6.length : Int) = 0 then (none) else (if ((x5.size : Int) % (x6.length : Int)) = 0 then (laws_FnLettersTurned.l0 k x1 x5 x6 x14 1) else (some false))) else (laws_FnLettersTurned.j2 k x1))
def laws_FnLettersTurned.j2 : Nat → List Int → Option (Bool)
 | 0, _ => none
 | k + 1, x1 => (spec_DrawNeighbourWords.f k x1).bind fun t505 => ((impl_NeighbourWords.f k t505).bind fun bt506 => ((spec_NeighbourWords.f k t505).bind fun bt509 => (if (bt506.2.2 != bt509.2.2) = true then (laws_FnLettersTurned.j3 k x1 t505 bt506.1 bt506.2.1 bt506.2.2 true) else (if bt506.1.toList = bt509.1.toList then (laws_FnLettersTurned.j3 k x1 t505 bt506.1 bt506.2.1 bt506.2.2 (bt506.2.1.toList != bt509.2.1.toList)) else (laws_FnLettersTurned.j3 k x1 t505 bt506.1 bt506.2.1 bt506.2.2 true)))))
def laws_FnLettersTurned.j3 : Nat → List Int → ByteArray → ByteArray → ByteArray → Bool → Bool → Option (Bool)
 | 0, _, _, _, _, _, _ => none
 | k + 1, x1, x27, x28, x29, x30, x220 => if x220 = true then (some false) else (if x30 = true then ((impl_FactorsOf.f k x27).bind fun bt512 => ((impl_FactorsOf.f k x28).bind fun bt515 => ((impl_FactorsOf.f k x29).bind fun bt518 => (if bt512.2.2 = true then (if bt515.2.2 = true then (if bt518.2.2 = true then (if bt515.1.toList = bt512.1.toList then (if bt515.2.1.toList = x27.toList then (if bt518.1.toList = x27.toList then (if bt518.2.1.toList = bt512.2.1.toList then (laws_FnLettersTurned.j4 k x1) else (some false)) else (some false)) else (some false)) else (some false)) else (some false)) else (some false)) else (some false))))) else (laws_FnLettersTurned.j4 k x1))
def laws_FnLettersTurned.j4 : Nat → List Int → Option (Bool)
 | 0, _ => none
 | k + 1, x1 => (spec_DrawChristoffelUpTo.f x1).bind fun t521 => ((impl_ChristoffelUpTo.f k t521).bind fun bt522 => ((spec_ChristoffelUpTo.f k t521).bind fun bt526 => (if (bt522.2 != bt526.2) = true then (laws_FnLettersTurned.j5 k bt522.1 true) else ((laws_dTexts.f k bt522.1 bt526.1).bind fun t530 => (laws_FnLettersTurned.j5 k bt522.1 (!t530))))))
def laws_FnLettersTurned.j5 : Nat → List ByteArray → Bool → Option (Bool)
 | 0, _, _ => none
 | k + 1, x44, x290 => if x290 = true then (some false) else (laws_FnLettersTurned.l1 k x44 1)
def laws_FnLettersTurned.l1 : Nat → List ByteArray → Int → Option (Bool)
 | 0, _, _ => none
 | k + 1, x44, x48 => if x48 < (x44.length : Int) then (if 0 ≤ x48 then (if 0 ≤ (wrap64 (x48 - 1)) then (if (wrap64 (x48 - 1)) < (x44.length : Int) then (if ((rdOf ByteArray.empty x44 x48).size : Int) < ((rdOf ByteArray.empty x44 (wrap64 (x48 - 1))).size : Int) then (some false) else (if ((rdOf ByteArray.empty x44 x48).size : Int) = ((rdOf ByteArray.empty x44 (wrap64 (x48 - 1))).size : Int) then (if ((Op.bytesLess ((rdOf ByteArray.empty x44 (wrap64 (x48 - 1))).toList) ((rdOf ByteArray.empty x44 x48).toList)) = true) then (laws_FnLettersTurned.l1 k x44 (wrap64 (x48 + 1))) else (some false)) else (laws_FnLettersTurned.l1 k x44 (wrap64 (x48 + 1))))) else (none)) else (none)) else (none)) else (some true)
def laws_FnLettersTurned.l0 : Nat → List Int → ByteArray → List ByteArray → ByteArray → Int → Option (Bool)
 | 0, _, _, _, _, _ => none
 | k + 1, x1, x5, x6, x14, x18 => if x18 < (x6.length : Int) then (if 0 ≤ x18 then (if 0 ≤ (wrap64 (x18 - 1)) then (if (wrap64 (x18 - 1)) < (x6.length : Int) then (if ((Op.bytesLess ((rdOf ByteArray.empty x6 (wrap64 (x18 - 1))).toList) ((rdOf ByteArray.empty x6 x18).toList)) = true) then (if ((rdOf ByteArray.empty x6 x18).size : Int) = (x5.size : Int) then (laws_FnLettersTurned.l0 k x1 x5 x6 x14 (wrap64 (x18 + 1))) else (some false)) else (some false)) else (none)) else (none)) else (none)) else ((impl_MirrorWord.f x14).bind fun bt497 => ((impl_CountsOf.f x5).bind fun bt499 => ((impl_CountsOf.f x14).bind fun bt502 => (if bt497.2 = true then (if bt497.1.toList = x5.toList then (if bt499.2.2 = true then (if bt502.2.2 = true then (if bt499.1 = bt502.2.1 then (if bt499.2.1 = bt502.1 then (laws_FnLettersTurned.j2 k x1) else (some false)) else (some false)) else (some false)) else (some false)) else (some false)) else (some false)))))
end
def laws_FnLettersTurned.f (k : Nat) (l0 : List Int) (l1 : List Int) : Option (Bool) := (laws_big.f l0 l1).bind fun t474 => (if t474 = true then (some true) else ((spec_DrawTurnsOf.f k l0).bind fun t475 => ((impl_TurnsOf.f k t475).bind fun bt476 => ((spec_TurnsOf.f k t475).bind fun bt480 => ((impl_IsBalanced.f k t475).bind fun bt484 => ((spec_IsBalanced.f k t475).bind fun bt486 => ((impl_MirrorWord.f t475).bind fun bt488 => ((spec_MirrorWord.f k t475).bind fun bt490 => (if (bt476.2 != bt480.2) = true then (laws_FnLettersTurned.j0 k l1 t475 bt476.1 bt476.2 bt488.1 true) else ((laws_dTexts.f k bt476.1 bt480.1).bind fun t492 => (if t492 = true then (if (bt484.2 != bt486.2) = true then (laws_FnLettersTurned.j0 k l1 t475 bt476.1 bt476.2 bt488.1 true) else (if (bt484.1 != bt486.1) = true then (laws_FnLettersTurned.j0 k l1 t475 bt476.1 bt476.2 bt488.1 true) else (if (bt488.2 != bt490.2) = true then (laws_FnLettersTurned.j0 k l1 t475 bt476.1 bt476.2 bt488.1 true) else (if bt488.1.toList = bt490.1.toList then ((impl_IsLetters.f t475).bind fun t493 => (laws_FnLettersTurned.j0 k l1 t475 bt476.1 bt476.2 bt488.1 (bt476.2 != t493))) else (laws_FnLettersTurned.j0 k l1 t475 bt476.1 bt476.2 bt488.1 true))))) else (laws_FnLettersTurned.j0 k l1 t475 bt476.1 bt476.2 bt488.1 true))))))))))))
theorem laws_FnLettersTurned.mono_l : ∀ k, (∀ y0 y1 y2 y3 y4 y5, LeO (laws_FnLettersTurned.j0 k y0 y1 y2 y3 y4 y5) (laws_FnLettersTurned.j0 (k + 1) y0 y1 y2 y3 y4 y5)) ∧ (∀ y0, LeO (laws_FnLettersTurned.j2 k y0) (laws_FnLettersTurned.j2 (k + 1) y0)) ∧ (∀ y0 y1 y2 y3 y4 y5, LeO (laws_FnLettersTurned.j3 k y0 y1 y2 y3 y4 y5) (laws_FnLettersTurned.j3 (k + 1) y0 y1 y2 y3 y4 y5)) ∧ (∀ y0, LeO (laws_FnLettersTurned.j4 k y0) (laws_FnLettersTurned.j4 (k + 1) y0)) ∧ (∀ y0 y1, LeO (laws_FnLettersTurned.j5 k y0 y1) (laws_FnLettersTurned.j5 (k + 1) y0 y1)) ∧ (∀ y0 y1, LeO (laws_FnLettersTurned.l1 k y0 y1) (laws_FnLettersTurned.l1 (k + 1) y0 y1)) ∧ (∀ y0 y1 y2 y3 y4, LeO (laws_FnLettersTurned.l0 k y0 y1 y2 y3 y4) (laws_FnLettersTurned.l0 (k + 1) y0 y1 y2 y3 y4))
 | 0 => ⟨fun _ _ _ _ _ _ r h => by simp [laws_FnLettersTurned.j0] at h, fun _ r h => by simp [laws_FnLettersTurned.j2] at h, fun _ _ _ _ _ _ r h => by simp [laws_FnLettersTurned.j3] at h, fun _ r h => by simp [laws_FnLettersTurned.j4] at h, fun _ _ r h => by simp [laws_FnLettersTurned.j5] at h, fun _ _ r h => by simp [laws_FnLettersTurned.l1] at h, fun _ _ _ _ _ r h => by simp [laws_FnLettersTurned.l0] at h⟩
 | k + 1 => by
  obtain ⟨ih0, ih1, ih2, ih3, ih4, ih5, ih6⟩ := laws_FnLettersTurned.mono_l k
  refine ⟨?_, ?_, ?_, ?_, ?_, ?_, ?_⟩
  ·intro y0 y1 y2 y3 y4 y5
   unfold laws_FnLettersTurned.j0
   repeat' first
   | (with_reducible exact ih0 _ _ _ _ _ _)
   | (with_reducible exact ih1 _)
   | (with_reducible exact ih2 _ _ _ _ _ _)
   | (with_reducible exact ih3 _)
   | (with_reducible exact ih4 _ _)
   | (with_reducible exact ih5 _ _)
   | (with_reducible exact ih6 _ _ _ _ _)
   | (with_reducible exact impl_ChristoffelUpTo.mono _ _)
   | (with_reducible exact impl_FactorsOf.mono _ _)
   | (with_reducible exact impl_IsBalanced.mono _ _)
   | (with_reducible exact impl_NeighbourWords.mono _ _)
   | (with_reducible exact impl_TurnsOf.mono _ _)
   | (with_reducible exact laws_dTexts.mono _ _ _)
   | (with_reducible exact spec_ChristoffelUpTo.mono _ _)
   | (with_reducible exact spec_DrawNeighbourWords.mono _ _)
   | (with_reducible exact spec_DrawTurnsOf.mono _ _)
   | (with_reducible exact spec_IsBalanced.mono _ _)
   | (with_reducible exact spec_MirrorWord.mono _ _)
   | (with_reducible exact spec_NeighbourWords.mono _ _)
   | (with_reducible exact spec_TurnsOf.mono _ _)
   | (with_reducible exact LeO.refl _)
   | (with_reducible exact LeO.none _)
   | (with_reducible refine LeO.ite ?_ ?_)
   | (with_reducible refine LeO.bind ?_ (fun _ => ?_))
   | exact ih0 _ _ _ _ _ _
   | exact ih1 _
   | exact ih2 _ _ _ _ _ _
   | exact ih3 _
   | exact ih4 _ _
   | exact ih5 _ _
   | exact ih6 _ _ _ _ _
   | exact impl_ChristoffelUpTo.mono _ _
   | exact impl_FactorsOf.mono _ _
   | exact impl_IsBalanced.mono _ _
   | exact impl_NeighbourWords.mono _ _
   | exact impl_TurnsOf.mono _ _
   | exact laws_dTexts.mono _ _ _
   | exact spec_ChristoffelUpTo.mono _ _
   | exact spec_DrawNeighbourWords.mono _ _
   | exact spec_DrawTurnsOf.mono _ _
   | exact spec_IsBalanced.mono _ _
   | exact spec_MirrorWord.mono _ _
   | exact spec_NeighbourWords.mono _ _
   | exact spec_TurnsOf.mono _ _
   | exact LeO.none _
   | refine LeO.ite ?_ ?_
   | refine LeO.bind ?_ (fun _ => ?_)
  ·intro y0
   unfold laws_FnLettersTurned.j2
   repeat' first
   | (with_reducible exact ih0 _ _ _ _ _ _)
   | (with_reducible exact ih1 _)
   | (with_reducible exact ih2 _ _ _ _ _ _)
   | (with_reducible exact ih3 _)
   | (with_reducible exact ih4 _ _)
   | (with_reducible exact ih5 _ _)
   | (with_reducible exact ih6 _ _ _ _ _)
   | (with_reducible exact impl_ChristoffelUpTo.mono _ _)
   | (with_reducible exact impl_FactorsOf.mono _ _)
   | (with_reducible exact impl_IsBalanced.mono _ _)
   | (with_reducible exact impl_NeighbourWords.mono _ _)
   | (with_reducible exact impl_TurnsOf.mono _ _)
   | (with_reducible exact laws_dTexts.mono _ _ _)
   | (with_reducible exact spec_ChristoffelUpTo.mono _ _)
   | (with_reducible exact spec_DrawNeighbourWords.mono _ _)
   | (with_reducible exact spec_DrawTurnsOf.mono _ _)
   | (with_reducible exact spec_IsBalanced.mono _ _)
   | (with_reducible exact spec_MirrorWord.mono _ _)
   | (with_reducible exact spec_NeighbourWords.mono _ _)
   | (with_reducible exact spec_TurnsOf.mono _ _)
   | (with_reducible exact LeO.refl _)
   | (with_reducible exact LeO.none _)
   | (with_reducible refine LeO.ite ?_ ?_)
   | (with_reducible refine LeO.bind ?_ (fun _ => ?_))
   | exact ih0 _ _ _ _ _ _
   | exact ih1 _
   | exact ih2 _ _ _ _ _ _
   | exact ih3 _
   | exact ih4 _ _
   | exact ih5 _ _
   | exact ih6 _ _ _ _ _
   | exact impl_ChristoffelUpTo.mono _ _
   | exact impl_FactorsOf.mono _ _
   | exact impl_IsBalanced.mono _ _
   | exact impl_NeighbourWords.mono _ _
   | exact impl_TurnsOf.mono _ _
   | exact laws_dTexts.mono _ _ _
   | exact spec_ChristoffelUpTo.mono _ _
   | exact spec_DrawNeighbourWords.mono _ _
   | exact spec_DrawTurnsOf.mono _ _
   | exact spec_IsBalanced.mono _ _
   | exact spec_MirrorWord.mono _ _
   | exact spec_NeighbourWords.mono _ _
   | exact spec_TurnsOf.mono _ _
   | exact LeO.none _
   | refine LeO.ite ?_ ?_
   | refine LeO.bind ?_ (fun _ => ?_)
  ·intro y0 y1 y2 y3 y4 y5
   unfold laws_FnLettersTurned.j3
   repeat' first
   | (with_reducible exact ih0 _ _ _ _ _ _)
   | (with_reducible exact ih1 _)
   | (with_reducible exact ih2 _ _ _ _ _ _)
   | (with_reducible exact ih3 _)
   | (with_reducible exact ih4 _ _)
   | (with_reducible exact ih5 _ _)
   | (with_reducible exact ih6 _ _ _ _ _)
   | (with_reducible exact impl_ChristoffelUpTo.mono _ _)
   | (with_reducible exact impl_FactorsOf.mono _ _)
   | (with_reducible exact impl_IsBalanced.mono _ _)
   | (with_reducible exact impl_NeighbourWords.mono _ _)
   | (with_reducible exact impl_TurnsOf.mono _ _)
   | (with_reducible exact laws_dTexts.mono _ _ _)
   | (with_reducible exact spec_ChristoffelUpTo.mono _ _)
   | (with_reducible exact spec_DrawNeighbourWords.mono _ _)
   | (with_reducible exact spec_DrawTurnsOf.mono _ _)
   | (with_reducible exact spec_IsBalanced.mono _ _)
   | (with_reducible exact spec_MirrorWord.mono _ _)
   | (with_reducible exact spec_NeighbourWords.mono _ _)
   | (with_reducible exact spec_TurnsOf.mono _ _)
   | (with_reducible exact LeO.refl _)
   | (with_reducible exact LeO.none _)
   | (with_reducible refine LeO.ite ?_ ?_)
   | (with_reducible refine LeO.bind ?_ (fun _ => ?_))
   | exact ih0 _ _ _ _ _ _
   | exact ih1 _
   | exact ih2 _ _ _ _ _ _
   | exact ih3 _
   | exact ih4 _ _
   | exact ih5 _ _
   | exact ih6 _ _ _ _ _
   | exact impl_ChristoffelUpTo.mono _ _
   | exact impl_FactorsOf.mono _ _
   | exact impl_IsBalanced.mono _ _
   | exact impl_NeighbourWords.mono _ _
   | exact impl_TurnsOf.mono _ _
   | exact laws_dTexts.mono _ _ _
   | exact spec_ChristoffelUpTo.mono _ _
   | exact spec_DrawNeighbourWords.mono _ _
   | exact spec_DrawTurnsOf.mono _ _
   | exact spec_IsBalanced.mono _ _
   | exact spec_MirrorWord.mono _ _
   | exact spec_NeighbourWords.mono _ _
   | exact spec_TurnsOf.mono _ _
   | exact LeO.none _
   | refine LeO.ite ?_ ?_
   | refine LeO.bind ?_ (fun _ => ?_)
  ·intro y0
   unfold laws_FnLettersTurned.j4
   repeat' first
   | (with_reducible exact ih0 _ _ _ _ _ _)
   | (with_reducible exact ih1 _)
   | (with_reducible exact ih2 _ _ _ _ _ _)
   | (with_reducible exact ih3 _)
   | (with_reducible exact ih4 _ _)
   | (with_reducible exact ih5 _ _)
   | (with_reducible exact ih6 _ _ _ _ _)
   | (with_reducible exact impl_ChristoffelUpTo.mono _ _)
   | (with_reducible exact impl_FactorsOf.mono _ _)
   | (with_reducible exact impl_IsBalanced.mono _ _)
   | (with_reducible exact impl_NeighbourWords.mono _ _)
   | (with_reducible exact impl_TurnsOf.mono _ _)
   | (with_reducible exact laws_dTexts.mono _ _ _)
   | (with_reducible exact spec_ChristoffelUpTo.mono _ _)
   | (with_reducible exact spec_DrawNeighbourWords.mono _ _)
   | (with_reducible exact spec_DrawTurnsOf.mono _ _)
   | (with_reducible exact spec_IsBalanced.mono _ _)
   | (with_reducible exact spec_MirrorWord.mono _ _)
   | (with_reducible exact spec_NeighbourWords.mono _ _)
   | (with_reducible exact spec_TurnsOf.mono _ _)
   | (with_reducible exact LeO.refl _)
   | (with_reducible exact LeO.none _)
   | (with_reducible refine LeO.ite ?_ ?_)
   | (with_reducible refine LeO.bind ?_ (fun _ => ?_))
   | exact ih0 _ _ _ _ _ _
   | exact ih1 _
   | exact ih2 _ _ _ _ _ _
   | exact ih3 _
   | exact ih4 _ _
   | exact ih5 _ _
   | exact ih6 _ _ _ _ _
   | exact impl_ChristoffelUpTo.mono _ _
   | exact impl_FactorsOf.mono _ _
   | exact impl_IsBalanced.mono _ _
   | exact impl_NeighbourWords.mono _ _
   | exact impl_TurnsOf.mono _ _
   | exact laws_dTexts.mono _ _ _
   | exact spec_ChristoffelUpTo.mono _ _
   | exact spec_DrawNeighbourWords.mono _ _
   | exact spec_DrawTurnsOf.mono _ _
   | exact spec_IsBalanced.mono _ _
   | exact spec_MirrorWord.mono _ _
   | exact spec_NeighbourWords.mono _ _
   | exact spec_TurnsOf.mono _ _
   | exact LeO.none _
   | refine LeO.ite ?_ ?_
   | refine LeO.bind ?_ (fun _ => ?_)
  ·intro y0 y1
   unfold laws_FnLettersTurned.j5
   repeat' first
   | (with_reducible exact ih0 _ _ _ _ _ _)
   | (with_reducible exact ih1 _)
   | (with_reducible exact ih2 _ _ _ _ _ _)
   | (with_reducible exact ih3 _)
   | (with_reducible exact ih4 _ _)
   | (with_reducible exact ih5 _ _)
   | (with_reducible exact ih6 _ _ _ _ _)
   | (with_reducible exact impl_ChristoffelUpTo.mono _ _)
   | (with_reducible exact impl_FactorsOf.mono _ _)
   | (with_reducible exact impl_IsBalanced.mono _ _)
   | (with_reducible exact impl_NeighbourWords.mono _ _)
   | (with_reducible exact impl_TurnsOf.mono _ _)
   | (with_reducible exact laws_dTexts.mono _ _ _)
   | (with_reducible exact spec_ChristoffelUpTo.mono _ _)
   | (with_reducible exact spec_DrawNeighbourWords.mono _ _)
   | (with_reducible exact spec_DrawTurnsOf.mono _ _)
   | (with_reducible exact spec_IsBalanced.mono _ _)
   | (with_reducible exact spec_MirrorWord.mono _ _)
   | (with_reducible exact spec_NeighbourWords.mono _ _)
   | (with_reducible exact spec_TurnsOf.mono _ _)
   | (with_reducible exact LeO.refl _)
   | (with_reducible exact LeO.none _)
   | (with_reducible refine LeO.ite ?_ ?_)
   | (with_reducible refine LeO.bind ?_ (fun _ => ?_))
   | exact ih0 _ _ _ _ _ _
   | exact ih1 _
   | exact ih2 _ _ _ _ _ _
   | exact ih3 _
   | exact ih4 _ _
   | exact ih5 _ _
   | exact ih6 _ _ _ _ _
   | exact impl_ChristoffelUpTo.mono _ _
   | exact impl_FactorsOf.mono _ _
   | exact impl_IsBalanced.mono _ _
   | exact impl_NeighbourWords.mono _ _
   | exact impl_TurnsOf.mono _ _
   | exact laws_dTexts.mono _ _ _
   | exact spec_ChristoffelUpTo.mono _ _
   | exact spec_DrawNeighbourWords.mono _ _
   | exact spec_DrawTurnsOf.mono _ _
   | exact spec_IsBalanced.mono _ _
   | exact spec_MirrorWord.mono _ _
   | exact spec_NeighbourWords.mono _ _
   | exact spec_TurnsOf.mono _ _
   | exact LeO.none _
   | refine LeO.ite ?_ ?_
   | refine LeO.bind ?_ (fun _ => ?_)
  ·intro y0 y1
   unfold laws_FnLettersTurned.l1
   repeat' first
   | (with_reducible exact ih0 _ _ _ _ _ _)
   | (with_reducible exact ih1 _)
   | (with_reducible exact ih2 _ _ _ _ _ _)
   | (with_reducible exact ih3 _)
   | (with_reducible exact ih4 _ _)
   | (with_reducible exact ih5 _ _)
   | (with_reducible exact ih6 _ _ _ _ _)
   | (with_reducible exact impl_ChristoffelUpTo.mono _ _)
   | (with_reducible exact impl_FactorsOf.mono _ _)
   | (with_reducible exact impl_IsBalanced.mono _ _)
   | (with_reducible exact impl_NeighbourWords.mono _ _)
   | (with_reducible exact impl_TurnsOf.mono _ _)
   | (with_reducible exact laws_dTexts.mono _ _ _)
   | (with_reducible exact spec_ChristoffelUpTo.mono _ _)
   | (with_reducible exact spec_DrawNeighbourWords.mono _ _)
   | (with_reducible exact spec_DrawTurnsOf.mono _ _)
   | (with_reducible exact spec_IsBalanced.mono _ _)
   | (with_reducible exact spec_MirrorWord.mono _ _)
   | (with_reducible exact spec_NeighbourWords.mono _ _)
   | (with_reducible exact spec_TurnsOf.mono _ _)
   | (with_reducible exact LeO.refl _)
   | (with_reducible exact LeO.none _)
   | (with_reducible refine LeO.ite ?_ ?_)
   | (with_reducible refine LeO.bind ?_ (fun _ => ?_))
   | exact ih0 _ _ _ _ _ _
   | exact ih1 _
   | exact ih2 _ _ _ _ _ _
   | exact ih3 _
   | exact ih4 _ _
   | exact ih5 _ _
   | exact ih6 _ _ _ _ _
   | exact impl_ChristoffelUpTo.mono _ _
   | exact impl_FactorsOf.mono _ _
   | exact impl_IsBalanced.mono _ _
   | exact impl_NeighbourWords.mono _ _
   | exact impl_TurnsOf.mono _ _
   | exact laws_dTexts.mono _ _ _
   | exact spec_ChristoffelUpTo.mono _ _
   | exact spec_DrawNeighbourWords.mono _ _
   | exact spec_DrawTurnsOf.mono _ _
   | exact spec_IsBalanced.mono _ _
   | exact spec_MirrorWord.mono _ _
   | exact spec_NeighbourWords.mono _ _
   | exact spec_TurnsOf.mono _ _
   | exact LeO.none _
   | refine LeO.ite ?_ ?_
   | refine LeO.bind ?_ (fun _ => ?_)
  ·intro y0 y1 y2 y3 y4
   unfold laws_FnLettersTurned.l0
   repeat' first
   | (with_reducible exact ih0 _ _ _ _ _ _)
   | (with_reducible exact ih1 _)
   | (with_reducible exact ih2 _ _ _ _ _ _)
   | (with_reducible exact ih3 _)
   | (with_reducible exact ih4 _ _)
   | (with_reducible exact ih5 _ _)
   | (with_reducible exact ih6 _ _ _ _ _)
   | (with_reducible exact impl_ChristoffelUpTo.mono _ _)
   | (with_reducible exact impl_FactorsOf.mono _ _)
   | (with_reducible exact impl_IsBalanced.mono _ _)
   | (with_reducible exact impl_NeighbourWords.mono _ _)
   | (with_reducible exact impl_TurnsOf.mono _ _)
   | (with_reducible exact laws_dTexts.mono _ _ _)
   | (with_reducible exact spec_ChristoffelUpTo.mono _ _)
   | (with_reducible exact spec_DrawNeighbourWords.mono _ _)
   | (with_reducible exact spec_DrawTurnsOf.mono _ _)
   | (with_reducible exact spec_IsBalanced.mono _ _)
   | (with_reducible exact spec_MirrorWord.mono _ _)
   | (with_reducible exact spec_NeighbourWords.mono _ _)
   | (with_reducible exact spec_TurnsOf.mono _ _)
   | (with_reducible exact LeO.refl _)
   | (with_reducible exact LeO.none _)
   | (with_reducible refine LeO.ite ?_ ?_)
   | (with_reducible refine LeO.bind ?_ (fun _ => ?_))
   | exact ih0 _ _ _ _ _ _
   | exact ih1 _
   | exact ih2 _ _ _ _ _ _
   | exact ih3 _
   | exact ih4 _ _
   | exact ih5 _ _
   | exact ih6 _ _ _ _ _
   | exact impl_ChristoffelUpTo.mono _ _
   | exact impl_FactorsOf.mono _ _
   | exact impl_IsBalanced.mono _ _
   | exact impl_NeighbourWords.mono _ _
   | exact impl_TurnsOf.mono _ _
   | exact laws_dTexts.mono _ _ _
   | exact spec_ChristoffelUpTo.mono _ _
   | exact spec_DrawNeighbourWords.mono _ _
   | exact spec_DrawTurnsOf.mono _ _
   | exact spec_IsBalanced.mono _ _
   | exact spec_MirrorWord.mono _ _
   | exact spec_NeighbourWords.mono _ _
   | exact spec_TurnsOf.mono _ _
   | exact LeO.none _
   | refine LeO.ite ?_ ?_
   | refine LeO.bind ?_ (fun _ => ?_)
theorem laws_FnLettersTurned.mono : ∀ a0 a1 k, LeO (laws_FnLettersTurned.f k a0 a1) (laws_FnLettersTurned.f (k + 1) a0 a1) := by
 intro a0 a1 k
 obtain ⟨ih0, ih1, ih2, ih3, ih4, ih5, ih6⟩ := laws_FnLettersTurned.mono_l k
 unfold laws_FnLettersTurned.f
 repeat' first
   | (with_reducible exact ih0 _ _ _ _ _ _)
   | (with_reducible exact ih1 _)
   | (with_reducible exact ih2 _ _ _ _ _ _)
   | (with_reducible exact ih3 _)
   | (with_reducible exact ih4 _ _)
   | (with_reducible exact ih5 _ _)
   | (with_reducible exact ih6 _ _ _ _ _)
   | (with_reducible exact impl_ChristoffelUpTo.mono _ _)
   | (with_reducible exact impl_FactorsOf.mono _ _)
   | (with_reducible exact impl_IsBalanced.mono _ _)
   | (with_reducible exact impl_NeighbourWords.mono _ _)
   | (with_reducible exact impl_TurnsOf.mono _ _)
   | (with_reducible exact laws_dTexts.mono _ _ _)
   | (with_reducible exact spec_ChristoffelUpTo.mono _ _)
   | (with_reducible exact spec_DrawNeighbourWords.mono _ _)
   | (with_reducible exact spec_DrawTurnsOf.mono _ _)
   | (with_reducible exact spec_IsBalanced.mono _ _)
   | (with_reducible exact spec_MirrorWord.mono _ _)
   | (with_reducible exact spec_NeighbourWords.mono _ _)
   | (with_reducible exact spec_TurnsOf.mono _ _)
   | (with_reducible exact LeO.refl _)
   | (with_reducible exact LeO.none _)
   | (with_reducible refine LeO.ite ?_ ?_)
   | (with_reducible refine LeO.bind ?_ (fun _ => ?_))
   | exact ih0 _ _ _ _ _ _
   | exact ih1 _
   | exact ih2 _ _ _ _ _ _
   | exact ih3 _
   | exact ih4 _ _
   | exact ih5 _ _
   | exact ih6 _ _ _ _ _
   | exact impl_ChristoffelUpTo.mono _ _
   | exact impl_FactorsOf.mono _ _
   | exact impl_IsBalanced.mono _ _
   | exact impl_NeighbourWords.mono _ _
   | exact impl_TurnsOf.mono _ _
   | exact laws_dTexts.mono _ _ _
   | exact spec_ChristoffelUpTo.mono _ _
   | exact spec_DrawNeighbourWords.mono _ _
   | exact spec_DrawTurnsOf.mono _ _
   | exact spec_IsBalanced.mono _ _
   | exact spec_MirrorWord.mono _ _
   | exact spec_NeighbourWords.mono _ _
   | exact spec_TurnsOf.mono _ _
   | exact LeO.none _
   | refine LeO.ite ?_ ?_
   | refine LeO.bind ?_ (fun _ => ?_)
set_option maxHeartbeats 8000000 in
set_option maxRecDepth 100000 in
theorem laws_FnLettersTurned.calls (k : Nat) (A0 : Option Addr) (c0 : Nat) (l0 : List Int) (A1 : Option Addr) (c1 : Nat) (l1 : List Int) (r : Bool) (w : World) (hr0 : Kd.C (Kd.int .u8) w A0 l0.length l0) (hc0 : l0.length ≤ c0) (hr1 : Kd.C (Kd.int .u8) w A1 l1.length l1) (hc1 : l1.length ≤ c1) (h : laws_FnLettersTurned.f k l0 l1 = some r) :
  Calls Try.prog 13 #[.slice A0 l0.length c0, .slice A1 l1.length c1] w fun e w' => e = .returned (.bool r) ∧ Below w.heap.size w w' := by
 have HR0 := Aside0.mk hr0
 have HC0 := Aside0.mk hc0
 clear hr0 hc0
 have HR1 := Aside0.mk hr1
 have HC1 := Aside0.mk hc1
 clear hr1 hc1
 have HB := Aside0.mk (Below.refl w.heap.size w)
 have H : ((laws_big.f l0 l1).bind fun t474 => (if t474 = true then (some true) else ((spec_DrawTurnsOf.f k l0).bind fun t475 => ((impl_TurnsOf.f k t475).bind fun bt476 => ((spec_TurnsOf.f k t475).bind fun bt480 => ((impl_IsBalanced.f k t475).bind fun bt484 => ((spec_IsBalanced.f k t475).bind fun bt486 => ((impl_MirrorWord.f t475).bind fun bt488 => ((spec_MirrorWord.f k t475).bind fun bt490 => (if (bt476.2 != bt480.2) = true then (laws_FnLettersTurned.j0 k l1 t475 bt476.1 bt476.2 bt488.1 true) else ((laws_dTexts.f k bt476.1 bt480.1).bind fun t492 => (if t492 = true then (if (bt484.2 != bt486.2) = true then (laws_FnLettersTurned.j0 k l1 t475 bt476.1 bt476.2 bt488.1 true) else (if (bt484.1 != bt486.1) = true then (laws_FnLettersTurned.j0 k l1 t475 bt476.1 bt476.2 bt488.1 true) else (if (bt488.2 != bt490.2) = true then (laws_FnLettersTurned.j0 k l1 t475 bt476.1 bt476.2 bt488.1 true) else (if bt488.1.toList = bt490.1.toList then ((impl_IsLetters.f t475).bind fun t493 => (laws_FnLettersTurned.j0 k l1 t475 bt476.1 bt476.2 bt488.1 (bt476.2 != t493))) else (laws_FnLettersTurned.j0 k l1 t475 bt476.1 bt476.2 bt488.1 true))))) else (laws_FnLettersTurned.j0 k l1 t475 bt476.1 bt476.2 bt488.1 true))))))))))))) = some r := h
 clear h
 replace H := Option.bind_eq_some_iff.mp H
 obtain ⟨t474, A30, H⟩ := H
 replace H : (if t474 = true then (some true) else ((spec_DrawTurnsOf.f k l0).bind fun t475 => ((impl_TurnsOf.f k t475).bind fun bt476 => ((spec_TurnsOf.f k t475).bind fun bt480 => ((impl_IsBalanced.f k t475).bind fun bt484 => ((spec_IsBalanced.f k t475).bind fun bt486 => ((impl_MirrorWord.f t475).bind fun bt488 => ((spec_MirrorWord.f k t475).bind fun bt490 => (if (bt476.2 != bt480.2) = true then (laws_FnLettersTurned.j0 k l1 t475 bt476.1 bt476.2 bt488.1 true) else ((laws_dTexts.f k bt476.1 bt480.1).bind fun t492 => (if t492 = true then (if (bt484.2 != bt486.2) = true then (laws_FnLettersTurned.j0 k l1 t475 bt476.1 bt476.2 bt488.1 true) else (if (bt484.1 != bt486.1) = true then (laws_FnLettersTurned.j0 k l1 t475 bt476.1 bt476.2 bt488.1 true) else (if (bt488.2 != bt490.2) = true then (laws_FnLettersTurned.j0 k l1 t475 bt476.1 bt476.2 bt488.1 true) else (if bt488.1.toList = bt490.1.toList then ((impl_IsLetters.f t475).bind fun t493 => (laws_FnLettersTurned.j0 k l1 t475 bt476.1 bt476.2 bt488.1 (bt476.2 != t493))) else (laws_FnLettersTurned.j0 k l1 t475 bt476.1 bt476.2 bt488.1 true))))) else (laws_FnLettersTurned.j0 k l1 t475 bt476.1 bt476.2 bt488.1 true)))))))))))) = some r := H
 have A3 := Aside0.mk A30
 clear A30
 by_cases c4 : t474 = true
 ·subst c4
  have H1 : (some true) = some r := by rw [if_pos rfl] at H; exact H
  clear H; have H := H1; clear H1
  obtain rfl := Option.some.inj H
  go_enter Try.func13, Try.ntmps13
  go_wp2_with (first | (go_at_call 35; (with_reducible refine (laws_big.calls _ _ l0 _ _ l1 true _ ?side1 ?side2 ?side3 ?side4 A3.out).mono ?_); (case side1 => repeat (first | exact HR0.out | (with_reducible refine Kd.C_alloc ?_ _) | (with_reducible refine Kd.C_drewN ?_ _) | (with_reducible refine Kd.C_drew ?_))); (case side2 => exact HC0.out); (case side3 => repeat (first | exact HR1.out | (with_reducible refine Kd.C_alloc ?_ _) | (with_reducible refine Kd.C_drewN ?_ _) | (with_reducible refine Kd.C_drew ?_))); (case side4 => exact HC1.out); rintro e w' ⟨rfl, ⟨nd, rfl⟩⟩; (try first | exact ⟨rfl, _, World.drewN_drewN _ _ _⟩ | exact ⟨rfl, _, Eq.trans (World.drewN_drewN _ _ _) (congrArg (World.drewN _) (Nat.add_assoc _ _ _))⟩)))
  repeat (go_quiet (first | (go_at_call 35; (with_reducible refine (laws_big.calls _ _ l0 _ _ l1 true _ ?side1 ?side2 ?side3 ?side4 A3.out).mono ?_); (case side1 => repeat (first | exact HR0.out | (with_reducible refine Kd.C_alloc ?_ _) | (with_reducible refine Kd.C_drewN ?_ _) | (with_reducible refine Kd.C_drew ?_))); (case side2 => exact HC0.out); (case side3 => repeat (first | exact HR1.out | (with_reducible refine Kd.C_alloc ?_ _) | (with_reducible refine Kd.C_drewN ?_ _) | (with_reducible refine Kd.C_drew ?_))); (case side4 => exact HC1.out); rintro e w' ⟨rfl, ⟨nd, rfl⟩⟩; (try first | exact ⟨rfl, _, World.drewN_drewN _ _ _⟩ | exact ⟨rfl, _, Eq.trans (World.drewN_drewN _ _ _) (congrArg (World.drewN _) (Nat.add_assoc _ _ _))⟩))); try go_wp2_with (first | (go_at_call 35; (with_reducible refine (laws_big.calls _ _ l0 _ _ l1 true _ ?side1 ?side2 ?side3 ?side4 A3.out).mono ?_); (case side1 => repeat (first | exact HR0.out | (with_reducible refine Kd.C_alloc ?_ _) | (with_reducible refine Kd.C_drewN ?_ _) | (with_reducible refine Kd.C_drew ?_))); (case side2 => exact HC0.out); (case side3 => repeat (first | exact HR1.out | (with_reducible refine Kd.C_alloc ?_ _) | (with_reducible refine Kd.C_drewN ?_ _) | (with_reducible refine Kd.C_drew ?_))); (case side4 => exact HC1.out); rintro e w' ⟨rfl, ⟨nd, rfl⟩⟩; (try first | exact ⟨rfl, _, World.drewN_drewN _ _ _⟩ | exact ⟨rfl, _, Eq.trans (World.drewN_drewN _ _ _) (congrArg (World.drewN _) (Nat.add_assoc _ _ _))⟩))))
  go_ret
  exact ⟨by first | rfl | (simp [errW_none, errW_some] <;> rfl) | (simp [*, errW_none, errW_some] <;> rfl), by repeat (first | (with_reducible first | exact HB.out | apply below_alloc | apply pw_below_drewN | apply below_drew1) | exact HB.out)⟩
 ·as_aux_lemma =>
  replace c4 := Bool.eq_false_iff.mpr c4
  subst c4
  have H1 : ((spec_DrawTurnsOf.f k l0).bind fun t475 => ((impl_TurnsOf.f k t475).bind fun bt476 => ((spec_TurnsOf.f k t475).bind fun bt480 => ((impl_IsBalanced.f k t475).bind fun bt484 => ((spec_IsBalanced.f k t475).bind fun bt486 => ((impl_MirrorWord.f t475).bind fun bt488 => ((spec_MirrorWord.f k t475).bind fun bt490 => (if (bt476.2 != bt480.2) = true then (laws_FnLettersTurned.j0 k l1 t475 bt476.1 bt476.2 bt488.1 true) else ((laws_dTexts.f k bt476.1 bt480.1).bind fun t492 => (if t492 = true then (if (bt484.2 != bt486.2) = true then (laws_FnLettersTurned.j0 k l1 t475 bt476.1 bt476.2 bt488.1 true) else (if (bt484.1 != bt486.1) = true then (laws_FnLettersTurned.j0 k l1 t475 bt476.1 bt476.2 bt488.1 true) else (if (bt488.2 != bt490.2) = true then (laws_FnLettersTurned.j0 k l1 t475 bt476.1 bt476.2 bt488.1 true) else (if bt488.1.toList = bt490.1.toList then ((impl_IsLetters.f t475).bind fun t493 => (laws_FnLettersTurned.j0 k l1 t475 bt476.1 bt476.2 bt488.1 (bt476.2 != t493))) else (laws_FnLettersTurned.j0 k l1 t475 bt476.1 bt476.2 bt488.1 true))))) else (laws_FnLettersTurned.j0 k l1 t475 bt476.1 bt476.2 bt488.1 true))))))))))) = some r := by rw [if_neg (show ¬ (false = true) by decide)] at H; exact H
  clear H; have H := H1; clear H1
  replace H := Option.bind_eq_some_iff.mp H
  obtain ⟨t475, A50, H⟩ := H
  replace H : ((impl_TurnsOf.f k t475).bind fun bt476 => ((spec_TurnsOf.f k t475).bind fun bt480 => ((impl_IsBalanced.f k t475).bind fun bt484 => ((spec_IsBalanced.f k t475).bind fun bt486 => ((impl_MirrorWord.f t475).bind fun bt488 => ((spec_MirrorWord.f k t475).bind fun bt490 => (if (bt476.2 != bt480.2) = true then (laws_FnLettersTurned.j0 k l1 t475 bt476.1 bt476.2 bt488.1 true) else ((laws_dTexts.f k bt476.1 bt480.1).bind fun t492 => (if t492 = true then (if (bt484.2 != bt486.2) = true then (laws_FnLettersTurned.j0 k l1 t475 bt476.1 bt476.2 bt488.1 true) else (if (bt484.1 != bt486.1) = true then (laws_FnLettersTurned.j0 k l1 t475 bt476.1 bt476.2 bt488.1 true) else (if (bt488.2 != bt490.2) = true then (laws_FnLettersTurned.j0 k l1 t475 bt476.1 bt476.2 bt488.1 true) else (if bt488.1.toList = bt490.1.toList then ((impl_IsLetters.f t475).bind fun t493 => (laws_FnLettersTurned.j0 k l1 t475 bt476.1 bt476.2 bt488.1 (bt476.2 != t493))) else (laws_FnLettersTurned.j0 k l1 t475 bt476.1 bt476.2 bt488.1 true))))) else (laws_FnLettersTurned.j0 k l1 t475 bt476.1 bt476.2 bt488.1 true)))))))))) = some r := H
  have A5 := Aside0.mk A50
  clear A50
  replace H := Option.bind_eq_some_iff.mp H
  obtain ⟨⟨t476, t477⟩, A60, H⟩ := H
  replace H : ((spec_TurnsOf.f k t475).bind fun bt480 => ((impl_IsBalanced.f k t475).bind fun bt484 => ((spec_IsBalanced.f k t475).bind fun bt486 => ((impl_MirrorWord.f t475).bind fun bt488 => ((spec_MirrorWord.f k t475).bind fun bt490 => (if (t477 != bt480.2) = true then (laws_FnLettersTurned.j0 k l1 t475 t476 t477 bt488.1 true) else ((laws_dTexts.f k t476 bt480.1).bind fun t492 => (if t492 = true then (if (bt484.2 != bt486.2) = true then (laws_FnLettersTurned.j0 k l1 t475 t476 t477 bt488.1 true) else (if (bt484.1 != bt486.1) = true then (laws_FnLettersTurned.j0 k l1 t475 t476 t477 bt488.1 true) else (if (bt488.2 != bt490.2) = true then (laws_FnLettersTurned.j0 k l1 t475 t476 t477 bt488.1 true) else (if bt488.1.toList = bt490.1.toList then ((impl_IsLetters.f t475).bind fun t493 => (laws_FnLettersTurned.j0 k l1 t475 t476 t477 bt488.1 (t477 != t493))) else (laws_FnLettersTurned.j0 k l1 t475 t476 t477 bt488.1 true))))) else (laws_FnLettersTurned.j0 k l1 t475 t476 t477 bt488.1 true))))))))) = some r := H
  have A6 := Aside0.mk A60
  clear A60
  replace H := Option.bind_eq_some_iff.mp H
  obtain ⟨⟨t480, t481⟩, A70, H⟩ := H
  replace H : ((impl_IsBalanced.f k t475).bind fun bt484 => ((spec_IsBalanced.f k t475).bind fun bt486 => ((impl_MirrorWord.f t475).bind fun bt488 => ((spec_MirrorWord.f k t475).bind fun bt490 => (if (t477 != t481) = true then (laws_FnLettersTurned.j0 k l1 t475 t476 t477 bt488.1 true) else ((laws_dTexts.f k t476 t480).bind fun t492 => (if t492 = true then (if (bt484.2 != bt486.2) = true then (laws_FnLettersTurned.j0 k l1 t475 t476 t477 bt488.1 true) else (if (bt484.1 != bt486.1) = true then (laws_FnLettersTurned.j0 k l1 t475 t476 t477 bt488.1 true) else (if (bt488.2 != bt490.2) = true then (laws_FnLettersTurned.j0 k l1 t475 t476 t477 bt488.1 true) else (if bt488.1.toList = bt490.1.toList then ((impl_IsLetters.f t475).bind fun t493 => (laws_FnLettersTurned.j0 k l1 t475 t476 t477 bt488.1 (t477 != t493))) else (laws_FnLettersTurned.j0 k l1 t475 t476 t477 bt488.1 true))))) else (laws_FnLettersTurned.j0 k l1 t475 t476 t477 bt488.1 true)))))))) = some r := H
  have A7 := Aside0.mk A70
  clear A70
  replace H := Option.bind_eq_some_iff.mp H
  obtain ⟨⟨t484, t485⟩, A80, H⟩ := H
  replace H : ((spec_IsBalanced.f k t475).bind fun bt486 => ((impl_MirrorWord.f t475).bind fun bt488 => ((spec_MirrorWord.f k t475).bind fun bt490 => (if (t477 != t481) = true then (laws_FnLettersTurned.j0 k l1 t475 t476 t477 bt488.1 true) else ((laws_dTexts.f k t476 t480).bind fun t492 => (if t492 = true then (if (t485 != bt486.2) = true then (laws_FnLettersTurned.j0 k l1 t475 t476 t477 bt488.1 true) else (if (t484 != bt486.1) = true then (laws_FnLettersTurned.j0 k l1 t475 t476 t477 bt488.1 true) else (if (bt488.2 != bt490.2) = true then (laws_FnLettersTurned.j0 k l1 t475 t476 t477 bt488.1 true) else (if bt488.1.toList = bt490.1.toList then ((impl_IsLetters.f t475).bind fun t493 => (laws_FnLettersTurned.j0 k l1 t475 t476 t477 bt488.1 (t477 != t493))) else (laws_FnLettersTurned.j0 k l1 t475 t476 t477 bt488.1 true))))) else (laws_FnLettersTurned.j0 k l1 t475 t476 t477 bt488.1 true))))))) = some r := H
  have A8 := Aside0.mk A80
  clear A80
  replace H := Option.bind_eq_some_iff.mp H
  obtain ⟨⟨t486, t487⟩, A90, H⟩ := H
  replace H : ((impl_MirrorWord.f t475).bind fun bt488 => ((spec_MirrorWord.f k t475).bind fun bt490 => (if (t477 != t481) = true then (laws_FnLettersTurned.j0 k l1 t475 t476 t477 bt488.1 true) else ((laws_dTexts.f k t476 t480).bind fun t492 => (if t492 = true then (if (t485 != t487) = true then (laws_FnLettersTurned.j0 k l1 t475 t476 t477 bt488.1 true) else (if (t484 != t486) = true then (laws_FnLettersTurned.j0 k l1 t475 t476 t477 bt488.1 true) else (if (bt488.2 != bt490.2) = true then (laws_FnLettersTurned.j0 k l1 t475 t476 t477 bt488.1 true) else (if bt488.1.toList = bt490.1.toList then ((impl_IsLetters.f t475).bind fun t493 => (laws_FnLettersTurned.j0 k l1 t475 t476 t477 bt488.1 (t477 != t493))) else (laws_FnLettersTurned.j0 k l1 t475 t476 t477 bt488.1 true))))) else (laws_FnLettersTurned.j0 k l1 t475 t476 t477 bt488.1 true)))))) = some r := H
  have A9 := Aside0.mk A90
  clear A90
  replace H := Option.bind_eq_some_iff.mp H
  obtain ⟨⟨t488, t489⟩, A100, H⟩ := H
  replace H : ((spec_MirrorWord.f k t475).bind fun bt490 => (if (t477 != t481) = true then (laws_FnLettersTurned.j0 k l1 t475 t476 t477 t488 true) else ((laws_dTexts.f k t476 t480).bind fun t492 => (if t492 = true then (if (t485 != t487) = true then (laws_FnLettersTurned.j0 k l1 t475 t476 t477 t488 true) else (if (t484 != t486) = true then (laws_FnLettersTurned.j0 k l1 t475 t476 t477 t488 true) else (if (t489 != bt490.2) = true then (laws_FnLettersTurned.j0 k l1 t475 t476 t477 t488 true) else (if t488.toList = bt490.1.toList then ((impl_IsLetters.f t475).bind fun t493 => (laws_FnLettersTurned.j0 k l1 t475 t476 t477 t488 (t477 != t493))) else (laws_FnLettersTurned.j0 k l1 t475 t476 t477 t488 true))))) else (laws_FnLettersTurned.j0 k l1 t475 t476 t477 t488 true))))) = some r := H
  have A10 := Aside0.mk A100
  clear A100
  replace H := Option.bind_eq_some_iff.mp H
  obtain ⟨⟨t490, t491⟩, A110, H⟩ := H
  replace H : (if (t477 != t481) = true then (laws_FnLettersTurned.j0 k l1 t475 t476 t477 t488 true) else ((laws_dTexts.f k t476 t480).bind fun t492 => (if t492 = true then (if (t485 != t487) = true then (laws_FnLettersTurned.j0 k l1 t475 t476 t477 t488 true) else (if (t484 != t486) = true then (laws_FnLettersTurned.j0 k l1 t475 t476 t477 t488 true) else (if (t489 != t491) = true then (laws_FnLettersTurned.j0 k l1 t475 t476 t477 t488 true) else (if t488.toList = t490.toList then ((impl_IsLetters.f t475).bind fun t493 => (laws_FnLettersTurned.j0 k l1 t475 t476 t477 t488 (t477 != t493))) else (laws_FnLettersTurned.j0 k l1 t475 t476 t477 t488 true))))) else (laws_FnLettersTurned.j0 k l1 t475 t476 t477 t488 true)))) = some r := H
  have A11 := Aside0.mk A110
  clear A110
  have HC12 := Aside0.mk H
  clear H
  go_enter Try.func13, Try.ntmps13
  go_upto_region 10 with (first | (go_at_call 35; (with_reducible refine (laws_big.calls _ _ l0 _ _ l1 false _ ?side1 ?side2 ?side3 ?side4 A3.out).mono ?_); (case side1 => repeat (first | exact HR0.out | (with_reducible refine Kd.C_alloc ?_ _) | (with_reducible refine Kd.C_drewN ?_ _) | (with_reducible refine Kd.C_drew ?_))); (case side2 => exact HC0.out); (case side3 => repeat (first | exact HR1.out | (with_reducible refine Kd.C_alloc ?_ _) | (with_reducible refine Kd.C_drewN ?_ _) | (with_reducible refine Kd.C_drew ?_))); (case side4 => exact HC1.out); rintro e w' ⟨rfl, ⟨nd, rfl⟩⟩; (try first | exact ⟨rfl, _, World.drewN_drewN _ _ _⟩ | exact ⟨rfl, _, Eq.trans (World.drewN_drewN _ _ _) (congrArg (World.drewN _) (Nat.add_assoc _ _ _))⟩)) | (go_at_call 42; (with_reducible refine (spec_DrawTurnsOf.calls k _ _ l0 t475 _ ?side1 ?side2 A5.out).mono ?_); (case side1 => repeat (first | exact HR0.out | (with_reducible refine Kd.C_alloc ?_ _) | (with_reducible refine Kd.C_drewN ?_ _) | (with_reducible refine Kd.C_drew ?_))); (case side2 => exact HC0.out); rintro e w13 ⟨rfl, hb⟩; have n0_ := Aside0.mk (below_step (by repeat (first | (with_reducible first | exact HB.out | apply below_alloc | apply pw_below_drewN | apply below_drew1) | exact HB.out)) hb); clear HB; have HB := n0_; clear n0_; (try clear hb); (try clear hb2); (try clear hk); (try clear hi)) | (go_at_call 34; (with_reducible refine (impl_TurnsOf.calls k t475 t476 t477 _ A6.out).mono ?_); rintro e w14 ⟨v478, rfl, ho0, hb⟩; have n0_ := Aside0.mk (Kd.R_lower ho0 (below_size (by repeat (first | (with_reducible first | exact HB.out | apply below_alloc | apply pw_below_drewN | apply below_drew1) | exact HB.out)))); have n1_ := Aside0.mk (below_step (by repeat (first | (with_reducible first | exact HB.out | apply below_alloc | apply pw_below_drewN | apply below_drew1) | exact HB.out)) hb); clear HB; have HO479 := n0_; have HB := n1_; clear n0_ n1_; (try clear hb); (try clear hb2); (try clear hk); (try clear hi); (try clear ho0)) | (go_at_call 33; (with_reducible refine (spec_TurnsOf.calls k t475 t480 t481 _ A7.out).mono ?_); rintro e w15 ⟨v482, rfl, ho0, hb⟩; have n0_ := Aside0.mk (Kd.R_elder' (by (with_reducible repeat (first | apply Kd.R_alloc | apply Kd.R_drewN | apply Kd.R_drew)); exact HO479.out) (Kd.R_base ho0) hb); have n1_ := Aside0.mk (Kd.R_lower (Kd.R_new' ho0 (Kd.R_lt (by (with_reducible repeat (first | apply Kd.R_alloc | apply Kd.R_drewN | apply Kd.R_drew)); exact HO479.out))) (below_size (by repeat (first | (with_reducible first | exact HB.out | apply below_alloc | apply pw_below_drewN | apply below_drew1) | exact HB.out)))); have n2_ := Aside0.mk (below_step (by repeat (first | (with_reducible first | exact HB.out | apply below_alloc | apply pw_below_drewN | apply below_drew1) | exact HB.out)) hb); clear HO479; clear HB; have HO479 := n0_; have HO483 := n1_; have HB := n2_; clear n0_ n1_ n2_; (try clear hb); (try clear hb2); (try clear hk); (try clear hi); (try clear ho0)) | (go_at_call 17; (with_reducible refine (impl_IsBalanced.calls k t475 t484 t485 _ A8.out).mono ?_); rintro e w16 ⟨rfl, hb⟩; have n0_ := Aside0.mk (Kd.R_below (by (with_reducible repeat (first | apply Kd.R_alloc | apply Kd.R_drewN | apply Kd.R_drew)); exact HO479.out) hb); have n1_ := Aside0.mk (Kd.R_below (by (with_reducible repeat (first | apply Kd.R_alloc | apply Kd.R_drewN | apply Kd.R_drew)); exact HO483.out) hb); have n2_ := Aside0.mk (below_step (by repeat (first | (with_reducible first | exact HB.out | apply below_alloc | apply pw_below_drewN | apply below_drew1) | exact HB.out)) hb); clear HO479; clear HO483; clear HB; have HO479 := n0_; have HO483 := n1_; have HB := n2_; clear n0_ n1_ n2_; (try clear hb); (try clear hb2); (try clear hk); (try clear hi)) | (go_at_call 16; (with_reducible refine (spec_IsBalanced.calls k t475 t486 t487 _ A9.out).mono ?_); rintro e w' ⟨rfl, ⟨nd, rfl⟩⟩; (try first | exact ⟨rfl, _, World.drewN_drewN _ _ _⟩ | exact ⟨rfl, _, Eq.trans (World.drewN_drewN _ _ _) (congrArg (World.drewN _) (Nat.add_assoc _ _ _))⟩)) | (go_at_call 39; (with_reducible refine (impl_MirrorWord.calls t475 t488 t489 _ A10.out).mono ?_); rintro e w17 ⟨rfl, hb⟩; have n0_ := Aside0.mk (Kd.R_below (by (with_reducible repeat (first | apply Kd.R_alloc | apply Kd.R_drewN | apply Kd.R_drew)); exact HO479.out) hb); have n1_ := Aside0.mk (Kd.R_below (by (with_reducible repeat (first | apply Kd.R_alloc | apply Kd.R_drewN | apply Kd.R_drew)); exact HO483.out) hb); have n2_ := Aside0.mk (below_step (by repeat (first | (with_reducible first | exact HB.out | apply below_alloc | apply pw_below_drewN | apply below_drew1) | exact HB.out)) hb); clear HO479; clear HO483; clear HB; have HO479 := n0_; have HO483 := n1_; have HB := n2_; clear n0_ n1_ n2_; (try clear hb); (try clear hb2); (try clear hk); (try clear hi)) | (go_at_call 43; (with_reducible refine (spec_MirrorWord.calls k t475 t490 t491 _ A11.out).mono ?_); rintro e w' ⟨rfl, ⟨nd, rfl⟩⟩; (try first | exact ⟨rfl, _, World.drewN_drewN _ _ _⟩ | exact ⟨rfl, _, Eq.trans (World.drewN_drewN _ _ _) (congrArg (World.drewN _) (Nat.add_assoc _ _ _))⟩)))
  repeat (go_quiet (first | (go_at_call 35; (with_reducible refine (laws_big.calls _ _ l0 _ _ l1 false _ ?side1 ?side2 ?side3 ?side4 A3.out).mono ?_); (case side1 => repeat (first | exact HR0.out | (with_reducible refine Kd.C_alloc ?_ _) | (with_reducible refine Kd.C_drewN ?_ _) | (with_reducible refine Kd.C_drew ?_))); (case side2 => exact HC0.out); (case side3 => repeat (first | exact HR1.out | (with_reducible refine Kd.C_alloc ?_ _) | (with_reducible refine Kd.C_drewN ?_ _) | (with_reducible refine Kd.C_drew ?_))); (case side4 => exact HC1.out); rintro e w' ⟨rfl, ⟨nd, rfl⟩⟩; (try first | exact ⟨rfl, _, World.drewN_drewN _ _ _⟩ | exact ⟨rfl, _, Eq.trans (World.drewN_drewN _ _ _) (congrArg (World.drewN _) (Nat.add_assoc _ _ _))⟩)) | (go_at_call 42; (with_reducible refine (spec_DrawTurnsOf.calls k _ _ l0 t475 _ ?side1 ?side2 A5.out).mono ?_); (case side1 => repeat (first | exact HR0.out | (with_reducible refine Kd.C_alloc ?_ _) | (with_reducible refine Kd.C_drewN ?_ _) | (with_reducible refine Kd.C_drew ?_))); (case side2 => exact HC0.out); rintro e w13 ⟨rfl, hb⟩; have n0_ := Aside0.mk (below_step (by repeat (first | (with_reducible first | exact HB.out | apply below_alloc | apply pw_below_drewN | apply below_drew1) | exact HB.out)) hb); clear HB; have HB := n0_; clear n0_; (try clear hb); (try clear hb2); (try clear hk); (try clear hi)) | (go_at_call 34; (with_reducible refine (impl_TurnsOf.calls k t475 t476 t477 _ A6.out).mono ?_); rintro e w14 ⟨v478, rfl, ho0, hb⟩; have n0_ := Aside0.mk (Kd.R_lower ho0 (below_size (by repeat (first | (with_reducible first | exact HB.out | apply below_alloc | apply pw_below_drewN | apply below_drew1) | exact HB.out)))); have n1_ := Aside0.mk (below_step (by repeat (first | (with_reducible first | exact HB.out | apply below_alloc | apply pw_below_drewN | apply below_drew1) | exact HB.out)) hb); clear HB; have HO479 := n0_; have HB := n1_; clear n0_ n1_; (try clear hb); (try clear hb2); (try clear hk); (try clear hi); (try clear ho0)) | (go_at_call 33; (with_reducible refine (spec_TurnsOf.calls k t475 t480 t481 _ A7.out).mono ?_); rintro e w15 ⟨v482, rfl, ho0, hb⟩; have n0_ := Aside0.mk (Kd.R_elder' (by (with_reducible repeat (first | apply Kd.R_alloc | apply Kd.R_drewN | apply Kd.R_drew)); exact HO479.out) (Kd.R_base ho0) hb); have n1_ := Aside0.mk (Kd.R_lower (Kd.R_new' ho0 (Kd.R_lt (by (with_reducible repeat (first | apply Kd.R_alloc | apply Kd.R_drewN | apply Kd.R_drew)); exact HO479.out))) (below_size (by repeat (first | (with_reducible first | exact HB.out | apply below_alloc | apply pw_below_drewN | apply below_drew1) | exact HB.out)))); have n2_ := Aside0.mk (below_step (by repeat (first | (with_reducible first | exact HB.out | apply below_alloc | apply pw_below_drewN | apply below_drew1) | exact HB.out)) hb); clear HO479; clear HB; have HO479 := n0_; have HO483 := n1_; have HB := n2_; clear n0_ n1_ n2_; (try clear hb); (try clear hb2); (try clear hk); (try clear hi); (try clear ho0)) | (go_at_call 17; (with_reducible refine (impl_IsBalanced.calls k t475 t484 t485 _ A8.out).mono ?_); rintro e w16 ⟨rfl, hb⟩; have n0_ := Aside0.mk (Kd.R_below (by (with_reducible repeat (first | apply Kd.R_alloc | apply Kd.R_drewN | apply Kd.R_drew)); exact HO479.out) hb); have n1_ := Aside0.mk (Kd.R_below (by (with_reducible repeat (first | apply Kd.R_alloc | apply Kd.R_drewN | apply Kd.R_drew)); exact HO483.out) hb); have n2_ := Aside0.mk (below_step (by repeat (first | (with_reducible first | exact HB.out | apply below_alloc | apply pw_below_drewN | apply below_drew1) | exact HB.out)) hb); clear HO479; clear HO483; clear HB; have HO479 := n0_; have HO483 := n1_; have HB := n2_; clear n0_ n1_ n2_; (try clear hb); (try clear hb2); (try clear hk); (try clear hi)) | (go_at_call 16; (with_reducible refine (spec_IsBalanced.calls k t475 t486 t487 _ A9.out).mono ?_); rintro e w' ⟨rfl, ⟨nd, rfl⟩⟩; (try first | exact ⟨rfl, _, World.drewN_drewN _ _ _⟩ | exact ⟨rfl, _, Eq.trans (World.drewN_drewN _ _ _) (congrArg (World.drewN _) (Nat.add_assoc _ _ _))⟩)) | (go_at_call 39; (with_reducible refine (impl_MirrorWord.calls t475 t488 t489 _ A10.out).mono ?_); rintro e w17 ⟨rfl, hb⟩; have n0_ := Aside0.mk (Kd.R_below (by (with_reducible repeat (first | apply Kd.R_alloc | apply Kd.R_drewN | apply Kd.R_drew)); exact HO479.out) hb); have n1_ := Aside0.mk (Kd.R_below (by (with_reducible repeat (first | apply Kd.R_alloc | apply Kd.R_drewN | apply Kd.R_drew)); exact HO483.out) hb); have n2_ := Aside0.mk (below_step (by repeat (first | (with_reducible first | exact HB.out | apply below_alloc | apply pw_below_drewN | apply below_drew1) | exact HB.out)) hb); clear HO479; clear HO483; clear HB; have HO479 := n0_; have HO483 := n1_; have HB := n2_; clear n0_ n1_ n2_; (try clear hb); (try clear hb2); (try clear hk); (try clear hi)) | (go_at_call 43; (with_reducible refine (spec_MirrorWord.calls k t475 t490 t491 _ A11.out).mono ?_); rintro e w' ⟨rfl, ⟨nd, rfl⟩⟩; (try first | exact ⟨rfl, _, World.drewN_drewN _ _ _⟩ | exact ⟨rfl, _, Eq.trans (World.drewN_drewN _ _ _) (congrArg (World.drewN _) (Nat.add_assoc _ _ _))⟩))); go_upto_region 10 with (first | (go_at_call 35; (with_reducible refine (laws_big.calls _ _ l0 _ _ l1 false _ ?side1 ?side2 ?side3 ?side4 A3.out).mono ?_); (case side1 => repeat (first | exact HR0.out | (with_reducible refine Kd.C_alloc ?_ _) | (with_reducible refine Kd.C_drewN ?_ _) | (with_reducible refine Kd.C_drew ?_))); (case side2 => exact HC0.out); (case side3 => repeat (first | exact HR1.out | (with_reducible refine Kd.C_alloc ?_ _) | (with_reducible refine Kd.C_drewN ?_ _) | (with_reducible refine Kd.C_drew ?_))); (case side4 => exact HC1.out); rintro e w' ⟨rfl, ⟨nd, rfl⟩⟩; (try first | exact ⟨rfl, _, World.drewN_drewN _ _ _⟩ | exact ⟨rfl, _, Eq.trans (World.drewN_drewN _ _ _) (congrArg (World.drewN _) (Nat.add_assoc _ _ _))⟩)) | (go_at_call 42; (with_reducible refine (spec_DrawTurnsOf.calls k _ _ l0 t475 _ ?side1 ?side2 A5.out).mono ?_); (case side1 => repeat (first | exact HR0.out | (with_reducible refine Kd.C_alloc ?_ _) | (with_reducible refine Kd.C_drewN ?_ _) | (with_reducible refine Kd.C_drew ?_))); (case side2 => exact HC0.out); rintro e w13 ⟨rfl, hb⟩; have n0_ := Aside0.mk (below_step (by repeat (first | (with_reducible first | exact HB.out | apply below_alloc | apply pw_below_drewN | apply below_drew1) | exact HB.out)) hb); clear HB; have HB := n0_; clear n0_; (try clear hb); (try clear hb2); (try clear hk); (try clear hi)) | (go_at_call 34; (with_reducible refine (impl_TurnsOf.calls k t475 t476 t477 _ A6.out).mono ?_); rintro e w14 ⟨v478, rfl, ho0, hb⟩; have n0_ := Aside0.mk (Kd.R_lower ho0 (below_size (by repeat (first | (with_reducible first | exact HB.out | apply below_alloc | apply pw_below_drewN | apply below_drew1) | exact HB.out)))); have n1_ := Aside0.mk (below_step (by repeat (first | (with_reducible first | exact HB.out | apply below_alloc | apply pw_below_drewN | apply below_drew1) | exact HB.out)) hb); clear HB; have HO479 := n0_; have HB := n1_; clear n0_ n1_; (try clear hb); (try clear hb2); (try clear hk); (try clear hi); (try clear ho0)) | (go_at_call 33; (with_reducible refine (spec_TurnsOf.calls k t475 t480 t481 _ A7.out).mono ?_); rintro e w15 ⟨v482, rfl, ho0, hb⟩; have n0_ := Aside0.mk (Kd.R_elder' (by (with_reducible repeat (first | apply Kd.R_alloc | apply Kd.R_drewN | apply Kd.R_drew)); exact HO479.out) (Kd.R_base ho0) hb); have n1_ := Aside0.mk (Kd.R_lower (Kd.R_new' ho0 (Kd.R_lt (by (with_reducible repeat (first | apply Kd.R_alloc | apply Kd.R_drewN | apply Kd.R_drew)); exact HO479.out))) (below_size (by repeat (first | (with_reducible first | exact HB.out | apply below_alloc | apply pw_below_drewN | apply below_drew1) | exact HB.out)))); have n2_ := Aside0.mk (below_step (by repeat (first | (with_reducible first | exact HB.out | apply below_alloc | apply pw_below_drewN | apply below_drew1) | exact HB.out)) hb); clear HO479; clear HB; have HO479 := n0_; have HO483 := n1_; have HB := n2_; clear n0_ n1_ n2_; (try clear hb); (try clear hb2); (try clear hk); (try clear hi); (try clear ho0)) | (go_at_call 17; (with_reducible refine (impl_IsBalanced.calls k t475 t484 t485 _ A8.out).mono ?_); rintro e w16 ⟨rfl, hb⟩; have n0_ := Aside0.mk (Kd.R_below (by (with_reducible repeat (first | apply Kd.R_alloc | apply Kd.R_drewN | apply Kd.R_drew)); exact HO479.out) hb); have n1_ := Aside0.mk (Kd.R_below (by (with_reducible repeat (first | apply Kd.R_alloc | apply Kd.R_drewN | apply Kd.R_drew)); exact HO483.out) hb); have n2_ := Aside0.mk (below_step (by repeat (first | (with_reducible first | exact HB.out | apply below_alloc | apply pw_below_drewN | apply below_drew1) | exact HB.out)) hb); clear HO479; clear HO483; clear HB; have HO479 := n0_; have HO483 := n1_; have HB := n2_; clear n0_ n1_ n2_; (try clear hb); (try clear hb2); (try clear hk); (try clear hi)) | (go_at_call 16; (with_reducible refine (spec_IsBalanced.calls k t475 t486 t487 _ A9.out).mono ?_); rintro e w' ⟨rfl, ⟨nd, rfl⟩⟩; (try first | exact ⟨rfl, _, World.drewN_drewN _ _ _⟩ | exact ⟨rfl, _, Eq.trans (World.drewN_drewN _ _ _) (congrArg (World.drewN _) (Nat.add_assoc _ _ _))⟩)) | (go_at_call 39; (with_reducible refine (impl_MirrorWord.calls t475 t488 t489 _ A10.out).mono ?_); rintro e w17 ⟨rfl, hb⟩; have n0_ := Aside0.mk (Kd.R_below (by (with_reducible repeat (first | apply Kd.R_alloc | apply Kd.R_drewN | apply Kd.R_drew)); exact HO479.out) hb); have n1_ := Aside0.mk (Kd.R_below (by (with_reducible repeat (first | apply Kd.R_alloc | apply Kd.R_drewN | apply Kd.R_drew)); exact HO483.out) hb); have n2_ := Aside0.mk (below_step (by repeat (first | (with_reducible first | exact HB.out | apply below_alloc | apply pw_below_drewN | apply below_drew1) | exact HB.out)) hb); clear HO479; clear HO483; clear HB; have HO479 := n0_; have HO483 := n1_; have HB := n2_; clear n0_ n1_ n2_; (try clear hb); (try clear hb2); (try clear hk); (try clear hi)) | (go_at_call 43; (with_reducible refine (spec_MirrorWord.calls k t475 t490 t491 _ A11.out).mono ?_); rintro e w' ⟨rfl, ⟨nd, rfl⟩⟩; (try first | exact ⟨rfl, _, World.drewN_drewN _ _ _⟩ | exact ⟨rfl, _, Eq.trans (World.drewN_drewN _ _ _) (congrArg (World.drewN _) (Nat.add_assoc _ _ _))⟩))))
  (try simp only [Act.put, List.setIfInBounds_toArray, List.set_cons_zero, List.set_cons_succ])
  go_cut [118] (fun v118 wc => ∃ (kq : Nat) (x118_11 : Bool), v118 = .bool x118_11 ∧ Aside0 (laws_FnLettersTurned.j0 kq l1 t475 t476 t477 t488 x118_11 = some r) ∧ Aside0 (kq ≤ k) ∧ Aside0 (Kd.R Kd.string 9 wc w.heap.size (fun _ => True) v478 t476) ∧ Aside0 (Below w.heap.size w wc))
  case first => as_aux_lemma =>
   have H := HC12.out; clear HC12
   by_cases c18 : (t477 != t481) = true
   ·as_aux_lemma =>
    rw [if_pos c18] at H
    have c18b0 : (t477 != t481) = true := c18
    (try (have c18b1 : decide (t477 = t481) = false := by simpa using c18))
    (try (have c18b2 : (t477 == t481) = false := by simpa using c18))
    (try (have c18b3 : ¬ (t477 = t481) := by simpa using c18))
    clear c18
    (first | rw [c18b0] | (simp only [i64_w, i32_w]; rw [c18b0]) | skip)
    have H' := Aside0.mk H
    clear H
    go_wp2
    repeat (go_quiet (fail); try go_wp2)
    go_meet
    case rel => exact ⟨_, (true), (by first | rfl | (simp; done) | (simp [*]; done)), H', ⟨by first | omega | exact Nat.le_refl _⟩, ⟨by (with_reducible repeat (first | apply Kd.R_alloc | apply Kd.R_drewN | apply Kd.R_drew)); exact Kd.R_mono HO479.out (fun _ hk => trivial)⟩, ⟨by repeat (first | (with_reducible first | exact HB.out | apply below_alloc | apply pw_below_drewN | apply below_drew1) | exact HB.out)⟩⟩
   ·as_aux_lemma =>
    rw [if_neg c18] at H
    have c18b0 : (t477 != t481) = false := by simpa using c18
    (try (have c18b1 : decide (t477 = t481) = true := by simpa using c18))
    (try (have c18b2 : (t477 == t481) = true := by simpa using c18))
    clear c18
    (first | rw [c18b0] | (simp only [i64_w, i32_w]; rw [c18b0]) | skip)
    replace H := Option.bind_eq_some_iff.mp H
    obtain ⟨t492, A190, H⟩ := H
    replace H : (if t492 = true then (if (t485 != t487) = true then (laws_FnLettersTurned.j0 k l1 t475 t476 t477 t488 true) else (if (t484 != t486) = true then (laws_FnLettersTurned.j0 k l1 t475 t476 t477 t488 true) else (if (t489 != t491) = true then (laws_FnLettersTurned.j0 k l1 t475 t476 t477 t488 true) else (if t488.toList = t490.toList then ((impl_IsLetters.f t475).bind fun t493 => (laws_FnLettersTurned.j0 k l1 t475 t476 t477 t488 (t477 != t493))) else (laws_FnLettersTurned.j0 k l1 t475 t476 t477 t488 true))))) else (laws_FnLettersTurned.j0 k l1 t475 t476 t477 t488 true)) = some r := H
    have A19 := Aside0.mk A190
    clear A190
    by_cases c20 : t492 = true
    ·as_aux_lemma =>
     subst c20
     have H1 : (if (t485 != t487) = true then (laws_FnLettersTurned.j0 k l1 t475 t476 t477 t488 true) else (if (t484 != t486) = true then (laws_FnLettersTurned.j0 k l1 t475 t476 t477 t488 true) else (if (t489 != t491) = true then (laws_FnLettersTurned.j0 k l1 t475 t476 t477 t488 true) else (if t488.toList = t490.toList then ((impl_IsLetters.f t475).bind fun t493 => (laws_FnLettersTurned.j0 k l1 t475 t476 t477 t488 (t477 != t493))) else (laws_FnLettersTurned.j0 k l1 t475 t476 t477 t488 true))))) = some r := by rw [if_pos rfl] at H; exact H
     clear H; have H := H1; clear H1
     by_cases c21 : (t485 != t487) = true
     ·as_aux_lemma =>
      rw [if_pos c21] at H
      have c21b0 : (t485 != t487) = true := c21
      (try (have c21b1 : decide (t485 = t487) = false := by simpa using c21))
      (try (have c21b2 : (t485 == t487) = false := by simpa using c21))
      (try (have c21b3 : ¬ (t485 = t487) := by simpa using c21))
      clear c21
      have H' := Aside0.mk H
      clear H
      obtain ⟨Ao22, co22, eo22⟩ := Kd.R_slice HO479.out
      subst eo22
      obtain ⟨Ao23, co23, eo23⟩ := Kd.R_slice HO483.out
      subst eo23
      go_wp2_with (first | (go_at_call 44; (with_reducible refine (laws_dTexts.calls k _ _ t476 _ _ t480 true _ ?side1 ?side2 ?side3 ?side4 A19.out).mono ?_); (case side1 => repeat (first | exact (Kd.R_reads' HO479.out).2.2 | (with_reducible refine Kd.C_alloc ?_ _) | (with_reducible refine Kd.C_drewN ?_ _) | (with_reducible refine Kd.C_drew ?_))); (case side2 => exact (Kd.R_reads' HO479.out).2.1); (case side3 => repeat (first | exact (Kd.R_reads' HO483.out).2.2 | (with_reducible refine Kd.C_alloc ?_ _) | (with_reducible refine Kd.C_drewN ?_ _) | (with_reducible refine Kd.C_drew ?_))); (case side4 => exact (Kd.R_reads' HO483.out).2.1); rintro e w' ⟨rfl, ⟨nd, rfl⟩⟩; (try first | exact ⟨rfl, _, World.drewN_drewN _ _ _⟩ | exact ⟨rfl, _, Eq.trans (World.drewN_drewN _ _ _) (congrArg (World.drewN _) (Nat.add_assoc _ _ _))⟩)))
      repeat (go_quiet (first | (go_at_call 44; (with_reducible refine (laws_dTexts.calls k _ _ t476 _ _ t480 true _ ?side1 ?side2 ?side3 ?side4 A19.out).mono ?_); (case side1 => repeat (first | exact (Kd.R_reads' HO479.out).2.2 | (with_reducible refine Kd.C_alloc ?_ _) | (with_reducible refine Kd.C_drewN ?_ _) | (with_reducible refine Kd.C_drew ?_))); (case side2 => exact (Kd.R_reads' HO479.out).2.1); (case side3 => repeat (first | exact (Kd.R_reads' HO483.out).2.2 | (with_reducible refine Kd.C_alloc ?_ _) | (with_reducible refine Kd.C_drewN ?_ _) | (with_reducible refine Kd.C_drew ?_))); (case side4 => exact (Kd.R_reads' HO483.out).2.1); rintro e w' ⟨rfl, ⟨nd, rfl⟩⟩; (try first | exact ⟨rfl, _, World.drewN_drewN _ _ _⟩ | exact ⟨rfl, _, Eq.trans (World.drewN_drewN _ _ _) (congrArg (World.drewN _) (Nat.add_assoc _ _ _))⟩))); try go_wp2_with (first | (go_at_call 44; (with_reducible refine (laws_dTexts.calls k _ _ t476 _ _ t480 true _ ?side1 ?side2 ?side3 ?side4 A19.out).mono ?_); (case side1 => repeat (first | exact (Kd.R_reads' HO479.out).2.2 | (with_reducible refine Kd.C_alloc ?_ _) | (with_reducible refine Kd.C_drewN ?_ _) | (with_reducible refine Kd.C_drew ?_))); (case side2 => exact (Kd.R_reads' HO479.out).2.1); (case side3 => repeat (first | exact (Kd.R_reads' HO483.out).2.2 | (with_reducible refine Kd.C_alloc ?_ _) | (with_reducible refine Kd.C_drewN ?_ _) | (with_reducible refine Kd.C_drew ?_))); (case side4 => exact (Kd.R_reads' HO483.out).2.1); rintro e w' ⟨rfl, ⟨nd, rfl⟩⟩; (try first | exact ⟨rfl, _, World.drewN_drewN _ _ _⟩ | exact ⟨rfl, _, Eq.trans (World.drewN_drewN _ _ _) (congrArg (World.drewN _) (Nat.add_assoc _ _ _))⟩))))
      go_meet
      case rel => exact ⟨_, (true), (by first | rfl | (simp; done) | (simp [*]; done)), H', ⟨by first | omega | exact Nat.le_refl _⟩, ⟨by (with_reducible repeat (first | apply Kd.R_alloc | apply Kd.R_drewN | apply Kd.R_drew)); exact Kd.R_mono HO479.out (fun _ hk => trivial)⟩, ⟨by repeat (first | (with_reducible first | exact HB.out | apply below_alloc | apply pw_below_drewN | apply below_drew1) | exact HB.out)⟩⟩
     ·as_aux_lemma =>
      rw [if_neg c21] at H
      have c21b0 : (t485 != t487) = false := by simpa using c21
      (try (have c21b1 : decide (t485 = t487) = true := by simpa using c21))
      (try (have c21b2 : (t485 == t487) = true := by simpa using c21))
      clear c21
      by_cases c24 : (t484 != t486) = true
      ·as_aux_lemma =>
       rw [if_pos c24] at H
       have c24b0 : (t484 != t486) = true := c24
       (try (have c24b1 : decide (t484 = t486) = false := by simpa using c24))
       (try (have c24b2 : (t484 == t486) = false := by simpa using c24))
       (try (have c24b3 : ¬ (t484 = t486) := by simpa using c24))
       clear c24
       have H' := Aside0.mk H
       clear H
       obtain ⟨Ao25, co25, eo25⟩ := Kd.R_slice HO479.out
       subst eo25
       obtain ⟨Ao26, co26, eo26⟩ := Kd.R_slice HO483.out
       subst eo26
       go_wp2_with (first | (go_at_call 44; (with_reducible refine (laws_dTexts.calls k _ _ t476 _ _ t480 true _ ?side1 ?side2 ?side3 ?side4 A19.out).mono ?_); (case side1 => repeat (first | exact (Kd.R_reads' HO479.out).2.2 | (with_reducible refine Kd.C_alloc ?_ _) | (with_reducible refine Kd.C_drewN ?_ _) | (with_reducible refine Kd.C_drew ?_))); (case side2 => exact (Kd.R_reads' HO479.out).2.1); (case side3 => repeat (first | exact (Kd.R_reads' HO483.out).2.2 | (with_reducible refine Kd.C_alloc ?_ _) | (with_reducible refine Kd.C_drewN ?_ _) | (with_reducible refine Kd.C_drew ?_))); (case side4 => exact (Kd.R_reads' HO483.out).2.1); rintro e w' ⟨rfl, ⟨nd, rfl⟩⟩; (try first | exact ⟨rfl, _, World.drewN_drewN _ _ _⟩ | exact ⟨rfl, _, Eq.trans (World.drewN_drewN _ _ _) (congrArg (World.drewN _) (Nat.add_assoc _ _ _))⟩)))
       repeat (go_quiet (first | (go_at_call 44; (with_reducible refine (laws_dTexts.calls k _ _ t476 _ _ t480 true _ ?side1 ?side2 ?side3 ?side4 A19.out).mono ?_); (case side1 => repeat (first | exact (Kd.R_reads' HO479.out).2.2 | (with_reducible refine Kd.C_alloc ?_ _) | (with_reducible refine Kd.C_drewN ?_ _) | (with_reducible refine Kd.C_drew ?_))); (case side2 => exact (Kd.R_reads' HO479.out).2.1); (case side3 => repeat (first | exact (Kd.R_reads' HO483.out).2.2 | (with_reducible refine Kd.C_alloc ?_ _) | (with_reducible refine Kd.C_drewN ?_ _) | (with_reducible refine Kd.C_drew ?_))); (case side4 => exact (Kd.R_reads' HO483.out).2.1); rintro e w' ⟨rfl, ⟨nd, rfl⟩⟩; (try first | exact ⟨rfl, _, World.drewN_drewN _ _ _⟩ | exact ⟨rfl, _, Eq.trans (World.drewN_drewN _ _ _) (congrArg (World.drewN _) (Nat.add_assoc _ _ _))⟩))); try go_wp2_with (first | (go_at_call 44; (with_reducible refine (laws_dTexts.calls k _ _ t476 _ _ t480 true _ ?side1 ?side2 ?side3 ?side4 A19.out).mono ?_); (case side1 => repeat (first | exact (Kd.R_reads' HO479.out).2.2 | (with_reducible refine Kd.C_alloc ?_ _) | (with_reducible refine Kd.C_drewN ?_ _) | (with_reducible refine Kd.C_drew ?_))); (case side2 => exact (Kd.R_reads' HO479.out).2.1); (case side3 => repeat (first | exact (Kd.R_reads' HO483.out).2.2 | (with_reducible refine Kd.C_alloc ?_ _) | (with_reducible refine Kd.C_drewN ?_ _) | (with_reducible refine Kd.C_drew ?_))); (case side4 => exact (Kd.R_reads' HO483.out).2.1); rintro e w' ⟨rfl, ⟨nd, rfl⟩⟩; (try first | exact ⟨rfl, _, World.drewN_drewN _ _ _⟩ | exact ⟨rfl, _, Eq.trans (World.drewN_drewN _ _ _) (congrArg (World.drewN _) (Nat.add_assoc _ _ _))⟩))))
       go_meet
       case rel => exact ⟨_, (true), (by first | rfl | (simp; done) | (simp [*]; done)), H', ⟨by first | omega | exact Nat.le_refl _⟩, ⟨by (with_reducible repeat (first | apply Kd.R_alloc | apply Kd.R_drewN | apply Kd.R_drew)); exact Kd.R_mono HO479.out (fun _ hk => trivial)⟩, ⟨by repeat (first | (with_reducible first | exact HB.out | apply below_alloc | apply pw_below_drewN | apply below_drew1) | exact HB.out)⟩⟩
      ·as_aux_lemma =>
       rw [if_neg c24] at H
       have c24b0 : (t484 != t486) = false := by simpa using c24
       (try (have c24b1 : decide (t484 = t486) = true := by simpa using c24))
       (try (have c24b2 : (t484 == t486) = true := by simpa using c24))
       clear c24
       by_cases c27 : (t489 != t491) = true
       ·as_aux_lemma =>
        rw [if_pos c27] at H
        have c27b0 : (t489 != t491) = true := c27
        (try (have c27b1 : decide (t489 = t491) = false := by simpa using c27))
        (try (have c27b2 : (t489 == t491) = false := by simpa using c27))
        (try (have c27b3 : ¬ (t489 = t491) := by simpa using c27))
        clear c27
        have H' := Aside0.mk H
        clear H
        obtain ⟨Ao28, co28, eo28⟩ := Kd.R_slice HO479.out
        subst eo28
        obtain ⟨Ao29, co29, eo29⟩ := Kd.R_slice HO483.out
        subst eo29
        go_wp2_with (first | (go_at_call 44; (with_reducible refine (laws_dTexts.calls k _ _ t476 _ _ t480 true _ ?side1 ?side2 ?side3 ?side4 A19.out).mono ?_); (case side1 => repeat (first | exact (Kd.R_reads' HO479.out).2.2 | (with_reducible refine Kd.C_alloc ?_ _) | (with_reducible refine Kd.C_drewN ?_ _) | (with_reducible refine Kd.C_drew ?_))); (case side2 => exact (Kd.R_reads' HO479.out).2.1); (case side3 => repeat (first | exact (Kd.R_reads' HO483.out).2.2 | (with_reducible refine Kd.C_alloc ?_ _) | (with_reducible refine Kd.C_drewN ?_ _) | (with_reducible refine Kd.C_drew ?_))); (case side4 => exact (Kd.R_reads' HO483.out).2.1); rintro e w' ⟨rfl, ⟨nd, rfl⟩⟩; (try first | exact ⟨rfl, _, World.drewN_drewN _ _ _⟩ | exact ⟨rfl, _, Eq.trans (World.drewN_drewN _ _ _) (congrArg (World.drewN _) (Nat.add_assoc _ _ _))⟩)))
        repeat (go_quiet (first | (go_at_call 44; (with_reducible refine (laws_dTexts.calls k _ _ t476 _ _ t480 true _ ?side1 ?side2 ?side3 ?side4 A19.out).mono ?_); (case side1 => repeat (first | exact (Kd.R_reads' HO479.out).2.2 | (with_reducible refine Kd.C_alloc ?_ _) | (with_reducible refine Kd.C_drewN ?_ _) | (with_reducible refine Kd.C_drew ?_))); (case side2 => exact (Kd.R_reads' HO479.out).2.1); (case side3 => repeat (first | exact (Kd.R_reads' HO483.out).2.2 | (with_reducible refine Kd.C_alloc ?_ _) | (with_reducible refine Kd.C_drewN ?_ _) | (with_reducible refine Kd.C_drew ?_))); (case side4 => exact (Kd.R_reads' HO483.out).2.1); rintro e w' ⟨rfl, ⟨nd, rfl⟩⟩; (try first | exact ⟨rfl, _, World.drewN_drewN _ _ _⟩ | exact ⟨rfl, _, Eq.trans (World.drewN_drewN _ _ _) (congrArg (World.drewN _) (Nat.add_assoc _ _ _))⟩))); try go_wp2_with (first | (go_at_call 44; (with_reducible refine (laws_dTexts.calls k _ _ t476 _ _ t480 true _ ?side1 ?side2 ?side3 ?side4 A19.out).mono ?_); (case side1 => repeat (first | exact (Kd.R_reads' HO479.out).2.2 | (with_reducible refine Kd.C_alloc ?_ _) | (with_reducible refine Kd.C_drewN ?_ _) | (with_reducible refine Kd.C_drew ?_))); (case side2 => exact (Kd.R_reads' HO479.out).2.1); (case side3 => repeat (first | exact (Kd.R_reads' HO483.out).2.2 | (with_reducible refine Kd.C_alloc ?_ _) | (with_reducible refine Kd.C_drewN ?_ _) | (with_reducible refine Kd.C_drew ?_))); (case side4 => exact (Kd.R_reads' HO483.out).2.1); rintro e w' ⟨rfl, ⟨nd, rfl⟩⟩; (try first | exact ⟨rfl, _, World.drewN_drewN _ _ _⟩ | exact ⟨rfl, _, Eq.trans (World.drewN_drewN _ _ _) (congrArg (World.drewN _) (Nat.add_assoc _ _ _))⟩))))
        go_meet
        case rel => exact ⟨_, (true), (by first | rfl | (simp; done) | (simp [*]; done)), H', ⟨by first | omega | exact Nat.le_refl _⟩, ⟨by (with_reducible repeat (first | apply Kd.R_alloc | apply Kd.R_drewN | apply Kd.R_drew)); exact Kd.R_mono HO479.out (fun _ hk => trivial)⟩, ⟨by repeat (first | (with_reducible first | exact HB.out | apply below_alloc | apply pw_below_drewN | apply below_drew1) | exact HB.out)⟩⟩
       ·as_aux_lemma =>
        rw [if_neg c27] at H
        have c27b0 : (t489 != t491) = false := by simpa using c27
        (try (have c27b1 : decide (t489 = t491) = true := by simpa using c27))
        (try (have c27b2 : (t489 == t491) = true := by simpa using c27))
        clear c27
        by_cases c30 : t488.toList = t490.toList
        ·as_aux_lemma =>
         rw [if_pos c30] at H
         have c30b0 : (t488.toList == t490.toList) = true := beq_iff_eq.mpr c30
         have c30b1 : (t488.toList != t490.toList) = false := bne_eq_false_iff_eq.mpr c30
         clear c30
         replace H := Option.bind_eq_some_iff.mp H
         obtain ⟨t493, A310, H⟩ := H
         replace H : (laws_FnLettersTurned.j0 k l1 t475 t476 t477 t488 (t477 != t493)) = some r := H
         have A31 := Aside0.mk A310
         clear A310
         have H' := Aside0.mk H
         clear H
         obtain ⟨Ao32, co32, eo32⟩ := Kd.R_slice HO479.out
         subst eo32
         obtain ⟨Ao33, co33, eo33⟩ := Kd.R_slice HO483.out
         subst eo33
         go_wp2_with (first | (go_at_call 44; (with_reducible refine (laws_dTexts.calls k _ _ t476 _ _ t480 true _ ?side1 ?side2 ?side3 ?side4 A19.out).mono ?_); (case side1 => repeat (first | exact (Kd.R_reads' HO479.out).2.2 | (with_reducible refine Kd.C_alloc ?_ _) | (with_reducible refine Kd.C_drewN ?_ _) | (with_reducible refine Kd.C_drew ?_))); (case side2 => exact (Kd.R_reads' HO479.out).2.1); (case side3 => repeat (first | exact (Kd.R_reads' HO483.out).2.2 | (with_reducible refine Kd.C_alloc ?_ _) | (with_reducible refine Kd.C_drewN ?_ _) | (with_reducible refine Kd.C_drew ?_))); (case side4 => exact (Kd.R_reads' HO483.out).2.1); rintro e w' ⟨rfl, ⟨nd, rfl⟩⟩; (try first | exact ⟨rfl, _, World.drewN_drewN _ _ _⟩ | exact ⟨rfl, _, Eq.trans (World.drewN_drewN _ _ _) (congrArg (World.drewN _) (Nat.add_assoc _ _ _))⟩)) | (go_at_call 37; (with_reducible refine (impl_IsLetters.calls t475 t493 _ A31.out).mono ?_); rintro e w34 ⟨rfl, hb⟩; have n0_ := Aside0.mk (Kd.R_below (by (with_reducible repeat (first | apply Kd.R_alloc | apply Kd.R_drewN | apply Kd.R_drew)); exact HO479.out) hb); have n1_ := Aside0.mk (Kd.R_below (by (with_reducible repeat (first | apply Kd.R_alloc | apply Kd.R_drewN | apply Kd.R_drew)); exact HO483.out) hb); have n2_ := Aside0.mk (below_step (by repeat (first | (with_reducible first | exact HB.out | apply below_alloc | apply pw_below_drewN | apply below_drew1) | exact HB.out)) hb); clear HO479; clear HO483; clear HB; have HO479 := n0_; have HO483 := n1_; have HB := n2_; clear n0_ n1_ n2_; (try clear hb); (try clear hb2); (try clear hk); (try clear hi)))
         repeat (go_quiet (first | (go_at_call 44; (with_reducible refine (laws_dTexts.calls k _ _ t476 _ _ t480 true _ ?side1 ?side2 ?side3 ?side4 A19.out).mono ?_); (case side1 => repeat (first | exact (Kd.R_reads' HO479.out).2.2 | (with_reducible refine Kd.C_alloc ?_ _) | (with_reducible refine Kd.C_drewN ?_ _) | (with_reducible refine Kd.C_drew ?_))); (case side2 => exact (Kd.R_reads' HO479.out).2.1); (case side3 => repeat (first | exact (Kd.R_reads' HO483.out).2.2 | (with_reducible refine Kd.C_alloc ?_ _) | (with_reducible refine Kd.C_drewN ?_ _) | (with_reducible refine Kd.C_drew ?_))); (case side4 => exact (Kd.R_reads' HO483.out).2.1); rintro e w' ⟨rfl, ⟨nd, rfl⟩⟩; (try first | exact ⟨rfl, _, World.drewN_drewN _ _ _⟩ | exact ⟨rfl, _, Eq.trans (World.drewN_drewN _ _ _) (congrArg (World.drewN _) (Nat.add_assoc _ _ _))⟩)) | (go_at_call 37; (with_reducible refine (impl_IsLetters.calls t475 t493 _ A31.out).mono ?_); rintro e w34 ⟨rfl, hb⟩; have n0_ := Aside0.mk (Kd.R_below (by (with_reducible repeat (first | apply Kd.R_alloc | apply Kd.R_drewN | apply Kd.R_drew)); exact HO479.out) hb); have n1_ := Aside0.mk (Kd.R_below (by (with_reducible repeat (first | apply Kd.R_alloc | apply Kd.R_drewN | apply Kd.R_drew)); exact HO483.out) hb); have n2_ := Aside0.mk (below_step (by repeat (first | (with_reducible first | exact HB.out | apply below_alloc | apply pw_below_drewN | apply below_drew1) | exact HB.out)) hb); clear HO479; clear HO483; clear HB; have HO479 := n0_; have HO483 := n1_; have HB := n2_; clear n0_ n1_ n2_; (try clear hb); (try clear hb2); (try clear hk); (try clear hi))); try go_wp2_with (first | (go_at_call 44; (with_reducible refine (laws_dTexts.calls k _ _ t476 _ _ t480 true _ ?side1 ?side2 ?side3 ?side4 A19.out).mono ?_); (case side1 => repeat (first | exact (Kd.R_reads' HO479.out).2.2 | (with_reducible refine Kd.C_alloc ?_ _) | (with_reducible refine Kd.C_drewN ?_ _) | (with_reducible refine Kd.C_drew ?_))); (case side2 => exact (Kd.R_reads' HO479.out).2.1); (case side3 => repeat (first | exact (Kd.R_reads' HO483.out).2.2 | (with_reducible refine Kd.C_alloc ?_ _) | (with_reducible refine Kd.C_drewN ?_ _) | (with_reducible refine Kd.C_drew ?_))); (case side4 => exact (Kd.R_reads' HO483.out).2.1); rintro e w' ⟨rfl, ⟨nd, rfl⟩⟩; (try first | exact ⟨rfl, _, World.drewN_drewN _ _ _⟩ | exact ⟨rfl, _, Eq.trans (World.drewN_drewN _ _ _) (congrArg (World.drewN _) (Nat.add_assoc _ _ _))⟩)) | (go_at_call 37; (with_reducible refine (impl_IsLetters.calls t475 t493 _ A31.out).mono ?_); rintro e w34 ⟨rfl, hb⟩; have n0_ := Aside0.mk (Kd.R_below (by (with_reducible repeat (first | apply Kd.R_alloc | apply Kd.R_drewN | apply Kd.R_drew)); exact HO479.out) hb); have n1_ := Aside0.mk (Kd.R_below (by (with_reducible repeat (first | apply Kd.R_alloc | apply Kd.R_drewN | apply Kd.R_drew)); exact HO483.out) hb); have n2_ := Aside0.mk (below_step (by repeat (first | (with_reducible first | exact HB.out | apply below_alloc | apply pw_below_drewN | apply below_drew1) | exact HB.out)) hb); clear HO479; clear HO483; clear HB; have HO479 := n0_; have HO483 := n1_; have HB := n2_; clear n0_ n1_ n2_; (try clear hb); (try clear hb2); (try clear hk); (try clear hi))))
         go_meet
         case rel => exact ⟨_, ((t477 != t493)), (by first | rfl | (simp; done) | (simp [*]; done)), H', ⟨by first | omega | exact Nat.le_refl _⟩, ⟨by (with_reducible repeat (first | apply Kd.R_alloc | apply Kd.R_drewN | apply Kd.R_drew)); exact Kd.R_mono HO479.out (fun _ hk => trivial)⟩, ⟨by repeat (first | (with_reducible first | exact HB.out | apply below_alloc | apply pw_below_drewN | apply below_drew1) | exact HB.out)⟩⟩
        ·as_aux_lemma =>
         rw [if_neg c30] at H
         have c30b0 : (t488.toList == t490.toList) = false := beq_eq_false_iff_ne.mpr c30
         have c30b1 : (t488.toList != t490.toList) = true := bne_iff_ne.mpr c30
         have H' := Aside0.mk H
         clear H
         obtain ⟨Ao35, co35, eo35⟩ := Kd.R_slice HO479.out
         subst eo35
         obtain ⟨Ao36, co36, eo36⟩ := Kd.R_slice HO483.out
         subst eo36
         go_wp2_with (first | (go_at_call 44; (with_reducible refine (laws_dTexts.calls k _ _ t476 _ _ t480 true _ ?side1 ?side2 ?side3 ?side4 A19.out).mono ?_); (case side1 => repeat (first | exact (Kd.R_reads' HO479.out).2.2 | (with_reducible refine Kd.C_alloc ?_ _) | (with_reducible refine Kd.C_drewN ?_ _) | (with_reducible refine Kd.C_drew ?_))); (case side2 => exact (Kd.R_reads' HO479.out).2.1); (case side3 => repeat (first | exact (Kd.R_reads' HO483.out).2.2 | (with_reducible refine Kd.C_alloc ?_ _) | (with_reducible refine Kd.C_drewN ?_ _) | (with_reducible refine Kd.C_drew ?_))); (case side4 => exact (Kd.R_reads' HO483.out).2.1); rintro e w' ⟨rfl, ⟨nd, rfl⟩⟩; (try first | exact ⟨rfl, _, World.drewN_drewN _ _ _⟩ | exact ⟨rfl, _, Eq.trans (World.drewN_drewN _ _ _) (congrArg (World.drewN _) (Nat.add_assoc _ _ _))⟩)))
         repeat (go_quiet (first | (go_at_call 44; (with_reducible refine (laws_dTexts.calls k _ _ t476 _ _ t480 true _ ?side1 ?side2 ?side3 ?side4 A19.out).mono ?_); (case side1 => repeat (first | exact (Kd.R_reads' HO479.out).2.2 | (with_reducible refine Kd.C_alloc ?_ _) | (with_reducible refine Kd.C_drewN ?_ _) | (with_reducible refine Kd.C_drew ?_))); (case side2 => exact (Kd.R_reads' HO479.out).2.1); (case side3 => repeat (first | exact (Kd.R_reads' HO483.out).2.2 | (with_reducible refine Kd.C_alloc ?_ _) | (with_reducible refine Kd.C_drewN ?_ _) | (with_reducible refine Kd.C_drew ?_))); (case side4 => exact (Kd.R_reads' HO483.out).2.1); rintro e w' ⟨rfl, ⟨nd, rfl⟩⟩; (try first | exact ⟨rfl, _, World.drewN_drewN _ _ _⟩ | exact ⟨rfl, _, Eq.trans (World.drewN_drewN _ _ _) (congrArg (World.drewN _) (Nat.add_assoc _ _ _))⟩))); try go_wp2_with (first | (go_at_call 44; (with_reducible refine (laws_dTexts.calls k _ _ t476 _ _ t480 true _ ?side1 ?side2 ?side3 ?side4 A19.out).mono ?_); (case side1 => repeat (first | exact (Kd.R_reads' HO479.out).2.2 | (with_reducible refine Kd.C_alloc ?_ _) | (with_reducible refine Kd.C_drewN ?_ _) | (with_reducible refine Kd.C_drew ?_))); (case side2 => exact (Kd.R_reads' HO479.out).2.1); (case side3 => repeat (first | exact (Kd.R_reads' HO483.out).2.2 | (with_reducible refine Kd.C_alloc ?_ _) | (with_reducible refine Kd.C_drewN ?_ _) | (with_reducible refine Kd.C_drew ?_))); (case side4 => exact (Kd.R_reads' HO483.out).2.1); rintro e w' ⟨rfl, ⟨nd, rfl⟩⟩; (try first | exact ⟨rfl, _, World.drewN_drewN _ _ _⟩ | exact ⟨rfl, _, Eq.trans (World.drewN_drewN _ _ _) (congrArg (World.drewN _) (Nat.add_assoc _ _ _))⟩))))
         go_meet
         case rel => exact ⟨_, (true), (by first | rfl | (simp; done) | (simp [*]; done)), H', ⟨by first | omega | exact Nat.le_refl _⟩, ⟨by (with_reducible repeat (first | apply Kd.R_alloc | apply Kd.R_drewN | apply Kd.R_drew)); exact Kd.R_mono HO479.out (fun _ hk => trivial)⟩, ⟨by repeat (first | (with_reducible first | exact HB.out | apply below_alloc | apply pw_below_drewN | apply below_drew1) | exact HB.out)⟩⟩
    ·as_aux_lemma =>
     replace c20 := Bool.eq_false_iff.mpr c20
     subst c20
     have H1 : (laws_FnLettersTurned.j0 k l1 t475 t476 t477 t488 true) = some r := by rw [if_neg (show ¬ (false = true) by decide)] at H; exact H
     clear H; have H := H1; clear H1
     have H' := Aside0.mk H
     clear H
     obtain ⟨Ao37, co37, eo37⟩ := Kd.R_slice HO479.out
     subst eo37
     obtain ⟨Ao38, co38, eo38⟩ := Kd.R_slice HO483.out
     subst eo38
     go_wp2_with (first | (go_at_call 44; (with_reducible refine (laws_dTexts.calls k _ _ t476 _ _ t480 false _ ?side1 ?side2 ?side3 ?side4 A19.out).mono ?_); (case side1 => repeat (first | exact (Kd.R_reads' HO479.out).2.2 | (with_reducible refine Kd.C_alloc ?_ _) | (with_reducible refine Kd.C_drewN ?_ _) | (with_reducible refine Kd.C_drew ?_))); (case side2 => exact (Kd.R_reads' HO479.out).2.1); (case side3 => repeat (first | exact (Kd.R_reads' HO483.out).2.2 | (with_reducible refine Kd.C_alloc ?_ _) | (with_reducible refine Kd.C_drewN ?_ _) | (with_reducible refine Kd.C_drew ?_))); (case side4 => exact (Kd.R_reads' HO483.out).2.1); rintro e w' ⟨rfl, ⟨nd, rfl⟩⟩; (try first | exact ⟨rfl, _, World.drewN_drewN _ _ _⟩ | exact ⟨rfl, _, Eq.trans (World.drewN_drewN _ _ _) (congrArg (World.drewN _) (Nat.add_assoc _ _ _))⟩)))
     repeat (go_quiet (first | (go_at_call 44; (with_reducible refine (laws_dTexts.calls k _ _ t476 _ _ t480 false _ ?side1 ?side2 ?side3 ?side4 A19.out).mono ?_); (case side1 => repeat (first | exact (Kd.R_reads' HO479.out).2.2 | (with_reducible refine Kd.C_alloc ?_ _) | (with_reducible refine Kd.C_drewN ?_ _) | (with_reducible refine Kd.C_drew ?_))); (case side2 => exact (Kd.R_reads' HO479.out).2.1); (case side3 => repeat (first | exact (Kd.R_reads' HO483.out).2.2 | (with_reducible refine Kd.C_alloc ?_ _) | (with_reducible refine Kd.C_drewN ?_ _) | (with_reducible refine Kd.C_drew ?_))); (case side4 => exact (Kd.R_reads' HO483.out).2.1); rintro e w' ⟨rfl, ⟨nd, rfl⟩⟩; (try first | exact ⟨rfl, _, World.drewN_drewN _ _ _⟩ | exact ⟨rfl, _, Eq.trans (World.drewN_drewN _ _ _) (congrArg (World.drewN _) (Nat.add_assoc _ _ _))⟩))); try go_wp2_with (first | (go_at_call 44; (with_reducible refine (laws_dTexts.calls k _ _ t476 _ _ t480 false _ ?side1 ?side2 ?side3 ?side4 A19.out).mono ?_); (case side1 => repeat (first | exact (Kd.R_reads' HO479.out).2.2 | (with_reducible refine Kd.C_alloc ?_ _) | (with_reducible refine Kd.C_drewN ?_ _) | (with_reducible refine Kd.C_drew ?_))); (case side2 => exact (Kd.R_reads' HO479.out).2.1); (case side3 => repeat (first | exact (Kd.R_reads' HO483.out).2.2 | (with_reducible refine Kd.C_alloc ?_ _) | (with_reducible refine Kd.C_drewN ?_ _) | (with_reducible refine Kd.C_drew ?_))); (case side4 => exact (Kd.R_reads' HO483.out).2.1); rintro e w' ⟨rfl, ⟨nd, rfl⟩⟩; (try first | exact ⟨rfl, _, World.drewN_drewN _ _ _⟩ | exact ⟨rfl, _, Eq.trans (World.drewN_drewN _ _ _) (congrArg (World.drewN _) (Nat.add_assoc _ _ _))⟩))))
     go_meet
     case rel => exact ⟨_, (true), (by first | rfl | (simp; done) | (simp [*]; done)), H', ⟨by first | omega | exact Nat.le_refl _⟩, ⟨by (with_reducible repeat (first | apply Kd.R_alloc | apply Kd.R_drewN | apply Kd.R_drew)); exact Kd.R_mono HO479.out (fun _ hk => trivial)⟩, ⟨by repeat (first | (with_reducible first | exact HB.out | apply below_alloc | apply pw_below_drewN | apply below_drew1) | exact HB.out)⟩⟩
  case rest => as_aux_lemma =>
   clear HC12
   try clear c1
   try clear c2
   try clear p2
   try clear c3
   try clear c4
   try clear c13
   try clear c18
   try clear c18b0
   try clear c18b1
   try clear c18b2
   try clear c20
   try clear c21
   try clear c21b0
   try clear c21b1
   try clear c21b2
   try clear c24
   try clear c24b0
   try clear c24b1
   try clear c24b2
   try clear c27
   try clear c27b0
   try clear c27b1
   try clear c27b2
   try clear c30
   try clear c30b0
   try clear c30b1
   obtain ⟨kq, x118_11, rfl, HA, HJ11, HO_6, HB⟩ := hcut
   cases kq with
   | zero => exact absurd HA.out (by simp [laws_FnLettersTurned.j0])
   | succ kj11 =>
    have H := HA.out; clear HA
    simp only [laws_FnLettersTurned.j0] at H
    by_cases c39 : x118_11 = true
    ·subst c39
     have H1 : (some false) = some r := by rw [if_pos rfl] at H; exact H
     clear H; have H := H1; clear H1
     obtain rfl := Option.some.inj H
     go_wp2
     repeat (go_quiet (fail); try go_wp2)
     go_ret
     exact ⟨by first | rfl | (simp [errW_none, errW_some] <;> rfl) | (simp [*, errW_none, errW_some] <;> rfl), by repeat (first | (with_reducible first | exact HB.out | apply below_alloc | apply pw_below_drewN | apply below_drew1) | exact HB.out)⟩
    ·as_aux_lemma =>
     replace c39 := Bool.eq_false_iff.mpr c39
     subst c39
     have H1 : (if t477 = true then (if (t476.length : Int) = 0 then (none) else (if ((t475.size : Int) % (t476.length : Int)) = 0 then (laws_FnLettersTurned.l0 kj11 l1 t475 t476 t488 1) else (some false))) else (laws_FnLettersTurned.j2 kj11 l1)) = some r := by rw [if_neg (show ¬ (false = true) by decide)] at H; exact H
     clear H; have H := H1; clear H1
     have HC40 := Aside0.mk H
     clear H
     go_upto_if 119 with (fail)
     repeat (go_quiet (fail); go_upto_if 119 with (fail))
     go_cut [] (fun wc => ∃ (kq : Nat), Aside0 (laws_FnLettersTurned.j2 kq l1 = some r) ∧ Aside0 (kq ≤ kj11) ∧ Aside0 (Below w.heap.size w wc))
     case first => as_aux_lemma =>
      have H := HC40.out; clear HC40
      by_cases c41 : t477 = true
      ·as_aux_lemma =>
       subst c41
       have H1 : (if (t476.length : Int) = 0 then (none) else (if ((t475.size : Int) % (t476.length : Int)) = 0 then (laws_FnLettersTurned.l0 kj11 l1 t475 t476 t488 1) else (some false))) = some r := by rw [if_pos rfl] at H; exact H
       clear H; have H := H1; clear H1
       by_cases c42 : (t476.length : Int) = 0
       ·rw [if_pos c42] at H
        exact absurd H (by simp)
       as_aux_lemma =>
       rw [if_neg c42] at H
       have c42b0 : ((t476.length : Int) == 0) = false := beq_eq_false_iff_ne.mpr c42
       have c42b1 : ((t476.length : Int) != 0) = true := bne_iff_ne.mpr c42
       have c42b2 : ¬ (t476 = []) := fun h_ => c42 (by rw [h_]; rfl)
       (first | rw [c42b0] | (simp only [i64_w, i32_w]; rw [c42b0]) | skip)
       by_cases c43 : ((t475.size : Int) % (t476.length : Int)) = 0
       ·as_aux_lemma =>
        rw [if_pos c43] at H
        have c43b0 : (((t475.size : Int) % (t476.length : Int)) == 0) = true := beq_iff_eq.mpr c43
        have c43b1 : (((t475.size : Int) % (t476.length : Int)) != 0) = false := bne_eq_false_iff_eq.mpr c43
        clear c43
        have H' := Aside0.mk H
        clear H
        obtain ⟨Ao44, co44, eo44⟩ := Kd.R_slice HO_6.out
        subst eo44
        go_wp2
        repeat (go_quiet (fail); try go_wp2)
        go_loopg [18] kj11 (fun kq v18 w' => ∃ (x18_2 : Int), v18 = .int .i64 x18_2 ∧ Aside0 (laws_FnLettersTurned.l0 kq l1 t475 t476 t488 x18_2 = some r) ∧ Aside0 (kq ≤ kj11) ∧ Aside0 (Kd.R Kd.string 9 w' w.heap.size (fun _ => True) (.slice Ao44 t476.length co44) t476) ∧ Aside0 (Below w.heap.size w w'))
        case atStart => exact ⟨(1), (by first | rfl | (simp; done) | (simp [*]; done)), H', ⟨Nat.le_refl _⟩, ⟨by (with_reducible repeat (first | apply Kd.R_alloc | apply Kd.R_drewN | apply Kd.R_drew)); exact HO_6.out⟩, ⟨by repeat (first | (with_reducible first | exact HB.out | apply below_alloc | apply pw_below_drewN | apply below_drew1) | exact HB.out)⟩⟩
        case round => as_aux_lemma =>
         clear H'
         try clear c1
         try clear c2
         try clear p2
         try clear c3
         try clear c4
         try clear c13
         try clear c18
         try clear c18b0
         try clear c18b1
         try clear c18b2
         try clear c20
         try clear c21
         try clear c21b0
         try clear c21b1
         try clear c21b2
         try clear c24
         try clear c24b0
         try clear c24b1
         try clear c24b2
         try clear c27
         try clear c27b0
         try clear c27b1
         try clear c27b2
         try clear c30
         try clear c30b0
         try clear c30b1
         try clear c39
         try clear c41
         try clear c42
         try clear c42b0
         try clear c42b1
         try clear c42b2
         try clear c43
         try clear c43b0
         try clear c43b1
         try clear p2
         obtain ⟨x18_2, rfl, HA, HK2, HO_6, HB⟩ := hrel
         cases gk with
         | zero => exact absurd HA.out (by simp [laws_FnLettersTurned.l0])
         | succ k2 =>
          have H := HA.out; clear HA
          simp only [laws_FnLettersTurned.l0] at H
          by_cases c45 : x18_2 < (t476.length : Int)
          ·as_aux_lemma =>
           rw [if_pos c45] at H
           have c45b0 : decide (x18_2 < (t476.length : Int)) = true := decide_eq_true c45
           clear c45
           by_cases c46 : 0 ≤ x18_2
           rotate_left
           ·rw [if_neg c46] at H
            exact absurd H (by simp)
           as_aux_lemma =>
           rw [if_pos c46] at H
           have c46b0 : decide (0 ≤ x18_2) = true := decide_eq_true c46
           clear c46
           obtain ⟨ji47, hji47⟩ : ∃ j_ : Int, (wrap64 (x18_2 - 1)) = j_ := ⟨_, rfl⟩
           replace H : (if 0 ≤ (ji47) then (if (ji47) < (t476.length : Int) then (if ((Op.bytesLess ((rdOf ByteArray.empty t476 (ji47)).toList) ((rdOf ByteArray.empty t476 x18_2).toList)) = true) then (if ((rdOf ByteArray.empty t476 x18_2).size : Int) = (t475.size : Int) then (laws_FnLettersTurned.l0 k2 l1 t475 t476 t488 (wrap64 (x18_2 + 1))) else (some false)) else (some false)) else (none)) else (none)) = some r := by first | (rw [hji47] at H; exact H) | (simp only [hji47] at H ⊢; exact H)
           have hji47w : (IntKind.i64.wrap (x18_2 - 1)) = ji47 := (i64_w _).trans hji47
           by_cases c48 : 0 ≤ (ji47)
           rotate_left
           ·rw [if_neg c48] at H
            exact absurd H (by simp)
           as_aux_lemma =>
           rw [if_pos c48] at H
           have c48b0 : decide (0 ≤ (ji47)) = true := decide_eq_true c48
           clear c48
           by_cases c49 : (ji47) < (t476.length : Int)
           rotate_left
           ·rw [if_neg c49] at H
            exact absurd H (by simp)
           as_aux_lemma =>
           rw [if_pos c49] at H
           have c49b0 : decide ((ji47) < (t476.length : Int)) = true := decide_eq_true c49
           clear c49
           by_cases c50 : ((Op.bytesLess ((rdOf ByteArray.empty t476 (ji47)).toList) ((rdOf ByteArray.empty t476 x18_2).toList)) = true)
           ·as_aux_lemma =>
            rw [if_pos c50] at H
            have c50b0 : (Op.bytesLess ((rdOf ByteArray.empty t476 (ji47)).toList) ((rdOf ByteArray.empty t476 x18_2).toList)) = true := c50
            have c50b4 := leq_true c50b0; have c50b5 := leq2_true c50b0; have c50b6 := leq3_true c50b0
            clear c50
            by_cases c51 : ((rdOf ByteArray.empty t476 x18_2).size : Int) = (t475.size : Int)
            ·as_aux_lemma =>
             rw [if_pos c51] at H
             have c51b0 : (((rdOf ByteArray.empty t476 x18_2).size : Int) == (t475.size : Int)) = true := beq_iff_eq.mpr c51
             have c51b1 : (((rdOf ByteArray.empty t476 x18_2).size : Int) != (t475.size : Int)) = false := bne_eq_false_iff_eq.mpr c51
             have c51b2 : ((rdOf ByteArray.empty t476 x18_2).size == t475.size) = true := by first | simpa using c51 | (simp at c51 ⊢; omega)
             clear c51
             have H' := Aside0.mk H
             clear H
             have p494 : 0 ≤ (x18_2 : Int) := of_decide_eq_true (by first | (with_reducible assumption) | assumption)
             have q494 : x18_2 < (t476.length : Int) := of_decide_eq_true (by first | (with_reducible assumption) | assumption)
             obtain ⟨ad494, e494, hx494_0⟩ := Kd.at_string (Kd.R_reads' HO_6.out).2.2 x18_2 p494 q494
             cases e494
             replace p494 := eq_true p494; replace q494 := eq_true q494
             have p495 : 0 ≤ ((ji47) : Int) := of_decide_eq_true (by first | (with_reducible assumption) | assumption)
             have q495 : (ji47) < (t476.length : Int) := of_decide_eq_true (by first | (with_reducible assumption) | assumption)
             obtain ⟨ad495, e495, hx495_0⟩ := Kd.at_string (Kd.R_reads' HO_6.out).2.2 (ji47) p495 q495
             obtain rfl : ad494 = ad495 := (by injection e495)
             replace p495 := eq_true p495; replace q495 := eq_true q495
             have p496 : 0 ≤ (x18_2 : Int) := of_decide_eq_true (by first | (with_reducible assumption) | assumption)
             have q496 : x18_2 < (t476.length : Int) := of_decide_eq_true (by first | (with_reducible assumption) | assumption)
             obtain ⟨ad496, e496, hx496_0⟩ := Kd.at_string (Kd.R_reads' HO_6.out).2.2 x18_2 p496 q496
             obtain rfl : ad494 = ad496 := (by injection e496)
             replace p496 := eq_true p496; replace q496 := eq_true q496
             go_wp2
             repeat (go_quiet (fail); try go_wp2)
             go_roundg k2
             case measure => have := HJ11.out; have := HK2.out; omega
             case rel => exact ⟨(wrap64 (x18_2 + 1)), (by first | rfl | (simp; done) | (simp [*]; done)), H', ⟨by have := HJ11.out; have := HK2.out; omega⟩, ⟨by (with_reducible repeat (first | apply Kd.R_alloc | apply Kd.R_drewN | apply Kd.R_drew)); exact HO_6.out⟩, ⟨by repeat (first | (with_reducible first | exact HB.out | apply below_alloc | apply pw_below_drewN | apply below_drew1) | exact HB.out)⟩⟩
            ·as_aux_lemma =>
             rw [if_neg c51] at H
             have c51b0 : (((rdOf ByteArray.empty t476 x18_2).size : Int) == (t475.size : Int)) = false := beq_eq_false_iff_ne.mpr c51
             have c51b1 : (((rdOf ByteArray.empty t476 x18_2).size : Int) != (t475.size : Int)) = true := bne_iff_ne.mpr c51
             have c51b2 : ((rdOf ByteArray.empty t476 x18_2).size == t475.size) = false := by first | simpa using c51 | (simp at c51 ⊢; omega)
             obtain rfl := Option.some.inj H
             have p494 : 0 ≤ (x18_2 : Int) := of_decide_eq_true (by first | (with_reducible assumption) | assumption)
             have q494 : x18_2 < (t476.length : Int) := of_decide_eq_true (by first | (with_reducible assumption) | assumption)
             obtain ⟨ad494, e494, hx494_0⟩ := Kd.at_string (Kd.R_reads' HO_6.out).2.2 x18_2 p494 q494
             cases e494
             replace p494 := eq_true p494; replace q494 := eq_true q494
             have p495 : 0 ≤ ((ji47) : Int) := of_decide_eq_true (by first | (with_reducible assumption) | assumption)
             have q495 : (ji47) < (t476.length : Int) := of_decide_eq_true (by first | (with_reducible assumption) | assumption)
             obtain ⟨ad495, e495, hx495_0⟩ := Kd.at_string (Kd.R_reads' HO_6.out).2.2 (ji47) p495 q495
             obtain rfl : ad494 = ad495 := (by injection e495)
             replace p495 := eq_true p495; replace q495 := eq_true q495
             have p496 : 0 ≤ (x18_2 : Int) := of_decide_eq_true (by first | (with_reducible assumption) | assumption)
             have q496 : x18_2 < (t476.length : Int) := of_decide_eq_true (by first | (with_reducible assumption) | assumption)
             obtain ⟨ad496, e496, hx496_0⟩ := Kd.at_string (Kd.R_reads' HO_6.out).2.2 x18_2 p496 q496
             obtain rfl : ad494 = ad496 := (by injection e496)
             replace p496 := eq_true p496; replace q496 := eq_true q496
             go_wp2
             repeat (go_quiet (fail); try go_wp2)
             go_ret
             exact ⟨by first | rfl | (simp [errW_none, errW_some] <;> rfl) | (simp only [← hji47]; first | rfl | (simp [errW_none, errW_some] <;> rfl)) | (simp [*, errW_none, errW_some] <;> rfl), by repeat (first | (with_reducible first | exact HB.out | apply below_alloc | apply pw_below_drewN | apply below_drew1) | exact HB.out)⟩
           ·as_aux_lemma =>
            rw [if_neg c50] at H
            have c50b0 : (Op.bytesLess ((rdOf ByteArray.empty t476 (ji47)).toList) ((rdOf ByteArray.empty t476 x18_2).toList)) = false := by simpa using c50
            have c50b4 := leq_false c50b0
            clear c50
            obtain rfl := Option.some.inj H
            have p494 : 0 ≤ (x18_2 : Int) := of_decide_eq_true (by first | (with_reducible assumption) | assumption)
            have q494 : x18_2 < (t476.length : Int) := of_decide_eq_true (by first | (with_reducible assumption) | assumption)
            obtain ⟨ad494, e494, hx494_0⟩ := Kd.at_string (Kd.R_reads' HO_6.out).2.2 x18_2 p494 q494
            cases e494
            replace p494 := eq_true p494; replace q494 := eq_true q494
            have p495 : 0 ≤ ((ji47) : Int) := of_decide_eq_true (by first | (with_reducible assumption) | assumption)
            have q495 : (ji47) < (t476.length : Int) := of_decide_eq_true (by first | (with_reducible assumption) | assumption)
            obtain ⟨ad495, e495, hx495_0⟩ := Kd.at_string (Kd.R_reads' HO_6.out).2.2 (ji47) p495 q495
            obtain rfl : ad494 = ad495 := (by injection e495)
            replace p495 := eq_true p495; replace q495 := eq_true q495
            go_wp2
            repeat (go_quiet (fail); try go_wp2)
            go_ret
            exact ⟨by first | rfl | (simp [errW_none, errW_some] <;> rfl) | (simp only [← hji47]; first | rfl | (simp [errW_none, errW_some] <;> rfl)) | (simp [*, errW_none, errW_some] <;> rfl), by repeat (first | (with_reducible first | exact HB.out | apply below_alloc | apply pw_below_drewN | apply below_drew1) | exact HB.out)⟩
          ·as_aux_lemma =>
           rw [if_neg c45] at H
           have c45b0 : decide (x18_2 < (t476.length : Int)) = false := decide_eq_false c45
           clear c45
           replace H := Option.bind_eq_some_iff.mp H
           obtain ⟨⟨t497, t498⟩, A520, H⟩ := H
           replace H : ((impl_CountsOf.f t475).bind fun bt499 => ((impl_CountsOf.f t488).bind fun bt502 => (if t498 = true then (if t497.toList = t475.toList then (if bt499.2.2 = true then (if bt502.2.2 = true then (if bt499.1 = bt502.2.1 then (if bt499.2.1 = bt502.1 then (laws_FnLettersTurned.j2 k2 l1) else (some false)) else (some false)) else (some false)) else (some false)) else (some false)) else (some false)))) = some r := H
           have A52 := Aside0.mk A520
           clear A520
           replace H := Option.bind_eq_some_iff.mp H
           obtain ⟨⟨t499, t500, t501⟩, A530, H⟩ := H
           replace H : ((impl_CountsOf.f t488).bind fun bt502 => (if t498 = true then (if t497.toList = t475.toList then (if t501 = true then (if bt502.2.2 = true then (if t499 = bt502.2.1 then (if t500 = bt502.1 then (laws_FnLettersTurned.j2 k2 l1) else (some false)) else (some false)) else (some false)) else (some false)) else (some false)) else (some false))) = some r := H
           have A53 := Aside0.mk A530
           clear A530
           replace H := Option.bind_eq_some_iff.mp H
           obtain ⟨⟨t502, t503, t504⟩, A540, H⟩ := H
           replace H : (if t498 = true then (if t497.toList = t475.toList then (if t501 = true then (if t504 = true then (if t499 = t503 then (if t500 = t502 then (laws_FnLettersTurned.j2 k2 l1) else (some false)) else (some false)) else (some false)) else (some false)) else (some false)) else (some false)) = some r := H
           have A54 := Aside0.mk A540
           clear A540
           by_cases c55 : t498 = true
           ·as_aux_lemma =>
            subst c55
            have H1 : (if t497.toList = t475.toList then (if t501 = true then (if t504 = true then (if t499 = t503 then (if t500 = t502 then (laws_FnLettersTurned.j2 k2 l1) else (some false)) else (some false)) else (some false)) else (some false)) else (some false)) = some r := by rw [if_pos rfl] at H; exact H
            clear H; have H := H1; clear H1
            by_cases c56 : t497.toList = t475.toList
            ·as_aux_lemma =>
             rw [if_pos c56] at H
             have c56b0 : (t497.toList == t475.toList) = true := beq_iff_eq.mpr c56
             have c56b1 : (t497.toList != t475.toList) = false := bne_eq_false_iff_eq.mpr c56
             clear c56
             by_cases c57 : t501 = true
             ·as_aux_lemma =>
              subst c57
              have H1 : (if t504 = true then (if t499 = t503 then (if t500 = t502 then (laws_FnLettersTurned.j2 k2 l1) else (some false)) else (some false)) else (some false)) = some r := by rw [if_pos rfl] at H; exact H
              clear H; have H := H1; clear H1
              by_cases c58 : t504 = true
              ·as_aux_lemma =>
               subst c58
               have H1 : (if t499 = t503 then (if t500 = t502 then (laws_FnLettersTurned.j2 k2 l1) else (some false)) else (some false)) = some r := by rw [if_pos rfl] at H; exact H
               clear H; have H := H1; clear H1
               by_cases c59 : t499 = t503
               ·as_aux_lemma =>
                rw [if_pos c59] at H
                have c59b0 : (t499 == t503) = true := beq_iff_eq.mpr c59
                have c59b1 : (t499 != t503) = false := bne_eq_false_iff_eq.mpr c59
                clear c59
                by_cases c60 : t500 = t502
                ·rw [if_pos c60] at H
                 have c60b0 : (t500 == t502) = true := beq_iff_eq.mpr c60
                 have c60b1 : (t500 != t502) = false := bne_eq_false_iff_eq.mpr c60
                 clear c60
                 have H' := Aside0.mk H
                 clear H
                 go_wp2_with (first | (go_at_call 39; (with_reducible refine (impl_MirrorWord.calls t488 t497 true _ A52.out).mono ?_); rintro e w61 ⟨rfl, hb⟩; have n0_ := Aside0.mk (Kd.R_below (by (with_reducible repeat (first | apply Kd.R_alloc | apply Kd.R_drewN | apply Kd.R_drew)); exact HO_6.out) hb); have n1_ := Aside0.mk (below_step (by repeat (first | (with_reducible first | exact HB.out | apply below_alloc | apply pw_below_drewN | apply below_drew1) | exact HB.out)) hb); clear HO_6; clear HB; have HO_6 := n0_; have HB := n1_; clear n0_ n1_; (try clear hb); (try clear hb2); (try clear hk); (try clear hi)) | (go_at_call 15; (with_reducible refine (impl_CountsOf.calls t475 t499 t500 true _ A53.out).mono ?_); rintro e w62 ⟨rfl, hb⟩; have n0_ := Aside0.mk (Kd.R_below (by (with_reducible repeat (first | apply Kd.R_alloc | apply Kd.R_drewN | apply Kd.R_drew)); exact HO_6.out) hb); have n1_ := Aside0.mk (below_step (by repeat (first | (with_reducible first | exact HB.out | apply below_alloc | apply pw_below_drewN | apply below_drew1) | exact HB.out)) hb); clear HO_6; clear HB; have HO_6 := n0_; have HB := n1_; clear n0_ n1_; (try clear hb); (try clear hb2); (try clear hk); (try clear hi)) | (go_at_call 15; (with_reducible refine (impl_CountsOf.calls t488 t502 t503 true _ A54.out).mono ?_); rintro e w63 ⟨rfl, hb⟩; have n0_ := Aside0.mk (Kd.R_below (by (with_reducible repeat (first | apply Kd.R_alloc | apply Kd.R_drewN | apply Kd.R_drew)); exact HO_6.out) hb); have n1_ := Aside0.mk (below_step (by repeat (first | (with_reducible first | exact HB.out | apply below_alloc | apply pw_below_drewN | apply below_drew1) | exact HB.out)) hb); clear HO_6; clear HB; have HO_6 := n0_; have HB := n1_; clear n0_ n1_; (try clear hb); (try clear hb2); (try clear hk); (try clear hi)))
                 repeat (go_quiet (first | (go_at_call 39; (with_reducible refine (impl_MirrorWord.calls t488 t497 true _ A52.out).mono ?_); rintro e w61 ⟨rfl, hb⟩; have n0_ := Aside0.mk (Kd.R_below (by (with_reducible repeat (first | apply Kd.R_alloc | apply Kd.R_drewN | apply Kd.R_drew)); exact HO_6.out) hb); have n1_ := Aside0.mk (below_step (by repeat (first | (with_reducible first | exact HB.out | apply below_alloc | apply pw_below_drewN | apply below_drew1) | exact HB.out)) hb); clear HO_6; clear HB; have HO_6 := n0_; have HB := n1_; clear n0_ n1_; (try clear hb); (try clear hb2); (try clear hk); (try clear hi)) | (go_at_call 15; (with_reducible refine (impl_CountsOf.calls t475 t499 t500 true _ A53.out).mono ?_); rintro e w62 ⟨rfl, hb⟩; have n0_ := Aside0.mk (Kd.R_below (by (with_reducible repeat (first | apply Kd.R_alloc | apply Kd.R_drewN | apply Kd.R_drew)); exact HO_6.out) hb); have n1_ := Aside0.mk (below_step (by repeat (first | (with_reducible first | exact HB.out | apply below_alloc | apply pw_below_drewN | apply below_drew1) | exact HB.out)) hb); clear HO_6; clear HB; have HO_6 := n0_; have HB := n1_; clear n0_ n1_; (try clear hb); (try clear hb2); (try clear hk); (try clear hi)) | (go_at_call 15; (with_reducible refine (impl_CountsOf.calls t488 t502 t503 true _ A54.out).mono ?_); rintro e w63 ⟨rfl, hb⟩; have n0_ := Aside0.mk (Kd.R_below (by (with_reducible repeat (first | apply Kd.R_alloc | apply Kd.R_drewN | apply Kd.R_drew)); exact HO_6.out) hb); have n1_ := Aside0.mk (below_step (by repeat (first | (with_reducible first | exact HB.out | apply below_alloc | apply pw_below_drewN | apply below_drew1) | exact HB.out)) hb); clear HO_6; clear HB; have HO_6 := n0_; have HB := n1_; clear n0_ n1_; (try clear hb); (try clear hb2); (try clear hk); (try clear hi))); try go_wp2_with (first | (go_at_call 39; (with_reducible refine (impl_MirrorWord.calls t488 t497 true _ A52.out).mono ?_); rintro e w61 ⟨rfl, hb⟩; have n0_ := Aside0.mk (Kd.R_below (by (with_reducible repeat (first | apply Kd.R_alloc | apply Kd.R_drewN | apply Kd.R_drew)); exact HO_6.out) hb); have n1_ := Aside0.mk (below_step (by repeat (first | (with_reducible first | exact HB.out | apply below_alloc | apply pw_below_drewN | apply below_drew1) | exact HB.out)) hb); clear HO_6; clear HB; have HO_6 := n0_; have HB := n1_; clear n0_ n1_; (try clear hb); (try clear hb2); (try clear hk); (try clear hi)) | (go_at_call 15; (with_reducible refine (impl_CountsOf.calls t475 t499 t500 true _ A53.out).mono ?_); rintro e w62 ⟨rfl, hb⟩; have n0_ := Aside0.mk (Kd.R_below (by (with_reducible repeat (first | apply Kd.R_alloc | apply Kd.R_drewN | apply Kd.R_drew)); exact HO_6.out) hb); have n1_ := Aside0.mk (below_step (by repeat (first | (with_reducible first | exact HB.out | apply below_alloc | apply pw_below_drewN | apply below_drew1) | exact HB.out)) hb); clear HO_6; clear HB; have HO_6 := n0_; have HB := n1_; clear n0_ n1_; (try clear hb); (try clear hb2); (try clear hk); (try clear hi)) | (go_at_call 15; (with_reducible refine (impl_CountsOf.calls t488 t502 t503 true _ A54.out).mono ?_); rintro e w63 ⟨rfl, hb⟩; have n0_ := Aside0.mk (Kd.R_below (by (with_reducible repeat (first | apply Kd.R_alloc | apply Kd.R_drewN | apply Kd.R_drew)); exact HO_6.out) hb); have n1_ := Aside0.mk (below_step (by repeat (first | (with_reducible first | exact HB.out | apply below_alloc | apply pw_below_drewN | apply below_drew1) | exact HB.out)) hb); clear HO_6; clear HB; have HO_6 := n0_; have HB := n1_; clear n0_ n1_; (try clear hb); (try clear hb2); (try clear hk); (try clear hi))))
                 go_meet
                 case rel => exact ⟨_, H', ⟨by have := HJ11.out; have := HK2.out; first | omega | exact Nat.le_refl _⟩, ⟨by repeat (first | (with_reducible first | exact HB.out | apply below_alloc | apply pw_below_drewN | apply below_drew1) | exact HB.out)⟩⟩
                ·rw [if_neg c60] at H
                 have c60b0 : (t500 == t502) = false := beq_eq_false_iff_ne.mpr c60
                 have c60b1 : (t500 != t502) = true := bne_iff_ne.mpr c60
                 obtain rfl := Option.some.inj H
                 go_wp2_with (first | (go_at_call 39; (with_reducible refine (impl_MirrorWord.calls t488 t497 true _ A52.out).mono ?_); rintro e w64 ⟨rfl, hb⟩; have n0_ := Aside0.mk (Kd.R_below (by (with_reducible repeat (first | apply Kd.R_alloc | apply Kd.R_drewN | apply Kd.R_drew)); exact HO_6.out) hb); have n1_ := Aside0.mk (below_step (by repeat (first | (with_reducible first | exact HB.out | apply below_alloc | apply pw_below_drewN | apply below_drew1) | exact HB.out)) hb); clear HO_6; clear HB; have HO_6 := n0_; have HB := n1_; clear n0_ n1_; (try clear hb); (try clear hb2); (try clear hk); (try clear hi)) | (go_at_call 15; (with_reducible refine (impl_CountsOf.calls t475 t499 t500 true _ A53.out).mono ?_); rintro e w65 ⟨rfl, hb⟩; have n0_ := Aside0.mk (Kd.R_below (by (with_reducible repeat (first | apply Kd.R_alloc | apply Kd.R_drewN | apply Kd.R_drew)); exact HO_6.out) hb); have n1_ := Aside0.mk (below_step (by repeat (first | (with_reducible first | exact HB.out | apply below_alloc | apply pw_below_drewN | apply below_drew1) | exact HB.out)) hb); clear HO_6; clear HB; have HO_6 := n0_; have HB := n1_; clear n0_ n1_; (try clear hb); (try clear hb2); (try clear hk); (try clear hi)) | (go_at_call 15; (with_reducible refine (impl_CountsOf.calls t488 t502 t503 true _ A54.out).mono ?_); rintro e w66 ⟨rfl, hb⟩; have n0_ := Aside0.mk (Kd.R_below (by (with_reducible repeat (first | apply Kd.R_alloc | apply Kd.R_drewN | apply Kd.R_drew)); exact HO_6.out) hb); have n1_ := Aside0.mk (below_step (by repeat (first | (with_reducible first | exact HB.out | apply below_alloc | apply pw_below_drewN | apply below_drew1) | exact HB.out)) hb); clear HO_6; clear HB; have HO_6 := n0_; have HB := n1_; clear n0_ n1_; (try clear hb); (try clear hb2); (try clear hk); (try clear hi)))
                 repeat (go_quiet (first | (go_at_call 39; (with_reducible refine (impl_MirrorWord.calls t488 t497 true _ A52.out).mono ?_); rintro e w64 ⟨rfl, hb⟩; have n0_ := Aside0.mk (Kd.R_below (by (with_reducible repeat (first | apply Kd.R_alloc | apply Kd.R_drewN | apply Kd.R_drew)); exact HO_6.out) hb); have n1_ := Aside0.mk (below_step (by repeat (first | (with_reducible first | exact HB.out | apply below_alloc | apply pw_below_drewN | apply below_drew1) | exact HB.out)) hb); clear HO_6; clear HB; have HO_6 := n0_; have HB := n1_; clear n0_ n1_; (try clear hb); (try clear hb2); (try clear hk); (try clear hi)) | (go_at_call 15; (with_reducible refine (impl_CountsOf.calls t475 t499 t500 true _ A53.out).mono ?_); rintro e w65 ⟨rfl, hb⟩; have n0_ := Aside0.mk (Kd.R_below (by (with_reducible repeat (first | apply Kd.R_alloc | apply Kd.R_drewN | apply Kd.R_drew)); exact HO_6.out) hb); have n1_ := Aside0.mk (below_step (by repeat (first | (with_reducible first | exact HB.out | apply below_alloc | apply pw_below_drewN | apply below_drew1) | exact HB.out)) hb); clear HO_6; clear HB; have HO_6 := n0_; have HB := n1_; clear n0_ n1_; (try clear hb); (try clear hb2); (try clear hk); (try clear hi)) | (go_at_call 15; (with_reducible refine (impl_CountsOf.calls t488 t502 t503 true _ A54.out).mono ?_); rintro e w66 ⟨rfl, hb⟩; have n0_ := Aside0.mk (Kd.R_below (by (with_reducible repeat (first | apply Kd.R_alloc | apply Kd.R_drewN | apply Kd.R_drew)); exact HO_6.out) hb); have n1_ := Aside0.mk (below_step (by repeat (first | (with_reducible first | exact HB.out | apply below_alloc | apply pw_below_drewN | apply below_drew1) | exact HB.out)) hb); clear HO_6; clear HB; have HO_6 := n0_; have HB := n1_; clear n0_ n1_; (try clear hb); (try clear hb2); (try clear hk); (try clear hi))); try go_wp2_with (first | (go_at_call 39; (with_reducible refine (impl_MirrorWord.calls t488 t497 true _ A52.out).mono ?_); rintro e w64 ⟨rfl, hb⟩; have n0_ := Aside0.mk (Kd.R_below (by (with_reducible repeat (first | apply Kd.R_alloc | apply Kd.R_drewN | apply Kd.R_drew)); exact HO_6.out) hb); have n1_ := Aside0.mk (below_step (by repeat (first | (with_reducible first | exact HB.out | apply below_alloc | apply pw_below_drewN | apply below_drew1) | exact HB.out)) hb); clear HO_6; clear HB; have HO_6 := n0_; have HB := n1_; clear n0_ n1_; (try clear hb); (try clear hb2); (try clear hk); (try clear hi)) | (go_at_call 15; (with_reducible refine (impl_CountsOf.calls t475 t499 t500 true _ A53.out).mono ?_); rintro e w65 ⟨rfl, hb⟩; have n0_ := Aside0.mk (Kd.R_below (by (with_reducible repeat (first | apply Kd.R_alloc | apply Kd.R_drewN | apply Kd.R_drew)); exact HO_6.out) hb); have n1_ := Aside0.mk (below_step (by repeat (first | (with_reducible first | exact HB.out | apply below_alloc | apply pw_below_drewN | apply below_drew1) | exact HB.out)) hb); clear HO_6; clear HB; have HO_6 := n0_; have HB := n1_; clear n0_ n1_; (try clear hb); (try clear hb2); (try clear hk); (try clear hi)) | (go_at_call 15; (with_reducible refine (impl_CountsOf.calls t488 t502 t503 true _ A54.out).mono ?_); rintro e w66 ⟨rfl, hb⟩; have n0_ := Aside0.mk (Kd.R_below (by (with_reducible repeat (first | apply Kd.R_alloc | apply Kd.R_drewN | apply Kd.R_drew)); exact HO_6.out) hb); have n1_ := Aside0.mk (below_step (by repeat (first | (with_reducible first | exact HB.out | apply below_alloc | apply pw_below_drewN | apply below_drew1) | exact HB.out)) hb); clear HO_6; clear HB; have HO_6 := n0_; have HB := n1_; clear n0_ n1_; (try clear hb); (try clear hb2); (try clear hk); (try clear hi))))
                 go_ret
                 exact ⟨by first | rfl | (simp [errW_none, errW_some] <;> rfl) | (simp [*, errW_none, errW_some] <;> rfl), by repeat (first | (with_reducible first | exact HB.out | apply below_alloc | apply pw_below_drewN | apply below_drew1) | exact HB.out)⟩
               ·rw [if_neg c59] at H
                have c59b0 : (t499 == t503) = false := beq_eq_false_iff_ne.mpr c59
                have c59b1 : (t499 != t503) = true := bne_iff_ne.mpr c59
                obtain rfl := Option.some.inj H
                go_wp2_with (first | (go_at_call 39; (with_reducible refine (impl_MirrorWord.calls t488 t497 true _ A52.out).mono ?_); rintro e w67 ⟨rfl, hb⟩; have n0_ := Aside0.mk (Kd.R_below (by (with_reducible repeat (first | apply Kd.R_alloc | apply Kd.R_drewN | apply Kd.R_drew)); exact HO_6.out) hb); have n1_ := Aside0.mk (below_step (by repeat (first | (with_reducible first | exact HB.out | apply below_alloc | apply pw_below_drewN | apply below_drew1) | exact HB.out)) hb); clear HO_6; clear HB; have HO_6 := n0_; have HB := n1_; clear n0_ n1_; (try clear hb); (try clear hb2); (try clear hk); (try clear hi)) | (go_at_call 15; (with_reducible refine (impl_CountsOf.calls t475 t499 t500 true _ A53.out).mono ?_); rintro e w68 ⟨rfl, hb⟩; have n0_ := Aside0.mk (Kd.R_below (by (with_reducible repeat (first | apply Kd.R_alloc | apply Kd.R_drewN | apply Kd.R_drew)); exact HO_6.out) hb); have n1_ := Aside0.mk (below_step (by repeat (first | (with_reducible first | exact HB.out | apply below_alloc | apply pw_below_drewN | apply below_drew1) | exact HB.out)) hb); clear HO_6; clear HB; have HO_6 := n0_; have HB := n1_; clear n0_ n1_; (try clear hb); (try clear hb2); (try clear hk); (try clear hi)) | (go_at_call 15; (with_reducible refine (impl_CountsOf.calls t488 t502 t503 true _ A54.out).mono ?_); rintro e w69 ⟨rfl, hb⟩; have n0_ := Aside0.mk (Kd.R_below (by (with_reducible repeat (first | apply Kd.R_alloc | apply Kd.R_drewN | apply Kd.R_drew)); exact HO_6.out) hb); have n1_ := Aside0.mk (below_step (by repeat (first | (with_reducible first | exact HB.out | apply below_alloc | apply pw_below_drewN | apply below_drew1) | exact HB.out)) hb); clear HO_6; clear HB; have HO_6 := n0_; have HB := n1_; clear n0_ n1_; (try clear hb); (try clear hb2); (try clear hk); (try clear hi)))
                repeat (go_quiet (first | (go_at_call 39; (with_reducible refine (impl_MirrorWord.calls t488 t497 true _ A52.out).mono ?_); rintro e w67 ⟨rfl, hb⟩; have n0_ := Aside0.mk (Kd.R_below (by (with_reducible repeat (first | apply Kd.R_alloc | apply Kd.R_drewN | apply Kd.R_drew)); exact HO_6.out) hb); have n1_ := Aside0.mk (below_step (by repeat (first | (with_reducible first | exact HB.out | apply below_alloc | apply pw_below_drewN | apply below_drew1) | exact HB.out)) hb); clear HO_6; clear HB; have HO_6 := n0_; have HB := n1_; clear n0_ n1_; (try clear hb); (try clear hb2); (try clear hk); (try clear hi)) | (go_at_call 15; (with_reducible refine (impl_CountsOf.calls t475 t499 t500 true _ A53.out).mono ?_); rintro e w68 ⟨rfl, hb⟩; have n0_ := Aside0.mk (Kd.R_below (by (with_reducible repeat (first | apply Kd.R_alloc | apply Kd.R_drewN | apply Kd.R_drew)); exact HO_6.out) hb); have n1_ := Aside0.mk (below_step (by repeat (first | (with_reducible first | exact HB.out | apply below_alloc | apply pw_below_drewN | apply below_drew1) | exact HB.out)) hb); clear HO_6; clear HB; have HO_6 := n0_; have HB := n1_; clear n0_ n1_; (try clear hb); (try clear hb2); (try clear hk); (try clear hi)) | (go_at_call 15; (with_reducible refine (impl_CountsOf.calls t488 t502 t503 true _ A54.out).mono ?_); rintro e w69 ⟨rfl, hb⟩; have n0_ := Aside0.mk (Kd.R_below (by (with_reducible repeat (first | apply Kd.R_alloc | apply Kd.R_drewN | apply Kd.R_drew)); exact HO_6.out) hb); have n1_ := Aside0.mk (below_step (by repeat (first | (with_reducible first | exact HB.out | apply below_alloc | apply pw_below_drewN | apply below_drew1) | exact HB.out)) hb); clear HO_6; clear HB; have HO_6 := n0_; have HB := n1_; clear n0_ n1_; (try clear hb); (try clear hb2); (try clear hk); (try clear hi))); try go_wp2_with (first | (go_at_call 39; (with_reducible refine (impl_MirrorWord.calls t488 t497 true _ A52.out).mono ?_); rintro e w67 ⟨rfl, hb⟩; have n0_ := Aside0.mk (Kd.R_below (by (with_reducible repeat (first | apply Kd.R_alloc | apply Kd.R_drewN | apply Kd.R_drew)); exact HO_6.out) hb); have n1_ := Aside0.mk (below_step (by repeat (first | (with_reducible first | exact HB.out | apply below_alloc | apply pw_below_drewN | apply below_drew1) | exact HB.out)) hb); clear HO_6; clear HB; have HO_6 := n0_; have HB := n1_; clear n0_ n1_; (try clear hb); (try clear hb2); (try clear hk); (try clear hi)) | (go_at_call 15; (with_reducible refine (impl_CountsOf.calls t475 t499 t500 true _ A53.out).mono ?_); rintro e w68 ⟨rfl, hb⟩; have n0_ := Aside0.mk (Kd.R_below (by (with_reducible repeat (first | apply Kd.R_alloc | apply Kd.R_drewN | apply Kd.R_drew)); exact HO_6.out) hb); have n1_ := Aside0.mk (below_step (by repeat (first | (with_reducible first | exact HB.out | apply below_alloc | apply pw_below_drewN | apply below_drew1) | exact HB.out)) hb); clear HO_6; clear HB; have HO_6 := n0_; have HB := n1_; clear n0_ n1_; (try clear hb); (try clear hb2); (try clear hk); (try clear hi)) | (go_at_call 15; (with_reducible refine (impl_CountsOf.calls t488 t502 t503 true _ A54.out).mono ?_); rintro e w69 ⟨rfl, hb⟩; have n0_ := Aside0.mk (Kd.R_below (by (with_reducible repeat (first | apply Kd.R_alloc | apply Kd.R_drewN | apply Kd.R_drew)); exact HO_6.out) hb); have n1_ := Aside0.mk (below_step (by repeat (first | (with_reducible first | exact HB.out | apply below_alloc | apply pw_below_drewN | apply below_drew1) | exact HB.out)) hb); clear HO_6; clear HB; have HO_6 := n0_; have HB := n1_; clear n0_ n1_; (try clear hb); (try clear hb2); (try clear hk); (try clear hi))))
                go_ret
                exact ⟨by first | rfl | (simp [errW_none, errW_some] <;> rfl) | (simp [*, errW_none, errW_some] <;> rfl), by repeat (first | (with_reducible first | exact HB.out | apply below_alloc | apply pw_below_drewN | apply below_drew1) | exact HB.out)⟩
              ·replace c58 := Bool.eq_false_iff.mpr c58
               subst c58
               have H1 : (some false) = some r := by rw [if_neg (show ¬ (false = true) by decide)] at H; exact H
               clear H; have H := H1; clear H1
               obtain rfl := Option.some.inj H
               go_wp2_with (first | (go_at_call 39; (with_reducible refine (impl_MirrorWord.calls t488 t497 true _ A52.out).mono ?_); rintro e w70 ⟨rfl, hb⟩; have n0_ := Aside0.mk (Kd.R_below (by (with_reducible repeat (first | apply Kd.R_alloc | apply Kd.R_drewN | apply Kd.R_drew)); exact HO_6.out) hb); have n1_ := Aside0.mk (below_step (by repeat (first | (with_reducible first | exact HB.out | apply below_alloc | apply pw_below_drewN | apply below_drew1) | exact HB.out)) hb); clear HO_6; clear HB; have HO_6 := n0_; have HB := n1_; clear n0_ n1_; (try clear hb); (try clear hb2); (try clear hk); (try clear hi)) | (go_at_call 15; (with_reducible refine (impl_CountsOf.calls t475 t499 t500 true _ A53.out).mono ?_); rintro e w71 ⟨rfl, hb⟩; have n0_ := Aside0.mk (Kd.R_below (by (with_reducible repeat (first | apply Kd.R_alloc | apply Kd.R_drewN | apply Kd.R_drew)); exact HO_6.out) hb); have n1_ := Aside0.mk (below_step (by repeat (first | (with_reducible first | exact HB.out | apply below_alloc | apply pw_below_drewN | apply below_drew1) | exact HB.out)) hb); clear HO_6; clear HB; have HO_6 := n0_; have HB := n1_; clear n0_ n1_; (try clear hb); (try clear hb2); (try clear hk); (try clear hi)) | (go_at_call 15; (with_reducible refine (impl_CountsOf.calls t488 t502 t503 false _ A54.out).mono ?_); rintro e w72 ⟨rfl, hb⟩; have n0_ := Aside0.mk (Kd.R_below (by (with_reducible repeat (first | apply Kd.R_alloc | apply Kd.R_drewN | apply Kd.R_drew)); exact HO_6.out) hb); have n1_ := Aside0.mk (below_step (by repeat (first | (with_reducible first | exact HB.out | apply below_alloc | apply pw_below_drewN | apply below_drew1) | exact HB.out)) hb); clear HO_6; clear HB; have HO_6 := n0_; have HB := n1_; clear n0_ n1_; (try clear hb); (try clear hb2); (try clear hk); (try clear hi)))
               repeat (go_quiet (first | (go_at_call 39; (with_reducible refine (impl_MirrorWord.calls t488 t497 true _ A52.out).mono ?_); rintro e w70 ⟨rfl, hb⟩; have n0_ := Aside0.mk (Kd.R_below (by (with_reducible repeat (first | apply Kd.R_alloc | apply Kd.R_drewN | apply Kd.R_drew)); exact HO_6.out) hb); have n1_ := Aside0.mk (below_step (by repeat (first | (with_reducible first | exact HB.out | apply below_alloc | apply pw_below_drewN | apply below_drew1) | exact HB.out)) hb); clear HO_6; clear HB; have HO_6 := n0_; have HB := n1_; clear n0_ n1_; (try clear hb); (try clear hb2); (try clear hk); (try clear hi)) | (go_at_call 15; (with_reducible refine (impl_CountsOf.calls t475 t499 t500 true _ A53.out).mono ?_); rintro e w71 ⟨rfl, hb⟩; have n0_ := Aside0.mk (Kd.R_below (by (with_reducible repeat (first | apply Kd.R_alloc | apply Kd.R_drewN | apply Kd.R_drew)); exact HO_6.out) hb); have n1_ := Aside0.mk (below_step (by repeat (first | (with_reducible first | exact HB.out | apply below_alloc | apply pw_below_drewN | apply below_drew1) | exact HB.out)) hb); clear HO_6; clear HB; have HO_6 := n0_; have HB := n1_; clear n0_ n1_; (try clear hb); (try clear hb2); (try clear hk); (try clear hi)) | (go_at_call 15; (with_reducible refine (impl_CountsOf.calls t488 t502 t503 false _ A54.out).mono ?_); rintro e w72 ⟨rfl, hb⟩; have n0_ := Aside0.mk (Kd.R_below (by (with_reducible repeat (first | apply Kd.R_alloc | apply Kd.R_drewN | apply Kd.R_drew)); exact HO_6.out) hb); have n1_ := Aside0.mk (below_step (by repeat (first | (with_reducible first | exact HB.out | apply below_alloc | apply pw_below_drewN | apply below_drew1) | exact HB.out)) hb); clear HO_6; clear HB; have HO_6 := n0_; have HB := n1_; clear n0_ n1_; (try clear hb); (try clear hb2); (try clear hk); (try clear hi))); try go_wp2_with (first | (go_at_call 39; (with_reducible refine (impl_MirrorWord.calls t488 t497 true _ A52.out).mono ?_); rintro e w70 ⟨rfl, hb⟩; have n0_ := Aside0.mk (Kd.R_below (by (with_reducible repeat (first | apply Kd.R_alloc | apply Kd.R_drewN | apply Kd.R_drew)); exact HO_6.out) hb); have n1_ := Aside0.mk (below_step (by repeat (first | (with_reducible first | exact HB.out | apply below_alloc | apply pw_below_drewN | apply below_drew1) | exact HB.out)) hb); clear HO_6; clear HB; have HO_6 := n0_; have HB := n1_; clear n0_ n1_; (try clear hb); (try clear hb2); (try clear hk); (try clear hi)) | (go_at_call 15; (with_reducible refine (impl_CountsOf.calls t475 t499 t500 true _ A53.out).mono ?_); rintro e w71 ⟨rfl, hb⟩; have n0_ := Aside0.mk (Kd.R_below (by (with_reducible repeat (first | apply Kd.R_alloc | apply Kd.R_drewN | apply Kd.R_drew)); exact HO_6.out) hb); have n1_ := Aside0.mk (below_step (by repeat (first | (with_reducible first | exact HB.out | apply below_alloc | apply pw_below_drewN | apply below_drew1) | exact HB.out)) hb); clear HO_6; clear HB; have HO_6 := n0_; have HB := n1_; clear n0_ n1_; (try clear hb); (try clear hb2); (try clear hk); (try clear hi)) | (go_at_call 15; (with_reducible refine (impl_CountsOf.calls t488 t502 t503 false _ A54.out).mono ?_); rintro e w72 ⟨rfl, hb⟩; have n0_ := Aside0.mk (Kd.R_below (by (with_reducible repeat (first | apply Kd.R_alloc | apply Kd.R_drewN | apply Kd.R_drew)); exact HO_6.out) hb); have n1_ := Aside0.mk (below_step (by repeat (first | (with_reducible first | exact HB.out | apply below_alloc | apply pw_below_drewN | apply below_drew1) | exact HB.out)) hb); clear HO_6; clear HB; have HO_6 := n0_; have HB := n1_; clear n0_ n1_; (try clear hb); (try clear hb2); (try clear hk); (try clear hi))))
               go_ret
               exact ⟨by first | rfl | (simp [errW_none, errW_some] <;> rfl) | (simp [*, errW_none, errW_some] <;> rfl), by repeat (first | (with_reducible first | exact HB.out | apply below_alloc | apply pw_below_drewN | apply below_drew1) | exact HB.out)⟩
             ·replace c57 := Bool.eq_false_iff.mpr c57
              subst c57
              have H1 : (some false) = some r := by rw [if_neg (show ¬ (false = true) by decide)] at H; exact H
              clear H; have H := H1; clear H1
              obtain rfl := Option.some.inj H
              go_wp2_with (first | (go_at_call 39; (with_reducible refine (impl_MirrorWord.calls t488 t497 true _ A52.out).mono ?_); rintro e w73 ⟨rfl, hb⟩; have n0_ := Aside0.mk (Kd.R_below (by (with_reducible repeat (first | apply Kd.R_alloc | apply Kd.R_drewN | apply Kd.R_drew)); exact HO_6.out) hb); have n1_ := Aside0.mk (below_step (by repeat (first | (with_reducible first | exact HB.out | apply below_alloc | apply pw_below_drewN | apply below_drew1) | exact HB.out)) hb); clear HO_6; clear HB; have HO_6 := n0_; have HB := n1_; clear n0_ n1_; (try clear hb); (try clear hb2); (try clear hk); (try clear hi)) | (go_at_call 15; (with_reducible refine (impl_CountsOf.calls t475 t499 t500 false _ A53.out).mono ?_); rintro e w74 ⟨rfl, hb⟩; have n0_ := Aside0.mk (Kd.R_below (by (with_reducible repeat (first | apply Kd.R_alloc | apply Kd.R_drewN | apply Kd.R_drew)); exact HO_6.out) hb); have n1_ := Aside0.mk (below_step (by repeat (first | (with_reducible first | exact HB.out | apply below_alloc | apply pw_below_drewN | apply below_drew1) | exact HB.out)) hb); clear HO_6; clear HB; have HO_6 := n0_; have HB := n1_; clear n0_ n1_; (try clear hb); (try clear hb2); (try clear hk); (try clear hi)) | (go_at_call 15; (with_reducible refine (impl_CountsOf.calls t488 t502 t503 t504 _ A54.out).mono ?_); rintro e w75 ⟨rfl, hb⟩; have n0_ := Aside0.mk (Kd.R_below (by (with_reducible repeat (first | apply Kd.R_alloc | apply Kd.R_drewN | apply Kd.R_drew)); exact HO_6.out) hb); have n1_ := Aside0.mk (below_step (by repeat (first | (with_reducible first | exact HB.out | apply below_alloc | apply pw_below_drewN | apply below_drew1) | exact HB.out)) hb); clear HO_6; clear HB; have HO_6 := n0_; have HB := n1_; clear n0_ n1_; (try clear hb); (try clear hb2); (try clear hk); (try clear hi)))
              repeat (go_quiet (first | (go_at_call 39; (with_reducible refine (impl_MirrorWord.calls t488 t497 true _ A52.out).mono ?_); rintro e w73 ⟨rfl, hb⟩; have n0_ := Aside0.mk (Kd.R_below (by (with_reducible repeat (first | apply Kd.R_alloc | apply Kd.R_drewN | apply Kd.R_drew)); exact HO_6.out) hb); have n1_ := Aside0.mk (below_step (by repeat (first | (with_reducible first | exact HB.out | apply below_alloc | apply pw_below_drewN | apply below_drew1) | exact HB.out)) hb); clear HO_6; clear HB; have HO_6 := n0_; have HB := n1_; clear n0_ n1_; (try clear hb); (try clear hb2); (try clear hk); (try clear hi)) | (go_at_call 15; (with_reducible refine (impl_CountsOf.calls t475 t499 t500 false _ A53.out).mono ?_); rintro e w74 ⟨rfl, hb⟩; have n0_ := Aside0.mk (Kd.R_below (by (with_reducible repeat (first | apply Kd.R_alloc | apply Kd.R_drewN | apply Kd.R_drew)); exact HO_6.out) hb); have n1_ := Aside0.mk (below_step (by repeat (first | (with_reducible first | exact HB.out | apply below_alloc | apply pw_below_drewN | apply below_drew1) | exact HB.out)) hb); clear HO_6; clear HB; have HO_6 := n0_; have HB := n1_; clear n0_ n1_; (try clear hb); (try clear hb2); (try clear hk); (try clear hi)) | (go_at_call 15; (with_reducible refine (impl_CountsOf.calls t488 t502 t503 t504 _ A54.out).mono ?_); rintro e w75 ⟨rfl, hb⟩; have n0_ := Aside0.mk (Kd.R_below (by (with_reducible repeat (first | apply Kd.R_alloc | apply Kd.R_drewN | apply Kd.R_drew)); exact HO_6.out) hb); have n1_ := Aside0.mk (below_step (by repeat (first | (with_reducible first | exact HB.out | apply below_alloc | apply pw_below_drewN | apply below_drew1) | exact HB.out)) hb); clear HO_6; clear HB; have HO_6 := n0_; have HB := n1_; clear n0_ n1_; (try clear hb); (try clear hb2); (try clear hk); (try clear hi))); try go_wp2_with (first | (go_at_call 39; (with_reducible refine (impl_MirrorWord.calls t488 t497 true _ A52.out).mono ?_); rintro e w73 ⟨rfl, hb⟩; have n0_ := Aside0.mk (Kd.R_below (by (with_reducible repeat (first | apply Kd.R_alloc | apply Kd.R_drewN | apply Kd.R_drew)); exact HO_6.out) hb); have n1_ := Aside0.mk (below_step (by repeat (first | (with_reducible first | exact HB.out | apply below_alloc | apply pw_below_drewN | apply below_drew1) | exact HB.out)) hb); clear HO_6; clear HB; have HO_6 := n0_; have HB := n1_; clear n0_ n1_; (try clear hb); (try clear hb2); (try clear hk); (try clear hi)) | (go_at_call 15; (with_reducible refine (impl_CountsOf.calls t475 t499 t500 false _ A53.out).mono ?_); rintro e w74 ⟨rfl, hb⟩; have n0_ := Aside0.mk (Kd.R_below (by (with_reducible repeat (first | apply Kd.R_alloc | apply Kd.R_drewN | apply Kd.R_drew)); exact HO_6.out) hb); have n1_ := Aside0.mk (below_step (by repeat (first | (with_reducible first | exact HB.out | apply below_alloc | apply pw_below_drewN | apply below_drew1) | exact HB.out)) hb); clear HO_6; clear HB; have HO_6 := n0_; have HB := n1_; clear n0_ n1_; (try clear hb); (try clear hb2); (try clear hk); (try clear hi)) | (go_at_call 15; (with_reducible refine (impl_CountsOf.calls t488 t502 t503 t504 _ A54.out).mono ?_); rintro e w75 ⟨rfl, hb⟩; have n0_ := Aside0.mk (Kd.R_below (by (with_reducible repeat (first | apply Kd.R_alloc | apply Kd.R_drewN | apply Kd.R_drew)); exact HO_6.out) hb); have n1_ := Aside0.mk (below_step (by repeat (first | (with_reducible first | exact HB.out | apply below_alloc | apply pw_below_drewN | apply below_drew1) | exact HB.out)) hb); clear HO_6; clear HB; have HO_6 := n0_; have HB := n1_; clear n0_ n1_; (try clear hb); (try clear hb2); (try clear hk); (try clear hi))))
              go_ret
              exact ⟨by first | rfl | (simp [errW_none, errW_some] <;> rfl) | (simp [*, errW_none, errW_some] <;> rfl), by repeat (first | (with_reducible first | exact HB.out | apply below_alloc | apply pw_below_drewN | apply below_drew1) | exact HB.out)⟩
            ·rw [if_neg c56] at H
             have c56b0 : (t497.toList == t475.toList) = false := beq_eq_false_iff_ne.mpr c56
             have c56b1 : (t497.toList != t475.toList) = true := bne_iff_ne.mpr c56
             obtain rfl := Option.some.inj H
             go_wp2_with (first | (go_at_call 39; (with_reducible refine (impl_MirrorWord.calls t488 t497 true _ A52.out).mono ?_); rintro e w76 ⟨rfl, hb⟩; have n0_ := Aside0.mk (Kd.R_below (by (with_reducible repeat (first | apply Kd.R_alloc | apply Kd.R_drewN | apply Kd.R_drew)); exact HO_6.out) hb); have n1_ := Aside0.mk (below_step (by repeat (first | (with_reducible first | exact HB.out | apply below_alloc | apply pw_below_drewN | apply below_drew1) | exact HB.out)) hb); clear HO_6; clear HB; have HO_6 := n0_; have HB := n1_; clear n0_ n1_; (try clear hb); (try clear hb2); (try clear hk); (try clear hi)) | (go_at_call 15; (with_reducible refine (impl_CountsOf.calls t475 t499 t500 t501 _ A53.out).mono ?_); rintro e w77 ⟨rfl, hb⟩; have n0_ := Aside0.mk (Kd.R_below (by (with_reducible repeat (first | apply Kd.R_alloc | apply Kd.R_drewN | apply Kd.R_drew)); exact HO_6.out) hb); have n1_ := Aside0.mk (below_step (by repeat (first | (with_reducible first | exact HB.out | apply below_alloc | apply pw_below_drewN | apply below_drew1) | exact HB.out)) hb); clear HO_6; clear HB; have HO_6 := n0_; have HB := n1_; clear n0_ n1_; (try clear hb); (try clear hb2); (try clear hk); (try clear hi)) | (go_at_call 15; (with_reducible refine (impl_CountsOf.calls t488 t502 t503 t504 _ A54.out).mono ?_); rintro e w78 ⟨rfl, hb⟩; have n0_ := Aside0.mk (Kd.R_below (by (with_reducible repeat (first | apply Kd.R_alloc | apply Kd.R_drewN | apply Kd.R_drew)); exact HO_6.out) hb); have n1_ := Aside0.mk (below_step (by repeat (first | (with_reducible first | exact HB.out | apply below_alloc | apply pw_below_drewN | apply below_drew1) | exact HB.out)) hb); clear HO_6; clear HB; have HO_6 := n0_; have HB := n1_; clear n0_ n1_; (try clear hb); (try clear hb2); (try clear hk); (try clear hi)))
             repeat (go_quiet (first | (go_at_call 39; (with_reducible refine (impl_MirrorWord.calls t488 t497 true _ A52.out).mono ?_); rintro e w76 ⟨rfl, hb⟩; have n0_ := Aside0.mk (Kd.R_below (by (with_reducible repeat (first | apply Kd.R_alloc | apply Kd.R_drewN | apply Kd.R_drew)); exact HO_6.out) hb); have n1_ := Aside0.mk (below_step (by repeat (first | (with_reducible first | exact HB.out | apply below_alloc | apply pw_below_drewN | apply below_drew1) | exact HB.out)) hb); clear HO_6; clear HB; have HO_6 := n0_; have HB := n1_; clear n0_ n1_; (try clear hb); (try clear hb2); (try clear hk); (try clear hi)) | (go_at_call 15; (with_reducible refine (impl_CountsOf.calls t475 t499 t500 t501 _ A53.out).mono ?_); rintro e w77 ⟨rfl, hb⟩; have n0_ := Aside0.mk (Kd.R_below (by (with_reducible repeat (first | apply Kd.R_alloc | apply Kd.R_drewN | apply Kd.R_drew)); exact HO_6.out) hb); have n1_ := Aside0.mk (below_step (by repeat (first | (with_reducible first | exact HB.out | apply below_alloc | apply pw_below_drewN | apply below_drew1) | exact HB.out)) hb); clear HO_6; clear HB; have HO_6 := n0_; have HB := n1_; clear n0_ n1_; (try clear hb); (try clear hb2); (try clear hk); (try clear hi)) | (go_at_call 15; (with_reducible refine (impl_CountsOf.calls t488 t502 t503 t504 _ A54.out).mono ?_); rintro e w78 ⟨rfl, hb⟩; have n0_ := Aside0.mk (Kd.R_below (by (with_reducible repeat (first | apply Kd.R_alloc | apply Kd.R_drewN | apply Kd.R_drew)); exact HO_6.out) hb); have n1_ := Aside0.mk (below_step (by repeat (first | (with_reducible first | exact HB.out | apply below_alloc | apply pw_below_drewN | apply below_drew1) | exact HB.out)) hb); clear HO_6; clear HB; have HO_6 := n0_; have HB := n1_; clear n0_ n1_; (try clear hb); (try clear hb2); (try clear hk); (try clear hi))); try go_wp2_with (first | (go_at_call 39; (with_reducible refine (impl_MirrorWord.calls t488 t497 true _ A52.out).mono ?_); rintro e w76 ⟨rfl, hb⟩; have n0_ := Aside0.mk (Kd.R_below (by (with_reducible repeat (first | apply Kd.R_alloc | apply Kd.R_drewN | apply Kd.R_drew)); exact HO_6.out) hb); have n1_ := Aside0.mk (below_step (by repeat (first | (with_reducible first | exact HB.out | apply below_alloc | apply pw_below_drewN | apply below_drew1) | exact HB.out)) hb); clear HO_6; clear HB; have HO_6 := n0_; have HB := n1_; clear n0_ n1_; (try clear hb); (try clear hb2); (try clear hk); (try clear hi)) | (go_at_call 15; (with_reducible refine (impl_CountsOf.calls t475 t499 t500 t501 _ A53.out).mono ?_); rintro e w77 ⟨rfl, hb⟩; have n0_ := Aside0.mk (Kd.R_below (by (with_reducible repeat (first | apply Kd.R_alloc | apply Kd.R_drewN | apply Kd.R_drew)); exact HO_6.out) hb); have n1_ := Aside0.mk (below_step (by repeat (first | (with_reducible first | exact HB.out | apply below_alloc | apply pw_below_drewN | apply below_drew1) | exact HB.out)) hb); clear HO_6; clear HB; have HO_6 := n0_; have HB := n1_; clear n0_ n1_; (try clear hb); (try clear hb2); (try clear hk); (try clear hi)) | (go_at_call 15; (with_reducible refine (impl_CountsOf.calls t488 t502 t503 t504 _ A54.out).mono ?_); rintro e w78 ⟨rfl, hb⟩; have n0_ := Aside0.mk (Kd.R_below (by (with_reducible repeat (first | apply Kd.R_alloc | apply Kd.R_drewN | apply Kd.R_drew)); exact HO_6.out) hb); have n1_ := Aside0.mk (below_step (by repeat (first | (with_reducible first | exact HB.out | apply below_alloc | apply pw_below_drewN | apply below_drew1) | exact HB.out)) hb); clear HO_6; clear HB; have HO_6 := n0_; have HB := n1_; clear n0_ n1_; (try clear hb); (try clear hb2); (try clear hk); (try clear hi))))
             go_ret
             exact ⟨by first | rfl | (simp [errW_none, errW_some] <;> rfl) | (simp [*, errW_none, errW_some] <;> rfl), by repeat (first | (with_reducible first | exact HB.out | apply below_alloc | apply pw_below_drewN | apply below_drew1) | exact HB.out)⟩
           ·replace c55 := Bool.eq_false_iff.mpr c55
            subst c55
            have H1 : (some false) = some r := by rw [if_neg (show ¬ (false = true) by decide)] at H; exact H
            clear H; have H := H1; clear H1
            obtain rfl := Option.some.inj H
            go_wp2_with (first | (go_at_call 39; (with_reducible refine (impl_MirrorWord.calls t488 t497 false _ A52.out).mono ?_); rintro e w79 ⟨rfl, hb⟩; have n0_ := Aside0.mk (Kd.R_below (by (with_reducible repeat (first | apply Kd.R_alloc | apply Kd.R_drewN | apply Kd.R_drew)); exact HO_6.out) hb); have n1_ := Aside0.mk (below_step (by repeat (first | (with_reducible first | exact HB.out | apply below_alloc | apply pw_below_drewN | apply below_drew1) | exact HB.out)) hb); clear HO_6; clear HB; have HO_6 := n0_; have HB := n1_; clear n0_ n1_; (try clear hb); (try clear hb2); (try clear hk); (try clear hi)) | (go_at_call 15; (with_reducible refine (impl_CountsOf.calls t475 t499 t500 t501 _ A53.out).mono ?_); rintro e w80 ⟨rfl, hb⟩; have n0_ := Aside0.mk (Kd.R_below (by (with_reducible repeat (first | apply Kd.R_alloc | apply Kd.R_drewN | apply Kd.R_drew)); exact HO_6.out) hb); have n1_ := Aside0.mk (below_step (by repeat (first | (with_reducible first | exact HB.out | apply below_alloc | apply pw_below_drewN | apply below_drew1) | exact HB.out)) hb); clear HO_6; clear HB; have HO_6 := n0_; have HB := n1_; clear n0_ n1_; (try clear hb); (try clear hb2); (try clear hk); (try clear hi)) | (go_at_call 15; (with_reducible refine (impl_CountsOf.calls t488 t502 t503 t504 _ A54.out).mono ?_); rintro e w81 ⟨rfl, hb⟩; have n0_ := Aside0.mk (Kd.R_below (by (with_reducible repeat (first | apply Kd.R_alloc | apply Kd.R_drewN | apply Kd.R_drew)); exact HO_6.out) hb); have n1_ := Aside0.mk (below_step (by repeat (first | (with_reducible first | exact HB.out | apply below_alloc | apply pw_below_drewN | apply below_drew1) | exact HB.out)) hb); clear HO_6; clear HB; have HO_6 := n0_; have HB := n1_; clear n0_ n1_; (try clear hb); (try clear hb2); (try clear hk); (try clear hi)))
            repeat (go_quiet (first | (go_at_call 39; (with_reducible refine (impl_MirrorWord.calls t488 t497 false _ A52.out).mono ?_); rintro e w79 ⟨rfl, hb⟩; have n0_ := Aside0.mk (Kd.R_below (by (with_reducible repeat (first | apply Kd.R_alloc | apply Kd.R_drewN | apply Kd.R_drew)); exact HO_6.out) hb); have n1_ := Aside0.mk (below_step (by repeat (first | (with_reducible first | exact HB.out | apply below_alloc | apply pw_below_drewN | apply below_drew1) | exact HB.out)) hb); clear HO_6; clear HB; have HO_6 := n0_; have HB := n1_; clear n0_ n1_; (try clear hb); (try clear hb2); (try clear hk); (try clear hi)) | (go_at_call 15; (with_reducible refine (impl_CountsOf.calls t475 t499 t500 t501 _ A53.out).mono ?_); rintro e w80 ⟨rfl, hb⟩; have n0_ := Aside0.mk (Kd.R_below (by (with_reducible repeat (first | apply Kd.R_alloc | apply Kd.R_drewN | apply Kd.R_drew)); exact HO_6.out) hb); have n1_ := Aside0.mk (below_step (by repeat (first | (with_reducible first | exact HB.out | apply below_alloc | apply pw_below_drewN | apply below_drew1) | exact HB.out)) hb); clear HO_6; clear HB; have HO_6 := n0_; have HB := n1_; clear n0_ n1_; (try clear hb); (try clear hb2); (try clear hk); (try clear hi)) | (go_at_call 15; (with_reducible refine (impl_CountsOf.calls t488 t502 t503 t504 _ A54.out).mono ?_); rintro e w81 ⟨rfl, hb⟩; have n0_ := Aside0.mk (Kd.R_below (by (with_reducible repeat (first | apply Kd.R_alloc | apply Kd.R_drewN | apply Kd.R_drew)); exact HO_6.out) hb); have n1_ := Aside0.mk (below_step (by repeat (first | (with_reducible first | exact HB.out | apply below_alloc | apply pw_below_drewN | apply below_drew1) | exact HB.out)) hb); clear HO_6; clear HB; have HO_6 := n0_; have HB := n1_; clear n0_ n1_; (try clear hb); (try clear hb2); (try clear hk); (try clear hi))); try go_wp2_with (first | (go_at_call 39; (with_reducible refine (impl_MirrorWord.calls t488 t497 false _ A52.out).mono ?_); rintro e w79 ⟨rfl, hb⟩; have n0_ := Aside0.mk (Kd.R_below (by (with_reducible repeat (first | apply Kd.R_alloc | apply Kd.R_drewN | apply Kd.R_drew)); exact HO_6.out) hb); have n1_ := Aside0.mk (below_step (by repeat (first | (with_reducible first | exact HB.out | apply below_alloc | apply pw_below_drewN | apply below_drew1) | exact HB.out)) hb); clear HO_6; clear HB; have HO_6 := n0_; have HB := n1_; clear n0_ n1_; (try clear hb); (try clear hb2); (try clear hk); (try clear hi)) | (go_at_call 15; (with_reducible refine (impl_CountsOf.calls t475 t499 t500 t501 _ A53.out).mono ?_); rintro e w80 ⟨rfl, hb⟩; have n0_ := Aside0.mk (Kd.R_below (by (with_reducible repeat (first | apply Kd.R_alloc | apply Kd.R_drewN | apply Kd.R_drew)); exact HO_6.out) hb); have n1_ := Aside0.mk (below_step (by repeat (first | (with_reducible first | exact HB.out | apply below_alloc | apply pw_below_drewN | apply below_drew1) | exact HB.out)) hb); clear HO_6; clear HB; have HO_6 := n0_; have HB := n1_; clear n0_ n1_; (try clear hb); (try clear hb2); (try clear hk); (try clear hi)) | (go_at_call 15; (with_reducible refine (impl_CountsOf.calls t488 t502 t503 t504 _ A54.out).mono ?_); rintro e w81 ⟨rfl, hb⟩; have n0_ := Aside0.mk (Kd.R_below (by (with_reducible repeat (first | apply Kd.R_alloc | apply Kd.R_drewN | apply Kd.R_drew)); exact HO_6.out) hb); have n1_ := Aside0.mk (below_step (by repeat (first | (with_reducible first | exact HB.out | apply below_alloc | apply pw_below_drewN | apply below_drew1) | exact HB.out)) hb); clear HO_6; clear HB; have HO_6 := n0_; have HB := n1_; clear n0_ n1_; (try clear hb); (try clear hb2); (try clear hk); (try clear hi))))
            go_ret
            exact ⟨by first | rfl | (simp [errW_none, errW_some] <;> rfl) | (simp [*, errW_none, errW_some] <;> rfl), by repeat (first | (with_reducible first | exact HB.out | apply below_alloc | apply pw_below_drewN | apply below_drew1) | exact HB.out)⟩
       ·rw [if_neg c43] at H
        have c43b0 : (((t475.size : Int) % (t476.length : Int)) == 0) = false := beq_eq_false_iff_ne.mpr c43
        have c43b1 : (((t475.size : Int) % (t476.length : Int)) != 0) = true := bne_iff_ne.mpr c43
        obtain rfl := Option.some.inj H
        obtain ⟨Ao82, co82, eo82⟩ := Kd.R_slice HO_6.out
        subst eo82
        go_wp2
        repeat (go_quiet (fail); try go_wp2)
        go_ret
        exact ⟨by first | rfl | (simp [errW_none, errW_some] <;> rfl) | (simp [*, errW_none, errW_some] <;> rfl), by repeat (first | (with_reducible first | exact HB.out | apply below_alloc | apply pw_below_drewN | apply below_drew1) | exact HB.out)⟩
      ·replace c41 := Bool.eq_false_iff.mpr c41
       subst c41
       have H1 : (laws_FnLettersTurned.j2 kj11 l1) = some r := by rw [if_neg (show ¬ (false = true) by decide)] at H; exact H
       clear H; have H := H1; clear H1
       have H' := Aside0.mk H
       clear H
       go_wp2
       repeat (go_quiet (fail); try go_wp2)
       go_meet
       case rel => exact ⟨_, H', ⟨by have := HJ11.out; first | omega | exact Nat.le_refl _⟩, ⟨by repeat (first | (with_reducible first | exact HB.out | apply below_alloc | apply pw_below_drewN | apply below_drew1) | exact HB.out)⟩⟩
     case rest => as_aux_lemma =>
      clear HC40
      try clear c1
      try clear c2
      try clear p2
      try clear c3
      try clear c4
      try clear p4
      try clear q4
      try clear hx4
      try clear c5
      try clear c6
      try clear p6
      try clear c13
      try clear c18
      try clear c18b0
      try clear c18b1
      try clear c18b2
      try clear c20
      try clear c21
      try clear c21b0
      try clear c21b1
      try clear c21b2
      try clear c24
      try clear c24b0
      try clear c24b1
      try clear c24b2
      try clear c27
      try clear c27b0
      try clear c27b1
      try clear c27b2
      try clear c30
      try clear c30b0
      try clear c30b1
      try clear c39
      try clear c41
      try clear c42
      try clear c42b0
      try clear c42b1
      try clear c42b2
      try clear c43
      try clear c43b0
      try clear c43b1
      try clear c45
      try clear c45b0
      try clear c46
      try clear c46b0
      try clear c48
      try clear c48b0
      try clear c49
      try clear c49b0
      try clear p49
      try clear q49
      try clear hx49
      try clear c50
      try clear c50b0
      try clear c51
      try clear c51b0
      try clear c51b1
      try clear c51b2
      try clear c55
      try clear c56
      try clear c56b0
      try clear c56b1
      try clear c57
      try clear c58
      try clear c59
      try clear c59b0
      try clear c59b1
      try clear c60
      try clear c60b0
      try clear c60b1
      try clear p64
      try clear hx494_0
      try clear hx495_0
      try clear hx496_0
      try clear p2
      try clear p494
      try clear p495
      try clear p496
      try clear q494
      try clear q495
      try clear q496
      obtain ⟨kq, HA, HJ39, HB⟩ := hcut
      cases kq with
      | zero => exact absurd HA.out (by simp [laws_FnLettersTurned.j2])
      | succ kj39 =>
       have H := HA.out; clear HA
       simp only [laws_FnLettersTurned.j2] at H
       replace H := Option.bind_eq_some_iff.mp H
       obtain ⟨t505, A830, H⟩ := H
       replace H : ((impl_NeighbourWords.f kj39 t505).bind fun bt506 => ((spec_NeighbourWords.f kj39 t505).bind fun bt509 => (if (bt506.2.2 != bt509.2.2) = true then (laws_FnLettersTurned.j3 kj39 l1 t505 bt506.1 bt506.2.1 bt506.2.2 true) else (if bt506.1.toList = bt509.1.toList then (laws_FnLettersTurned.j3 kj39 l1 t505 bt506.1 bt506.2.1 bt506.2.2 (bt506.2.1.toList != bt509.2.1.toList)) else (laws_FnLettersTurned.j3 kj39 l1 t505 bt506.1 bt506.2.1 bt506.2.2 true))))) = some r := H
       have A83 := Aside0.mk A830
       clear A830
       replace H := Option.bind_eq_some_iff.mp H
       obtain ⟨⟨t506, t507, t508⟩, A840, H⟩ := H
       replace H : ((spec_NeighbourWords.f kj39 t505).bind fun bt509 => (if (t508 != bt509.2.2) = true then (laws_FnLettersTurned.j3 kj39 l1 t505 t506 t507 t508 true) else (if t506.toList = bt509.1.toList then (laws_FnLettersTurned.j3 kj39 l1 t505 t506 t507 t508 (t507.toList != bt509.2.1.toList)) else (laws_FnLettersTurned.j3 kj39 l1 t505 t506 t507 t508 true)))) = some r := H
       have A84 := Aside0.mk A840
       clear A840
       replace H := Option.bind_eq_some_iff.mp H
       obtain ⟨⟨t509, t510, t511⟩, A850, H⟩ := H
       replace H : (if (t508 != t511) = true then (laws_FnLettersTurned.j3 kj39 l1 t505 t506 t507 t508 true) else (if t506.toList = t509.toList then (laws_FnLettersTurned.j3 kj39 l1 t505 t506 t507 t508 (t507.toList != t510.toList)) else (laws_FnLettersTurned.j3 kj39 l1 t505 t506 t507 t508 true))) = some r := H
       have A85 := Aside0.mk A850
       clear A850
       have HC86 := Aside0.mk H
       clear H
       go_upto_region 28 with (first | (go_at_call 45; (with_reducible refine (spec_DrawNeighbourWords.calls kj39 _ _ l1 t505 _ ?side1 ?side2 A83.out).mono ?_); (case side1 => repeat (first | exact (Kd.C_below HR1.out HB.out) | (with_reducible refine Kd.C_alloc ?_ _) | (with_reducible refine Kd.C_drewN ?_ _) | (with_reducible refine Kd.C_drew ?_))); (case side2 => exact HC1.out); rintro e w87 ⟨rfl, hb⟩; have n0_ := Aside0.mk (below_step (by repeat (first | (with_reducible first | exact HB.out | apply below_alloc | apply pw_below_drewN | apply below_drew1) | exact HB.out)) hb); clear HB; have HB := n0_; clear n0_; (try clear hb); (try clear hb2); (try clear hk); (try clear hi)) | (go_at_call 25; (with_reducible refine (impl_NeighbourWords.calls kj39 t505 t506 t507 t508 _ A84.out).mono ?_); rintro e w88 ⟨rfl, hb⟩; have n0_ := Aside0.mk (below_step (by repeat (first | (with_reducible first | exact HB.out | apply below_alloc | apply pw_below_drewN | apply below_drew1) | exact HB.out)) hb); clear HB; have HB := n0_; clear n0_; (try clear hb); (try clear hb2); (try clear hk); (try clear hi)) | (go_at_call 24; (with_reducible refine (spec_NeighbourWords.calls kj39 t505 t509 t510 t511 _ A85.out).mono ?_); rintro e w' ⟨rfl, ⟨nd, rfl⟩⟩; (try first | exact ⟨rfl, _, World.drewN_drewN _ _ _⟩ | exact ⟨rfl, _, Eq.trans (World.drewN_drewN _ _ _) (congrArg (World.drewN _) (Nat.add_assoc _ _ _))⟩)))
       repeat (go_quiet (first | (go_at_call 45; (with_reducible refine (spec_DrawNeighbourWords.calls kj39 _ _ l1 t505 _ ?side1 ?side2 A83.out).mono ?_); (case side1 => repeat (first | exact (Kd.C_below HR1.out HB.out) | (with_reducible refine Kd.C_alloc ?_ _) | (with_reducible refine Kd.C_drewN ?_ _) | (with_reducible refine Kd.C_drew ?_))); (case side2 => exact HC1.out); rintro e w87 ⟨rfl, hb⟩; have n0_ := Aside0.mk (below_step (by repeat (first | (with_reducible first | exact HB.out | apply below_alloc | apply pw_below_drewN | apply below_drew1) | exact HB.out)) hb); clear HB; have HB := n0_; clear n0_; (try clear hb); (try clear hb2); (try clear hk); (try clear hi)) | (go_at_call 25; (with_reducible refine (impl_NeighbourWords.calls kj39 t505 t506 t507 t508 _ A84.out).mono ?_); rintro e w88 ⟨rfl, hb⟩; have n0_ := Aside0.mk (below_step (by repeat (first | (with_reducible first | exact HB.out | apply below_alloc | apply pw_below_drewN | apply below_drew1) | exact HB.out)) hb); clear HB; have HB := n0_; clear n0_; (try clear hb); (try clear hb2); (try clear hk); (try clear hi)) | (go_at_call 24; (with_reducible refine (spec_NeighbourWords.calls kj39 t505 t509 t510 t511 _ A85.out).mono ?_); rintro e w' ⟨rfl, ⟨nd, rfl⟩⟩; (try first | exact ⟨rfl, _, World.drewN_drewN _ _ _⟩ | exact ⟨rfl, _, Eq.trans (World.drewN_drewN _ _ _) (congrArg (World.drewN _) (Nat.add_assoc _ _ _))⟩))); go_upto_region 28 with (first | (go_at_call 45; (with_reducible refine (spec_DrawNeighbourWords.calls kj39 _ _ l1 t505 _ ?side1 ?side2 A83.out).mono ?_); (case side1 => repeat (first | exact (Kd.C_below HR1.out HB.out) | (with_reducible refine Kd.C_alloc ?_ _) | (with_reducible refine Kd.C_drewN ?_ _) | (with_reducible refine Kd.C_drew ?_))); (case side2 => exact HC1.out); rintro e w87 ⟨rfl, hb⟩; have n0_ := Aside0.mk (below_step (by repeat (first | (with_reducible first | exact HB.out | apply below_alloc | apply pw_below_drewN | apply below_drew1) | exact HB.out)) hb); clear HB; have HB := n0_; clear n0_; (try clear hb); (try clear hb2); (try clear hk); (try clear hi)) | (go_at_call 25; (with_reducible refine (impl_NeighbourWords.calls kj39 t505 t506 t507 t508 _ A84.out).mono ?_); rintro e w88 ⟨rfl, hb⟩; have n0_ := Aside0.mk (below_step (by repeat (first | (with_reducible first | exact HB.out | apply below_alloc | apply pw_below_drewN | apply below_drew1) | exact HB.out)) hb); clear HB; have HB := n0_; clear n0_; (try clear hb); (try clear hb2); (try clear hk); (try clear hi)) | (go_at_call 24; (with_reducible refine (spec_NeighbourWords.calls kj39 t505 t509 t510 t511 _ A85.out).mono ?_); rintro e w' ⟨rfl, ⟨nd, rfl⟩⟩; (try first | exact ⟨rfl, _, World.drewN_drewN _ _ _⟩ | exact ⟨rfl, _, Eq.trans (World.drewN_drewN _ _ _) (congrArg (World.drewN _) (Nat.add_assoc _ _ _))⟩))))
       (try simp only [Act.put, List.setIfInBounds_toArray, List.set_cons_zero, List.set_cons_succ])
       go_cut [220] (fun v220 wc => ∃ (kq : Nat) (x220_85 : Bool), v220 = .bool x220_85 ∧ Aside0 (laws_FnLettersTurned.j3 kq l1 t505 t506 t507 t508 x220_85 = some r) ∧ Aside0 (kq ≤ kj39) ∧ Aside0 (Below w.heap.size w wc))
       case first => as_aux_lemma =>
        have H := HC86.out; clear HC86
        by_cases c89 : (t508 != t511) = true
        ·as_aux_lemma =>
         rw [if_pos c89] at H
         have c89b0 : (t508 != t511) = true := c89
         (try (have c89b1 : decide (t508 = t511) = false := by simpa using c89))
         (try (have c89b2 : (t508 == t511) = false := by simpa using c89))
         (try (have c89b3 : ¬ (t508 = t511) := by simpa using c89))
         clear c89
         (first | rw [c89b0] | (simp only [i64_w, i32_w]; rw [c89b0]) | skip)
         have H' := Aside0.mk H
         clear H
         go_wp2
         repeat (go_quiet (fail); try go_wp2)
         go_meet
         case rel => exact ⟨_, (true), (by first | rfl | (simp; done) | (simp [*]; done)), H', ⟨by have := HJ11.out; have := HJ39.out; first | omega | exact Nat.le_refl _⟩, ⟨by repeat (first | (with_reducible first | exact HB.out | apply below_alloc | apply pw_below_drewN | apply below_drew1) | exact HB.out)⟩⟩
        ·as_aux_lemma =>
         rw [if_neg c89] at H
         have c89b0 : (t508 != t511) = false := by simpa using c89
         (try (have c89b1 : decide (t508 = t511) = true := by simpa using c89))
         (try (have c89b2 : (t508 == t511) = true := by simpa using c89))
         clear c89
         (first | rw [c89b0] | (simp only [i64_w, i32_w]; rw [c89b0]) | skip)
         by_cases c90 : t506.toList = t509.toList
         ·rw [if_pos c90] at H
          have c90b0 : (t506.toList == t509.toList) = true := beq_iff_eq.mpr c90
          have c90b1 : (t506.toList != t509.toList) = false := bne_eq_false_iff_eq.mpr c90
          clear c90
          have H' := Aside0.mk H
          clear H
          go_wp2
          repeat (go_quiet (fail); try go_wp2)
          go_meet
          case rel => exact ⟨_, ((t507.toList != t510.toList)), (by first | rfl | (simp; done) | (simp [*]; done)), H', ⟨by have := HJ11.out; have := HJ39.out; first | omega | exact Nat.le_refl _⟩, ⟨by repeat (first | (with_reducible first | exact HB.out | apply below_alloc | apply pw_below_drewN | apply below_drew1) | exact HB.out)⟩⟩
         ·rw [if_neg c90] at H
          have c90b0 : (t506.toList == t509.toList) = false := beq_eq_false_iff_ne.mpr c90
          have c90b1 : (t506.toList != t509.toList) = true := bne_iff_ne.mpr c90
          have H' := Aside0.mk H
          clear H
          go_wp2
          repeat (go_quiet (fail); try go_wp2)
          go_meet
          case rel => exact ⟨_, (true), (by first | rfl | (simp; done) | (simp [*]; done)), H', ⟨by have := HJ11.out; have := HJ39.out; first | omega | exact Nat.le_refl _⟩, ⟨by repeat (first | (with_reducible first | exact HB.out | apply below_alloc | apply pw_below_drewN | apply below_drew1) | exact HB.out)⟩⟩
       case rest => as_aux_lemma =>
        clear HC86
        try clear c1
        try clear c2
        try clear p2
        try clear c3
        try clear c4
        try clear p4
        try clear q4
        try clear hx4
        try clear c5
        try clear c6
        try clear p6
        try clear c8
        try clear c9
        try clear c13
        try clear c18
        try clear c18b0
        try clear c18b1
        try clear c18b2
        try clear c20
        try clear c21
        try clear c21b0
        try clear c21b1
        try clear c21b2
        try clear c24
        try clear c24b0
        try clear c24b1
        try clear c24b2
        try clear c27
        try clear c27b0
        try clear c27b1
        try clear c27b2
        try clear c30
        try clear c30b0
        try clear c30b1
        try clear c39
        try clear c41
        try clear c42
        try clear c42b0
        try clear c42b1
        try clear c42b2
        try clear c43
        try clear c43b0
        try clear c43b1
        try clear c45
        try clear c45b0
        try clear c46
        try clear c46b0
        try clear c48
        try clear c48b0
        try clear c49
        try clear c49b0
        try clear p49
        try clear q49
        try clear hx49
        try clear c50
        try clear c50b0
        try clear c51
        try clear c51b0
        try clear c51b1
        try clear c51b2
        try clear c55
        try clear c56
        try clear c56b0
        try clear c56b1
        try clear c57
        try clear c58
        try clear c59
        try clear c59b0
        try clear c59b1
        try clear c60
        try clear c60b0
        try clear c60b1
        try clear p64
        try clear c89
        try clear c89b0
        try clear c89b1
        try clear c89b2
        try clear c90
        try clear c90b0
        try clear c90b1
        try clear hx494_0
        try clear hx495_0
        try clear hx496_0
        try clear p2
        try clear p4
        try clear p49
        try clear p494
        try clear p495
        try clear p496
        try clear p6
        try clear p64
        try clear q4
        try clear q49
        try clear q494
        try clear q495
        try clear q496
        obtain ⟨kq, x220_85, rfl, HA, HJ85, HB⟩ := hcut
        cases kq with
        | zero => exact absurd HA.out (by simp [laws_FnLettersTurned.j3])
        | succ kj85 =>
         have H := HA.out; clear HA
         simp only [laws_FnLettersTurned.j3] at H
         by_cases c91 : x220_85 = true
         ·subst c91
          have H1 : (some false) = some r := by rw [if_pos rfl] at H; exact H
          clear H; have H := H1; clear H1
          obtain rfl := Option.some.inj H
          go_wp2
          repeat (go_quiet (fail); try go_wp2)
          go_ret
          exact ⟨by first | rfl | (simp [errW_none, errW_some] <;> rfl) | (simp [*, errW_none, errW_some] <;> rfl), by repeat (first | (with_reducible first | exact HB.out | apply below_alloc | apply pw_below_drewN | apply below_drew1) | exact HB.out)⟩
         ·as_aux_lemma =>
          replace c91 := Bool.eq_false_iff.mpr c91
          subst c91
          have H1 : (if t508 = true then ((impl_FactorsOf.f kj85 t505).bind fun bt512 => ((impl_FactorsOf.f kj85 t506).bind fun bt515 => ((impl_FactorsOf.f kj85 t507).bind fun bt518 => (if bt512.2.2 = true then (if bt515.2.2 = true then (if bt518.2.2 = true then (if bt515.1.toList = bt512.1.toList then (if bt515.2.1.toList = t505.toList then (if bt518.1.toList = t505.toList then (if bt518.2.1.toList = bt512.2.1.toList then (laws_FnLettersTurned.j4 kj85 l1) else (some false)) else (some false)) else (some false)) else (some false)) else (some false)) else (some false)) else (some false))))) else (laws_FnLettersTurned.j4 kj85 l1)) = some r := by rw [if_neg (show ¬ (false = true) by decide)] at H; exact H
          clear H; have H := H1; clear H1
          have HC92 := Aside0.mk H
          clear H
          go_upto_if 221 with (fail)
          repeat (go_quiet (fail); go_upto_if 221 with (fail))
          go_cut [] (fun wc => ∃ (kq : Nat), Aside0 (laws_FnLettersTurned.j4 kq l1 = some r) ∧ Aside0 (kq ≤ kj85) ∧ Aside0 (Below w.heap.size w wc))
          case first => as_aux_lemma =>
           have H := HC92.out; clear HC92
           by_cases c93 : t508 = true
           ·as_aux_lemma =>
            subst c93
            have H1 : ((impl_FactorsOf.f kj85 t505).bind fun bt512 => ((impl_FactorsOf.f kj85 t506).bind fun bt515 => ((impl_FactorsOf.f kj85 t507).bind fun bt518 => (if bt512.2.2 = true then (if bt515.2.2 = true then (if bt518.2.2 = true then (if bt515.1.toList = bt512.1.toList then (if bt515.2.1.toList = t505.toList then (if bt518.1.toList = t505.toList then (if bt518.2.1.toList = bt512.2.1.toList then (laws_FnLettersTurned.j4 kj85 l1) else (some false)) else (some false)) else (some false)) else (some false)) else (some false)) else (some false)) else (some false))))) = some r := by rw [if_pos rfl] at H; exact H
            clear H; have H := H1; clear H1
            replace H := Option.bind_eq_some_iff.mp H
            obtain ⟨⟨t512, t513, t514⟩, A940, H⟩ := H
            replace H : ((impl_FactorsOf.f kj85 t506).bind fun bt515 => ((impl_FactorsOf.f kj85 t507).bind fun bt518 => (if t514 = true then (if bt515.2.2 = true then (if bt518.2.2 = true then (if bt515.1.toList = t512.toList then (if bt515.2.1.toList = t505.toList then (if bt518.1.toList = t505.toList then (if bt518.2.1.toList = t513.toList then (laws_FnLettersTurned.j4 kj85 l1) else (some false)) else (some false)) else (some false)) else (some false)) else (some false)) else (some false)) else (some false)))) = some r := H
            have A94 := Aside0.mk A940
            clear A940
            replace H := Option.bind_eq_some_iff.mp H
            obtain ⟨⟨t515, t516, t517⟩, A950, H⟩ := H
            replace H : ((impl_FactorsOf.f kj85 t507).bind fun bt518 => (if t514 = true then (if t517 = true then (if bt518.2.2 = true then (if t515.toList = t512.toList then (if t516.toList = t505.toList then (if bt518.1.toList = t505.toList then (if bt518.2.1.toList = t513.toList then (laws_FnLettersTurned.j4 kj85 l1) else (some false)) else (some false)) else (some false)) else (some false)) else (some false)) else (some false)) else (some false))) = some r := H
            have A95 := Aside0.mk A950
            clear A950
            replace H := Option.bind_eq_some_iff.mp H
            obtain ⟨⟨t518, t519, t520⟩, A960, H⟩ := H
            replace H : (if t514 = true then (if t517 = true then (if t520 = true then (if t515.toList = t512.toList then (if t516.toList = t505.toList then (if t518.toList = t505.toList then (if t519.toList = t513.toList then (laws_FnLettersTurned.j4 kj85 l1) else (some false)) else (some false)) else (some false)) else (some false)) else (some false)) else (some false)) else (some false)) = some r := H
            have A96 := Aside0.mk A960
            clear A960
            by_cases c97 : t514 = true
            ·as_aux_lemma =>
             subst c97
             have H1 : (if t517 = true then (if t520 = true then (if t515.toList = t512.toList then (if t516.toList = t505.toList then (if t518.toList = t505.toList then (if t519.toList = t513.toList then (laws_FnLettersTurned.j4 kj85 l1) else (some false)) else (some false)) else (some false)) else (some false)) else (some false)) else (some false)) = some r := by rw [if_pos rfl] at H; exact H
             clear H; have H := H1; clear H1
             by_cases c98 : t517 = true
             ·as_aux_lemma =>
              subst c98
              have H1 : (if t520 = true then (if t515.toList = t512.toList then (if t516.toList = t505.toList then (if t518.toList = t505.toList then (if t519.toList = t513.toList then (laws_FnLettersTurned.j4 kj85 l1) else (some false)) else (some false)) else (some false)) else (some false)) else (some false)) = some r := by rw [if_pos rfl] at H; exact H
              clear H; have H := H1; clear H1
              by_cases c99 : t520 = true
              ·as_aux_lemma =>
               subst c99
               have H1 : (if t515.toList = t512.toList then (if t516.toList = t505.toList then (if t518.toList = t505.toList then (if t519.toList = t513.toList then (laws_FnLettersTurned.j4 kj85 l1) else (some false)) else (some false)) else (some false)) else (some false)) = some r := by rw [if_pos rfl] at H; exact H
               clear H; have H := H1; clear H1
               by_cases c100 : t515.toList = t512.toList
               ·as_aux_lemma =>
                rw [if_pos c100] at H
                have c100b0 : (t515.toList == t512.toList) = true := beq_iff_eq.mpr c100
                have c100b1 : (t515.toList != t512.toList) = false := bne_eq_false_iff_eq.mpr c100
                clear c100
                (first | rw [c100b0] | (simp only [i64_w, i32_w]; rw [c100b0]) | skip)
                by_cases c101 : t516.toList = t505.toList
                ·as_aux_lemma =>
                 rw [if_pos c101] at H
                 have c101b0 : (t516.toList == t505.toList) = true := beq_iff_eq.mpr c101
                 have c101b1 : (t516.toList != t505.toList) = false := bne_eq_false_iff_eq.mpr c101
                 clear c101
                 by_cases c102 : t518.toList = t505.toList
                 ·as_aux_lemma =>
                  rw [if_pos c102] at H
                  have c102b0 : (t518.toList == t505.toList) = true := beq_iff_eq.mpr c102
                  have c102b1 : (t518.toList != t505.toList) = false := bne_eq_false_iff_eq.mpr c102
                  clear c102
                  by_cases c103 : t519.toList = t513.toList
                  ·rw [if_pos c103] at H
                   have c103b0 : (t519.toList == t513.toList) = true := beq_iff_eq.mpr c103
                   have c103b1 : (t519.toList != t513.toList) = false := bne_eq_false_iff_eq.mpr c103
                   clear c103
                   have H' := Aside0.mk H
                   clear H
                   go_wp2_with (first | (go_at_call 23; (with_reducible refine (impl_FactorsOf.calls kj85 t505 t512 t513 true _ A94.out).mono ?_); rintro e w104 ⟨rfl, hb⟩; have n0_ := Aside0.mk (below_step (by repeat (first | (with_reducible first | exact HB.out | apply below_alloc | apply pw_below_drewN | apply below_drew1) | exact HB.out)) hb); clear HB; have HB := n0_; clear n0_; (try clear hb); (try clear hb2); (try clear hk); (try clear hi)) | (go_at_call 23; (with_reducible refine (impl_FactorsOf.calls kj85 t506 t515 t516 true _ A95.out).mono ?_); rintro e w105 ⟨rfl, hb⟩; have n0_ := Aside0.mk (below_step (by repeat (first | (with_reducible first | exact HB.out | apply below_alloc | apply pw_below_drewN | apply below_drew1) | exact HB.out)) hb); clear HB; have HB := n0_; clear n0_; (try clear hb); (try clear hb2); (try clear hk); (try clear hi)) | (go_at_call 23; (with_reducible refine (impl_FactorsOf.calls kj85 t507 t518 t519 true _ A96.out).mono ?_); rintro e w106 ⟨rfl, hb⟩; have n0_ := Aside0.mk (below_step (by repeat (first | (with_reducible first | exact HB.out | apply below_alloc | apply pw_below_drewN | apply below_drew1) | exact HB.out)) hb); clear HB; have HB := n0_; clear n0_; (try clear hb); (try clear hb2); (try clear hk); (try clear hi)))
                   repeat (go_quiet (first | (go_at_call 23; (with_reducible refine (impl_FactorsOf.calls kj85 t505 t512 t513 true _ A94.out).mono ?_); rintro e w104 ⟨rfl, hb⟩; have n0_ := Aside0.mk (below_step (by repeat (first | (with_reducible first | exact HB.out | apply below_alloc | apply pw_below_drewN | apply below_drew1) | exact HB.out)) hb); clear HB; have HB := n0_; clear n0_; (try clear hb); (try clear hb2); (try clear hk); (try clear hi)) | (go_at_call 23; (with_reducible refine (impl_FactorsOf.calls kj85 t506 t515 t516 true _ A95.out).mono ?_); rintro e w105 ⟨rfl, hb⟩; have n0_ := Aside0.mk (below_step (by repeat (first | (with_reducible first | exact HB.out | apply below_alloc | apply pw_below_drewN | apply below_drew1) | exact HB.out)) hb); clear HB; have HB := n0_; clear n0_; (try clear hb); (try clear hb2); (try clear hk); (try clear hi)) | (go_at_call 23; (with_reducible refine (impl_FactorsOf.calls kj85 t507 t518 t519 true _ A96.out).mono ?_); rintro e w106 ⟨rfl, hb⟩; have n0_ := Aside0.mk (below_step (by repeat (first | (with_reducible first | exact HB.out | apply below_alloc | apply pw_below_drewN | apply below_drew1) | exact HB.out)) hb); clear HB; have HB := n0_; clear n0_; (try clear hb); (try clear hb2); (try clear hk); (try clear hi))); try go_wp2_with (first | (go_at_call 23; (with_reducible refine (impl_FactorsOf.calls kj85 t505 t512 t513 true _ A94.out).mono ?_); rintro e w104 ⟨rfl, hb⟩; have n0_ := Aside0.mk (below_step (by repeat (first | (with_reducible first | exact HB.out | apply below_alloc | apply pw_below_drewN | apply below_drew1) | exact HB.out)) hb); clear HB; have HB := n0_; clear n0_; (try clear hb); (try clear hb2); (try clear hk); (try clear hi)) | (go_at_call 23; (with_reducible refine (impl_FactorsOf.calls kj85 t506 t515 t516 true _ A95.out).mono ?_); rintro e w105 ⟨rfl, hb⟩; have n0_ := Aside0.mk (below_step (by repeat (first | (with_reducible first | exact HB.out | apply below_alloc | apply pw_below_drewN | apply below_drew1) | exact HB.out)) hb); clear HB; have HB := n0_; clear n0_; (try clear hb); (try clear hb2); (try clear hk); (try clear hi)) | (go_at_call 23; (with_reducible refine (impl_FactorsOf.calls kj85 t507 t518 t519 true _ A96.out).mono ?_); rintro e w106 ⟨rfl, hb⟩; have n0_ := Aside0.mk (below_step (by repeat (first | (with_reducible first | exact HB.out | apply below_alloc | apply pw_below_drewN | apply below_drew1) | exact HB.out)) hb); clear HB; have HB := n0_; clear n0_; (try clear hb); (try clear hb2); (try clear hk); (try clear hi))))
                   go_meet
                   case rel => exact ⟨_, H', ⟨by have := HJ11.out; have := HJ39.out; have := HJ85.out; first | omega | exact Nat.le_refl _⟩, ⟨by repeat (first | (with_reducible first | exact HB.out | apply below_alloc | apply pw_below_drewN | apply below_drew1) | exact HB.out)⟩⟩
                  ·rw [if_neg c103] at H
                   have c103b0 : (t519.toList == t513.toList) = false := beq_eq_false_iff_ne.mpr c103
                   have c103b1 : (t519.toList != t513.toList) = true := bne_iff_ne.mpr c103
                   obtain rfl := Option.some.inj H
                   go_wp2_with (first | (go_at_call 23; (with_reducible refine (impl_FactorsOf.calls kj85 t505 t512 t513 true _ A94.out).mono ?_); rintro e w107 ⟨rfl, hb⟩; have n0_ := Aside0.mk (below_step (by repeat (first | (with_reducible first | exact HB.out | apply below_alloc | apply pw_below_drewN | apply below_drew1) | exact HB.out)) hb); clear HB; have HB := n0_; clear n0_; (try clear hb); (try clear hb2); (try clear hk); (try clear hi)) | (go_at_call 23; (with_reducible refine (impl_FactorsOf.calls kj85 t506 t515 t516 true _ A95.out).mono ?_); rintro e w108 ⟨rfl, hb⟩; have n0_ := Aside0.mk (below_step (by repeat (first | (with_reducible first | exact HB.out | apply below_alloc | apply pw_below_drewN | apply below_drew1) | exact HB.out)) hb); clear HB; have HB := n0_; clear n0_; (try clear hb); (try clear hb2); (try clear hk); (try clear hi)) | (go_at_call 23; (with_reducible refine (impl_FactorsOf.calls kj85 t507 t518 t519 true _ A96.out).mono ?_); rintro e w109 ⟨rfl, hb⟩; have n0_ := Aside0.mk (below_step (by repeat (first | (with_reducible first | exact HB.out | apply below_alloc | apply pw_below_drewN | apply below_drew1) | exact HB.out)) hb); clear HB; have HB := n0_; clear n0_; (try clear hb); (try clear hb2); (try clear hk); (try clear hi)))
                   repeat (go_quiet (first | (go_at_call 23; (with_reducible refine (impl_FactorsOf.calls kj85 t505 t512 t513 true _ A94.out).mono ?_); rintro e w107 ⟨rfl, hb⟩; have n0_ := Aside0.mk (below_step (by repeat (first | (with_reducible first | exact HB.out | apply below_alloc | apply pw_below_drewN | apply below_drew1) | exact HB.out)) hb); clear HB; have HB := n0_; clear n0_; (try clear hb); (try clear hb2); (try clear hk); (try clear hi)) | (go_at_call 23; (with_reducible refine (impl_FactorsOf.calls kj85 t506 t515 t516 true _ A95.out).mono ?_); rintro e w108 ⟨rfl, hb⟩; have n0_ := Aside0.mk (below_step (by repeat (first | (with_reducible first | exact HB.out | apply below_alloc | apply pw_below_drewN | apply below_drew1) | exact HB.out)) hb); clear HB; have HB := n0_; clear n0_; (try clear hb); (try clear hb2); (try clear hk); (try clear hi)) | (go_at_call 23; (with_reducible refine (impl_FactorsOf.calls kj85 t507 t518 t519 true _ A96.out).mono ?_); rintro e w109 ⟨rfl, hb⟩; have n0_ := Aside0.mk (below_step (by repeat (first | (with_reducible first | exact HB.out | apply below_alloc | apply pw_below_drewN | apply below_drew1) | exact HB.out)) hb); clear HB; have HB := n0_; clear n0_; (try clear hb); (try clear hb2); (try clear hk); (try clear hi))); try go_wp2_with (first | (go_at_call 23; (with_reducible refine (impl_FactorsOf.calls kj85 t505 t512 t513 true _ A94.out).mono ?_); rintro e w107 ⟨rfl, hb⟩; have n0_ := Aside0.mk (below_step (by repeat (first | (with_reducible first | exact HB.out | apply below_alloc | apply pw_below_drewN | apply below_drew1) | exact HB.out)) hb); clear HB; have HB := n0_; clear n0_; (try clear hb); (try clear hb2); (try clear hk); (try clear hi)) | (go_at_call 23; (with_reducible refine (impl_FactorsOf.calls kj85 t506 t515 t516 true _ A95.out).mono ?_); rintro e w108 ⟨rfl, hb⟩; have n0_ := Aside0.mk (below_step (by repeat (first | (with_reducible first | exact HB.out | apply below_alloc | apply pw_below_drewN | apply below_drew1) | exact HB.out)) hb); clear HB; have HB := n0_; clear n0_; (try clear hb); (try clear hb2); (try clear hk); (try clear hi)) | (go_at_call 23; (with_reducible refine (impl_FactorsOf.calls kj85 t507 t518 t519 true _ A96.out).mono ?_); rintro e w109 ⟨rfl, hb⟩; have n0_ := Aside0.mk (below_step (by repeat (first | (with_reducible first | exact HB.out | apply below_alloc | apply pw_below_drewN | apply below_drew1) | exact HB.out)) hb); clear HB; have HB := n0_; clear n0_; (try clear hb); (try clear hb2); (try clear hk); (try clear hi))))
                   go_ret
                   exact ⟨by first | rfl | (simp [errW_none, errW_some] <;> rfl) | (simp [*, errW_none, errW_some] <;> rfl), by repeat (first | (with_reducible first | exact HB.out | apply below_alloc | apply pw_below_drewN | apply below_drew1) | exact HB.out)⟩
                 ·rw [if_neg c102] at H
                  have c102b0 : (t518.toList == t505.toList) = false := beq_eq_false_iff_ne.mpr c102
                  have c102b1 : (t518.toList != t505.toList) = true := bne_iff_ne.mpr c102
                  obtain rfl := Option.some.inj H
                  go_wp2_with (first | (go_at_call 23; (with_reducible refine (impl_FactorsOf.calls kj85 t505 t512 t513 true _ A94.out).mono ?_); rintro e w110 ⟨rfl, hb⟩; have n0_ := Aside0.mk (below_step (by repeat (first | (with_reducible first | exact HB.out | apply below_alloc | apply pw_below_drewN | apply below_drew1) | exact HB.out)) hb); clear HB; have HB := n0_; clear n0_; (try clear hb); (try clear hb2); (try clear hk); (try clear hi)) | (go_at_call 23; (with_reducible refine (impl_FactorsOf.calls kj85 t506 t515 t516 true _ A95.out).mono ?_); rintro e w111 ⟨rfl, hb⟩; have n0_ := Aside0.mk (below_step (by repeat (first | (with_reducible first | exact HB.out | apply below_alloc | apply pw_below_drewN | apply below_drew1) | exact HB.out)) hb); clear HB; have HB := n0_; clear n0_; (try clear hb); (try clear hb2); (try clear hk); (try clear hi)) | (go_at_call 23; (with_reducible refine (impl_FactorsOf.calls kj85 t507 t518 t519 true _ A96.out).mono ?_); rintro e w112 ⟨rfl, hb⟩; have n0_ := Aside0.mk (below_step (by repeat (first | (with_reducible first | exact HB.out | apply below_alloc | apply pw_below_drewN | apply below_drew1) | exact HB.out)) hb); clear HB; have HB := n0_; clear n0_; (try clear hb); (try clear hb2); (try clear hk); (try clear hi)))
                  repeat (go_quiet (first | (go_at_call 23; (with_reducible refine (impl_FactorsOf.calls kj85 t505 t512 t513 true _ A94.out).mono ?_); rintro e w110 ⟨rfl, hb⟩; have n0_ := Aside0.mk (below_step (by repeat (first | (with_reducible first | exact HB.out | apply below_alloc | apply pw_below_drewN | apply below_drew1) | exact HB.out)) hb); clear HB; have HB := n0_; clear n0_; (try clear hb); (try clear hb2); (try clear hk); (try clear hi)) | (go_at_call 23; (with_reducible refine (impl_FactorsOf.calls kj85 t506 t515 t516 true _ A95.out).mono ?_); rintro e w111 ⟨rfl, hb⟩; have n0_ := Aside0.mk (below_step (by repeat (first | (with_reducible first | exact HB.out | apply below_alloc | apply pw_below_drewN | apply below_drew1) | exact HB.out)) hb); clear HB; have HB := n0_; clear n0_; (try clear hb); (try clear hb2); (try clear hk); (try clear hi)) | (go_at_call 23; (with_reducible refine (impl_FactorsOf.calls kj85 t507 t518 t519 true _ A96.out).mono ?_); rintro e w112 ⟨rfl, hb⟩; have n0_ := Aside0.mk (below_step (by repeat (first | (with_reducible first | exact HB.out | apply below_alloc | apply pw_below_drewN | apply below_drew1) | exact HB.out)) hb); clear HB; have HB := n0_; clear n0_; (try clear hb); (try clear hb2); (try clear hk); (try clear hi))); try go_wp2_with (first | (go_at_call 23; (with_reducible refine (impl_FactorsOf.calls kj85 t505 t512 t513 true _ A94.out).mono ?_); rintro e w110 ⟨rfl, hb⟩; have n0_ := Aside0.mk (below_step (by repeat (first | (with_reducible first | exact HB.out | apply below_alloc | apply pw_below_drewN | apply below_drew1) | exact HB.out)) hb); clear HB; have HB := n0_; clear n0_; (try clear hb); (try clear hb2); (try clear hk); (try clear hi)) | (go_at_call 23; (with_reducible refine (impl_FactorsOf.calls kj85 t506 t515 t516 true _ A95.out).mono ?_); rintro e w111 ⟨rfl, hb⟩; have n0_ := Aside0.mk (below_step (by repeat (first | (with_reducible first | exact HB.out | apply below_alloc | apply pw_below_drewN | apply below_drew1) | exact HB.out)) hb); clear HB; have HB := n0_; clear n0_; (try clear hb); (try clear hb2); (try clear hk); (try clear hi)) | (go_at_call 23; (with_reducible refine (impl_FactorsOf.calls kj85 t507 t518 t519 true _ A96.out).mono ?_); rintro e w112 ⟨rfl, hb⟩; have n0_ := Aside0.mk (below_step (by repeat (first | (with_reducible first | exact HB.out | apply below_alloc | apply pw_below_drewN | apply below_drew1) | exact HB.out)) hb); clear HB; have HB := n0_; clear n0_; (try clear hb); (try clear hb2); (try clear hk); (try clear hi))))
                  go_ret
                  exact ⟨by first | rfl | (simp [errW_none, errW_some] <;> rfl) | (simp [*, errW_none, errW_some] <;> rfl), by repeat (first | (with_reducible first | exact HB.out | apply below_alloc | apply pw_below_drewN | apply below_drew1) | exact HB.out)⟩
                ·rw [if_neg c101] at H
                 have c101b0 : (t516.toList == t505.toList) = false := beq_eq_false_iff_ne.mpr c101
                 have c101b1 : (t516.toList != t505.toList) = true := bne_iff_ne.mpr c101
                 obtain rfl := Option.some.inj H
                 go_wp2_with (first | (go_at_call 23; (with_reducible refine (impl_FactorsOf.calls kj85 t505 t512 t513 true _ A94.out).mono ?_); rintro e w113 ⟨rfl, hb⟩; have n0_ := Aside0.mk (below_step (by repeat (first | (with_reducible first | exact HB.out | apply below_alloc | apply pw_below_drewN | apply below_drew1) | exact HB.out)) hb); clear HB; have HB := n0_; clear n0_; (try clear hb); (try clear hb2); (try clear hk); (try clear hi)) | (go_at_call 23; (with_reducible refine (impl_FactorsOf.calls kj85 t506 t515 t516 true _ A95.out).mono ?_); rintro e w114 ⟨rfl, hb⟩; have n0_ := Aside0.mk (below_step (by repeat (first | (with_reducible first | exact HB.out | apply below_alloc | apply pw_below_drewN | apply below_drew1) | exact HB.out)) hb); clear HB; have HB := n0_; clear n0_; (try clear hb); (try clear hb2); (try clear hk); (try clear hi)) | (go_at_call 23; (with_reducible refine (impl_FactorsOf.calls kj85 t507 t518 t519 true _ A96.out).mono ?_); rintro e w115 ⟨rfl, hb⟩; have n0_ := Aside0.mk (below_step (by repeat (first | (with_reducible first | exact HB.out | apply below_alloc | apply pw_below_drewN | apply below_drew1) | exact HB.out)) hb); clear HB; have HB := n0_; clear n0_; (try clear hb); (try clear hb2); (try clear hk); (try clear hi)))
                 repeat (go_quiet (first | (go_at_call 23; (with_reducible refine (impl_FactorsOf.calls kj85 t505 t512 t513 true _ A94.out).mono ?_); rintro e w113 ⟨rfl, hb⟩; have n0_ := Aside0.mk (below_step (by repeat (first | (with_reducible first | exact HB.out | apply below_alloc | apply pw_below_drewN | apply below_drew1) | exact HB.out)) hb); clear HB; have HB := n0_; clear n0_; (try clear hb); (try clear hb2); (try clear hk); (try clear hi)) | (go_at_call 23; (with_reducible refine (impl_FactorsOf.calls kj85 t506 t515 t516 true _ A95.out).mono ?_); rintro e w114 ⟨rfl, hb⟩; have n0_ := Aside0.mk (below_step (by repeat (first | (with_reducible first | exact HB.out | apply below_alloc | apply pw_below_drewN | apply below_drew1) | exact HB.out)) hb); clear HB; have HB := n0_; clear n0_; (try clear hb); (try clear hb2); (try clear hk); (try clear hi)) | (go_at_call 23; (with_reducible refine (impl_FactorsOf.calls kj85 t507 t518 t519 true _ A96.out).mono ?_); rintro e w115 ⟨rfl, hb⟩; have n0_ := Aside0.mk (below_step (by repeat (first | (with_reducible first | exact HB.out | apply below_alloc | apply pw_below_drewN | apply below_drew1) | exact HB.out)) hb); clear HB; have HB := n0_; clear n0_; (try clear hb); (try clear hb2); (try clear hk); (try clear hi))); try go_wp2_with (first | (go_at_call 23; (with_reducible refine (impl_FactorsOf.calls kj85 t505 t512 t513 true _ A94.out).mono ?_); rintro e w113 ⟨rfl, hb⟩; have n0_ := Aside0.mk (below_step (by repeat (first | (with_reducible first | exact HB.out | apply below_alloc | apply pw_below_drewN | apply below_drew1) | exact HB.out)) hb); clear HB; have HB := n0_; clear n0_; (try clear hb); (try clear hb2); (try clear hk); (try clear hi)) | (go_at_call 23; (with_reducible refine (impl_FactorsOf.calls kj85 t506 t515 t516 true _ A95.out).mono ?_); rintro e w114 ⟨rfl, hb⟩; have n0_ := Aside0.mk (below_step (by repeat (first | (with_reducible first | exact HB.out | apply below_alloc | apply pw_below_drewN | apply below_drew1) | exact HB.out)) hb); clear HB; have HB := n0_; clear n0_; (try clear hb); (try clear hb2); (try clear hk); (try clear hi)) | (go_at_call 23; (with_reducible refine (impl_FactorsOf.calls kj85 t507 t518 t519 true _ A96.out).mono ?_); rintro e w115 ⟨rfl, hb⟩; have n0_ := Aside0.mk (below_step (by repeat (first | (with_reducible first | exact HB.out | apply below_alloc | apply pw_below_drewN | apply below_drew1) | exact HB.out)) hb); clear HB; have HB := n0_; clear n0_; (try clear hb); (try clear hb2); (try clear hk); (try clear hi))))
                 go_ret
                 exact ⟨by first | rfl | (simp [errW_none, errW_some] <;> rfl) | (simp [*, errW_none, errW_some] <;> rfl), by repeat (first | (with_reducible first | exact HB.out | apply below_alloc | apply pw_below_drewN | apply below_drew1) | exact HB.out)⟩
               ·rw [if_neg c100] at H
                have c100b0 : (t515.toList == t512.toList) = false := beq_eq_false_iff_ne.mpr c100
                have c100b1 : (t515.toList != t512.toList) = true := bne_iff_ne.mpr c100
                (first | rw [c100b0] | (simp only [i64_w, i32_w]; rw [c100b0]) | skip)
                obtain rfl := Option.some.inj H
                go_wp2_with (first | (go_at_call 23; (with_reducible refine (impl_FactorsOf.calls kj85 t505 t512 t513 true _ A94.out).mono ?_); rintro e w116 ⟨rfl, hb⟩; have n0_ := Aside0.mk (below_step (by repeat (first | (with_reducible first | exact HB.out | apply below_alloc | apply pw_below_drewN | apply below_drew1) | exact HB.out)) hb); clear HB; have HB := n0_; clear n0_; (try clear hb); (try clear hb2); (try clear hk); (try clear hi)) | (go_at_call 23; (with_reducible refine (impl_FactorsOf.calls kj85 t506 t515 t516 true _ A95.out).mono ?_); rintro e w117 ⟨rfl, hb⟩; have n0_ := Aside0.mk (below_step (by repeat (first | (with_reducible first | exact HB.out | apply below_alloc | apply pw_below_drewN | apply below_drew1) | exact HB.out)) hb); clear HB; have HB := n0_; clear n0_; (try clear hb); (try clear hb2); (try clear hk); (try clear hi)) | (go_at_call 23; (with_reducible refine (impl_FactorsOf.calls kj85 t507 t518 t519 true _ A96.out).mono ?_); rintro e w118 ⟨rfl, hb⟩; have n0_ := Aside0.mk (below_step (by repeat (first | (with_reducible first | exact HB.out | apply below_alloc | apply pw_below_drewN | apply below_drew1) | exact HB.out)) hb); clear HB; have HB := n0_; clear n0_; (try clear hb); (try clear hb2); (try clear hk); (try clear hi)))
                repeat (go_quiet (first | (go_at_call 23; (with_reducible refine (impl_FactorsOf.calls kj85 t505 t512 t513 true _ A94.out).mono ?_); rintro e w116 ⟨rfl, hb⟩; have n0_ := Aside0.mk (below_step (by repeat (first | (with_reducible first | exact HB.out | apply below_alloc | apply pw_below_drewN | apply below_drew1) | exact HB.out)) hb); clear HB; have HB := n0_; clear n0_; (try clear hb); (try clear hb2); (try clear hk); (try clear hi)) | (go_at_call 23; (with_reducible refine (impl_FactorsOf.calls kj85 t506 t515 t516 true _ A95.out).mono ?_); rintro e w117 ⟨rfl, hb⟩; have n0_ := Aside0.mk (below_step (by repeat (first | (with_reducible first | exact HB.out | apply below_alloc | apply pw_below_drewN | apply below_drew1) | exact HB.out)) hb); clear HB; have HB := n0_; clear n0_; (try clear hb); (try clear hb2); (try clear hk); (try clear hi)) | (go_at_call 23; (with_reducible refine (impl_FactorsOf.calls kj85 t507 t518 t519 true _ A96.out).mono ?_); rintro e w118 ⟨rfl, hb⟩; have n0_ := Aside0.mk (below_step (by repeat (first | (with_reducible first | exact HB.out | apply below_alloc | apply pw_below_drewN | apply below_drew1) | exact HB.out)) hb); clear HB; have HB := n0_; clear n0_; (try clear hb); (try clear hb2); (try clear hk); (try clear hi))); try go_wp2_with (first | (go_at_call 23; (with_reducible refine (impl_FactorsOf.calls kj85 t505 t512 t513 true _ A94.out).mono ?_); rintro e w116 ⟨rfl, hb⟩; have n0_ := Aside0.mk (below_step (by repeat (first | (with_reducible first | exact HB.out | apply below_alloc | apply pw_below_drewN | apply below_drew1) | exact HB.out)) hb); clear HB; have HB := n0_; clear n0_; (try clear hb); (try clear hb2); (try clear hk); (try clear hi)) | (go_at_call 23; (with_reducible refine (impl_FactorsOf.calls kj85 t506 t515 t516 true _ A95.out).mono ?_); rintro e w117 ⟨rfl, hb⟩; have n0_ := Aside0.mk (below_step (by repeat (first | (with_reducible first | exact HB.out | apply below_alloc | apply pw_below_drewN | apply below_drew1) | exact HB.out)) hb); clear HB; have HB := n0_; clear n0_; (try clear hb); (try clear hb2); (try clear hk); (try clear hi)) | (go_at_call 23; (with_reducible refine (impl_FactorsOf.calls kj85 t507 t518 t519 true _ A96.out).mono ?_); rintro e w118 ⟨rfl, hb⟩; have n0_ := Aside0.mk (below_step (by repeat (first | (with_reducible first | exact HB.out | apply below_alloc | apply pw_below_drewN | apply below_drew1) | exact HB.out)) hb); clear HB; have HB := n0_; clear n0_; (try clear hb); (try clear hb2); (try clear hk); (try clear hi))))
                go_ret
                exact ⟨by first | rfl | (simp [errW_none, errW_some] <;> rfl) | (simp [*, errW_none, errW_some] <;> rfl), by repeat (first | (with_reducible first | exact HB.out | apply below_alloc | apply pw_below_drewN | apply below_drew1) | exact HB.out)⟩
              ·replace c99 := Bool.eq_false_iff.mpr c99
               subst c99
               have H1 : (some false) = some r := by rw [if_neg (show ¬ (false = true) by decide)] at H; exact H
               clear H; have H := H1; clear H1
               obtain rfl := Option.some.inj H
               go_wp2_with (first | (go_at_call 23; (with_reducible refine (impl_FactorsOf.calls kj85 t505 t512 t513 true _ A94.out).mono ?_); rintro e w119 ⟨rfl, hb⟩; have n0_ := Aside0.mk (below_step (by repeat (first | (with_reducible first | exact HB.out | apply below_alloc | apply pw_below_drewN | apply below_drew1) | exact HB.out)) hb); clear HB; have HB := n0_; clear n0_; (try clear hb); (try clear hb2); (try clear hk); (try clear hi)) | (go_at_call 23; (with_reducible refine (impl_FactorsOf.calls kj85 t506 t515 t516 true _ A95.out).mono ?_); rintro e w120 ⟨rfl, hb⟩; have n0_ := Aside0.mk (below_step (by repeat (first | (with_reducible first | exact HB.out | apply below_alloc | apply pw_below_drewN | apply below_drew1) | exact HB.out)) hb); clear HB; have HB := n0_; clear n0_; (try clear hb); (try clear hb2); (try clear hk); (try clear hi)) | (go_at_call 23; (with_reducible refine (impl_FactorsOf.calls kj85 t507 t518 t519 false _ A96.out).mono ?_); rintro e w121 ⟨rfl, hb⟩; have n0_ := Aside0.mk (below_step (by repeat (first | (with_reducible first | exact HB.out | apply below_alloc | apply pw_below_drewN | apply below_drew1) | exact HB.out)) hb); clear HB; have HB := n0_; clear n0_; (try clear hb); (try clear hb2); (try clear hk); (try clear hi)))
               repeat (go_quiet (first | (go_at_call 23; (with_reducible refine (impl_FactorsOf.calls kj85 t505 t512 t513 true _ A94.out).mono ?_); rintro e w119 ⟨rfl, hb⟩; have n0_ := Aside0.mk (below_step (by repeat (first | (with_reducible first | exact HB.out | apply below_alloc | apply pw_below_drewN | apply below_drew1) | exact HB.out)) hb); clear HB; have HB := n0_; clear n0_; (try clear hb); (try clear hb2); (try clear hk); (try clear hi)) | (go_at_call 23; (with_reducible refine (impl_FactorsOf.calls kj85 t506 t515 t516 true _ A95.out).mono ?_); rintro e w120 ⟨rfl, hb⟩; have n0_ := Aside0.mk (below_step (by repeat (first | (with_reducible first | exact HB.out | apply below_alloc | apply pw_below_drewN | apply below_drew1) | exact HB.out)) hb); clear HB; have HB := n0_; clear n0_; (try clear hb); (try clear hb2); (try clear hk); (try clear hi)) | (go_at_call 23; (with_reducible refine (impl_FactorsOf.calls kj85 t507 t518 t519 false _ A96.out).mono ?_); rintro e w121 ⟨rfl, hb⟩; have n0_ := Aside0.mk (below_step (by repeat (first | (with_reducible first | exact HB.out | apply below_alloc | apply pw_below_drewN | apply below_drew1) | exact HB.out)) hb); clear HB; have HB := n0_; clear n0_; (try clear hb); (try clear hb2); (try clear hk); (try clear hi))); try go_wp2_with (first | (go_at_call 23; (with_reducible refine (impl_FactorsOf.calls kj85 t505 t512 t513 true _ A94.out).mono ?_); rintro e w119 ⟨rfl, hb⟩; have n0_ := Aside0.mk (below_step (by repeat (first | (with_reducible first | exact HB.out | apply below_alloc | apply pw_below_drewN | apply below_drew1) | exact HB.out)) hb); clear HB; have HB := n0_; clear n0_; (try clear hb); (try clear hb2); (try clear hk); (try clear hi)) | (go_at_call 23; (with_reducible refine (impl_FactorsOf.calls kj85 t506 t515 t516 true _ A95.out).mono ?_); rintro e w120 ⟨rfl, hb⟩; have n0_ := Aside0.mk (below_step (by repeat (first | (with_reducible first | exact HB.out | apply below_alloc | apply pw_below_drewN | apply below_drew1) | exact HB.out)) hb); clear HB; have HB := n0_; clear n0_; (try clear hb); (try clear hb2); (try clear hk); (try clear hi)) | (go_at_call 23; (with_reducible refine (impl_FactorsOf.calls kj85 t507 t518 t519 false _ A96.out).mono ?_); rintro e w121 ⟨rfl, hb⟩; have n0_ := Aside0.mk (below_step (by repeat (first | (with_reducible first | exact HB.out | apply below_alloc | apply pw_below_drewN | apply below_drew1) | exact HB.out)) hb); clear HB; have HB := n0_; clear n0_; (try clear hb); (try clear hb2); (try clear hk); (try clear hi))))
               go_ret
               exact ⟨by first | rfl | (simp [errW_none, errW_some] <;> rfl) | (simp [*, errW_none, errW_some] <;> rfl), by repeat (first | (with_reducible first | exact HB.out | apply below_alloc | apply pw_below_drewN | apply below_drew1) | exact HB.out)⟩
             ·replace c98 := Bool.eq_false_iff.mpr c98
              subst c98
              have H1 : (some false) = some r := by rw [if_neg (show ¬ (false = true) by decide)] at H; exact H
              clear H; have H := H1; clear H1
              obtain rfl := Option.some.inj H
              go_wp2_with (first | (go_at_call 23; (with_reducible refine (impl_FactorsOf.calls kj85 t505 t512 t513 true _ A94.out).mono ?_); rintro e w122 ⟨rfl, hb⟩; have n0_ := Aside0.mk (below_step (by repeat (first | (with_reducible first | exact HB.out | apply below_alloc | apply pw_below_drewN | apply below_drew1) | exact HB.out)) hb); clear HB; have HB := n0_; clear n0_; (try clear hb); (try clear hb2); (try clear hk); (try clear hi)) | (go_at_call 23; (with_reducible refine (impl_FactorsOf.calls kj85 t506 t515 t516 false _ A95.out).mono ?_); rintro e w123 ⟨rfl, hb⟩; have n0_ := Aside0.mk (below_step (by repeat (first | (with_reducible first | exact HB.out | apply below_alloc | apply pw_below_drewN | apply below_drew1) | exact HB.out)) hb); clear HB; have HB := n0_; clear n0_; (try clear hb); (try clear hb2); (try clear hk); (try clear hi)) | (go_at_call 23; (with_reducible refine (impl_FactorsOf.calls kj85 t507 t518 t519 t520 _ A96.out).mono ?_); rintro e w124 ⟨rfl, hb⟩; have n0_ := Aside0.mk (below_step (by repeat (first | (with_reducible first | exact HB.out | apply below_alloc | apply pw_below_drewN | apply below_drew1) | exact HB.out)) hb); clear HB; have HB := n0_; clear n0_; (try clear hb); (try clear hb2); (try clear hk); (try clear hi)))
              repeat (go_quiet (first | (go_at_call 23; (with_reducible refine (impl_FactorsOf.calls kj85 t505 t512 t513 true _ A94.out).mono ?_); rintro e w122 ⟨rfl, hb⟩; have n0_ := Aside0.mk (below_step (by repeat (first | (with_reducible first | exact HB.out | apply below_alloc | apply pw_below_drewN | apply below_drew1) | exact HB.out)) hb); clear HB; have HB := n0_; clear n0_; (try clear hb); (try clear hb2); (try clear hk); (try clear hi)) | (go_at_call 23; (with_reducible refine (impl_FactorsOf.calls kj85 t506 t515 t516 false _ A95.out).mono ?_); rintro e w123 ⟨rfl, hb⟩; have n0_ := Aside0.mk (below_step (by repeat (first | (with_reducible first | exact HB.out | apply below_alloc | apply pw_below_drewN | apply below_drew1) | exact HB.out)) hb); clear HB; have HB := n0_; clear n0_; (try clear hb); (try clear hb2); (try clear hk); (try clear hi)) | (go_at_call 23; (with_reducible refine (impl_FactorsOf.calls kj85 t507 t518 t519 t520 _ A96.out).mono ?_); rintro e w124 ⟨rfl, hb⟩; have n0_ := Aside0.mk (below_step (by repeat (first | (with_reducible first | exact HB.out | apply below_alloc | apply pw_below_drewN | apply below_drew1) | exact HB.out)) hb); clear HB; have HB := n0_; clear n0_; (try clear hb); (try clear hb2); (try clear hk); (try clear hi))); try go_wp2_with (first | (go_at_call 23; (with_reducible refine (impl_FactorsOf.calls kj85 t505 t512 t513 true _ A94.out).mono ?_); rintro e w122 ⟨rfl, hb⟩; have n0_ := Aside0.mk (below_step (by repeat (first | (with_reducible first | exact HB.out | apply below_alloc | apply pw_below_drewN | apply below_drew1) | exact HB.out)) hb); clear HB; have HB := n0_; clear n0_; (try clear hb); (try clear hb2); (try clear hk); (try clear hi)) | (go_at_call 23; (with_reducible refine (impl_FactorsOf.calls kj85 t506 t515 t516 false _ A95.out).mono ?_); rintro e w123 ⟨rfl, hb⟩; have n0_ := Aside0.mk (below_step (by repeat (first | (with_reducible first | exact HB.out | apply below_alloc | apply pw_below_drewN | apply below_drew1) | exact HB.out)) hb); clear HB; have HB := n0_; clear n0_; (try clear hb); (try clear hb2); (try clear hk); (try clear hi)) | (go_at_call 23; (with_reducible refine (impl_FactorsOf.calls kj85 t507 t518 t519 t520 _ A96.out).mono ?_); rintro e w124 ⟨rfl, hb⟩; have n0_ := Aside0.mk (below_step (by repeat (first | (with_reducible first | exact HB.out | apply below_alloc | apply pw_below_drewN | apply below_drew1) | exact HB.out)) hb); clear HB; have HB := n0_; clear n0_; (try clear hb); (try clear hb2); (try clear hk); (try clear hi))))
              go_ret
              exact ⟨by first | rfl | (simp [errW_none, errW_some] <;> rfl) | (simp [*, errW_none, errW_some] <;> rfl), by repeat (first | (with_reducible first | exact HB.out | apply below_alloc | apply pw_below_drewN | apply below_drew1) | exact HB.out)⟩
            ·replace c97 := Bool.eq_false_iff.mpr c97
             subst c97
             have H1 : (some false) = some r := by rw [if_neg (show ¬ (false = true) by decide)] at H; exact H
             clear H; have H := H1; clear H1
             obtain rfl := Option.some.inj H
             go_wp2_with (first | (go_at_call 23; (with_reducible refine (impl_FactorsOf.calls kj85 t505 t512 t513 false _ A94.out).mono ?_); rintro e w125 ⟨rfl, hb⟩; have n0_ := Aside0.mk (below_step (by repeat (first | (with_reducible first | exact HB.out | apply below_alloc | apply pw_below_drewN | apply below_drew1) | exact HB.out)) hb); clear HB; have HB := n0_; clear n0_; (try clear hb); (try clear hb2); (try clear hk); (try clear hi)) | (go_at_call 23; (with_reducible refine (impl_FactorsOf.calls kj85 t506 t515 t516 t517 _ A95.out).mono ?_); rintro e w126 ⟨rfl, hb⟩; have n0_ := Aside0.mk (below_step (by repeat (first | (with_reducible first | exact HB.out | apply below_alloc | apply pw_below_drewN | apply below_drew1) | exact HB.out)) hb); clear HB; have HB := n0_; clear n0_; (try clear hb); (try clear hb2); (try clear hk); (try clear hi)) | (go_at_call 23; (with_reducible refine (impl_FactorsOf.calls kj85 t507 t518 t519 t520 _ A96.out).mono ?_); rintro e w127 ⟨rfl, hb⟩; have n0_ := Aside0.mk (below_step (by repeat (first | (with_reducible first | exact HB.out | apply below_alloc | apply pw_below_drewN | apply below_drew1) | exact HB.out)) hb); clear HB; have HB := n0_; clear n0_; (try clear hb); (try clear hb2); (try clear hk); (try clear hi)))
             repeat (go_quiet (first | (go_at_call 23; (with_reducible refine (impl_FactorsOf.calls kj85 t505 t512 t513 false _ A94.out).mono ?_); rintro e w125 ⟨rfl, hb⟩; have n0_ := Aside0.mk (below_step (by repeat (first | (with_reducible first | exact HB.out | apply below_alloc | apply pw_below_drewN | apply below_drew1) | exact HB.out)) hb); clear HB; have HB := n0_; clear n0_; (try clear hb); (try clear hb2); (try clear hk); (try clear hi)) | (go_at_call 23; (with_reducible refine (impl_FactorsOf.calls kj85 t506 t515 t516 t517 _ A95.out).mono ?_); rintro e w126 ⟨rfl, hb⟩; have n0_ := Aside0.mk (below_step (by repeat (first | (with_reducible first | exact HB.out | apply below_alloc | apply pw_below_drewN | apply below_drew1) | exact HB.out)) hb); clear HB; have HB := n0_; clear n0_; (try clear hb); (try clear hb2); (try clear hk); (try clear hi)) | (go_at_call 23; (with_reducible refine (impl_FactorsOf.calls kj85 t507 t518 t519 t520 _ A96.out).mono ?_); rintro e w127 ⟨rfl, hb⟩; have n0_ := Aside0.mk (below_step (by repeat (first | (with_reducible first | exact HB.out | apply below_alloc | apply pw_below_drewN | apply below_drew1) | exact HB.out)) hb); clear HB; have HB := n0_; clear n0_; (try clear hb); (try clear hb2); (try clear hk); (try clear hi))); try go_wp2_with (first | (go_at_call 23; (with_reducible refine (impl_FactorsOf.calls kj85 t505 t512 t513 false _ A94.out).mono ?_); rintro e w125 ⟨rfl, hb⟩; have n0_ := Aside0.mk (below_step (by repeat (first | (with_reducible first | exact HB.out | apply below_alloc | apply pw_below_drewN | apply below_drew1) | exact HB.out)) hb); clear HB; have HB := n0_; clear n0_; (try clear hb); (try clear hb2); (try clear hk); (try clear hi)) | (go_at_call 23; (with_reducible refine (impl_FactorsOf.calls kj85 t506 t515 t516 t517 _ A95.out).mono ?_); rintro e w126 ⟨rfl, hb⟩; have n0_ := Aside0.mk (below_step (by repeat (first | (with_reducible first | exact HB.out | apply below_alloc | apply pw_below_drewN | apply below_drew1) | exact HB.out)) hb); clear HB; have HB := n0_; clear n0_; (try clear hb); (try clear hb2); (try clear hk); (try clear hi)) | (go_at_call 23; (with_reducible refine (impl_FactorsOf.calls kj85 t507 t518 t519 t520 _ A96.out).mono ?_); rintro e w127 ⟨rfl, hb⟩; have n0_ := Aside0.mk (below_step (by repeat (first | (with_reducible first | exact HB.out | apply below_alloc | apply pw_below_drewN | apply below_drew1) | exact HB.out)) hb); clear HB; have HB := n0_; clear n0_; (try clear hb); (try clear hb2); (try clear hk); (try clear hi))))
             go_ret
             exact ⟨by first | rfl | (simp [errW_none, errW_some] <;> rfl) | (simp [*, errW_none, errW_some] <;> rfl), by repeat (first | (with_reducible first | exact HB.out | apply below_alloc | apply pw_below_drewN | apply below_drew1) | exact HB.out)⟩
           ·replace c93 := Bool.eq_false_iff.mpr c93
            subst c93
            have H1 : (laws_FnLettersTurned.j4 kj85 l1) = some r := by rw [if_neg (show ¬ (false = true) by decide)] at H; exact H
            clear H; have H := H1; clear H1
            have H' := Aside0.mk H
            clear H
            go_wp2
            repeat (go_quiet (fail); try go_wp2)
            go_meet
            case rel => exact ⟨_, H', ⟨by have := HJ11.out; have := HJ39.out; have := HJ85.out; first | omega | exact Nat.le_refl _⟩, ⟨by repeat (first | (with_reducible first | exact HB.out | apply below_alloc | apply pw_below_drewN | apply below_drew1) | exact HB.out)⟩⟩
          case rest => as_aux_lemma =>
           clear HC92
           try clear c1
           try clear c2
           try clear p2
           try clear c3
           try clear c4
           try clear p4
           try clear q4
           try clear hx4
           try clear c5
           try clear c6
           try clear p6
           try clear c8
           try clear c9
           try clear c10
           try clear c13
           try clear c18
           try clear c18b0
           try clear c18b1
           try clear c18b2
           try clear c20
           try clear c21
           try clear c21b0
           try clear c21b1
           try clear c21b2
           try clear c24
           try clear c24b0
           try clear c24b1
           try clear c24b2
           try clear c27
           try clear c27b0
           try clear c27b1
           try clear c27b2
           try clear c30
           try clear c30b0
           try clear c30b1
           try clear c39
           try clear c41
           try clear c42
           try clear c42b0
           try clear c42b1
           try clear c42b2
           try clear c43
           try clear c43b0
           try clear c43b1
           try clear c45
           try clear c45b0
           try clear c46
           try clear c46b0
           try clear c48
           try clear c48b0
           try clear c49
           try clear c49b0
           try clear p49
           try clear q49
           try clear hx49
           try clear c50
           try clear c50b0
           try clear c51
           try clear c51b0
           try clear c51b1
           try clear c51b2
           try clear c55
           try clear c56
           try clear c56b0
           try clear c56b1
           try clear c57
           try clear c58
           try clear c59
           try clear c59b0
           try clear c59b1
           try clear c60
           try clear c60b0
           try clear c60b1
           try clear p64
           try clear c89
           try clear c89b0
           try clear c89b1
           try clear c89b2
           try clear c90
           try clear c90b0
           try clear c90b1
           try clear c91
           try clear c93
           try clear c97
           try clear c98
           try clear c99
           try clear c100
           try clear c100b0
           try clear c100b1
           try clear c101
           try clear c101b0
           try clear c101b1
           try clear c102
           try clear c102b0
           try clear c102b1
           try clear c103
           try clear c103b0
           try clear c103b1
           try clear hx494_0
           try clear hx495_0
           try clear hx496_0
           try clear p2
           try clear p4
           try clear p49
           try clear p494
           try clear p495
           try clear p496
           try clear p6
           try clear p64
           try clear q4
           try clear q49
           try clear q494
           try clear q495
           try clear q496
           obtain ⟨kq, HA, HJ91, HB⟩ := hcut
           cases kq with
           | zero => exact absurd HA.out (by simp [laws_FnLettersTurned.j4])
           | succ kj91 =>
            have H := HA.out; clear HA
            simp only [laws_FnLettersTurned.j4] at H
            replace H := Option.bind_eq_some_iff.mp H
            obtain ⟨t521, A1280, H⟩ := H
            replace H : ((impl_ChristoffelUpTo.f kj91 t521).bind fun bt522 => ((spec_ChristoffelUpTo.f kj91 t521).bind fun bt526 => (if (bt522.2 != bt526.2) = true then (laws_FnLettersTurned.j5 kj91 bt522.1 true) else ((laws_dTexts.f kj91 bt522.1 bt526.1).bind fun t530 => (laws_FnLettersTurned.j5 kj91 bt522.1 (!t530)))))) = some r := H
            have A128 := Aside0.mk A1280
            clear A1280
            replace H := Option.bind_eq_some_iff.mp H
            obtain ⟨⟨t522, t523⟩, A1290, H⟩ := H
            replace H : ((spec_ChristoffelUpTo.f kj91 t521).bind fun bt526 => (if (t523 != bt526.2) = true then (laws_FnLettersTurned.j5 kj91 t522 true) else ((laws_dTexts.f kj91 t522 bt526.1).bind fun t530 => (laws_FnLettersTurned.j5 kj91 t522 (!t530))))) = some r := H
            have A129 := Aside0.mk A1290
            clear A1290
            replace H := Option.bind_eq_some_iff.mp H
            obtain ⟨⟨t526, t527⟩, A1300, H⟩ := H
            replace H : (if (t523 != t527) = true then (laws_FnLettersTurned.j5 kj91 t522 true) else ((laws_dTexts.f kj91 t522 t526).bind fun t530 => (laws_FnLettersTurned.j5 kj91 t522 (!t530)))) = some r := H
            have A130 := Aside0.mk A1300
            clear A1300
            have HC131 := Aside0.mk H
            clear H
            go_upto_region 39 with (first | (go_at_call 46; (with_reducible refine (spec_DrawChristoffelUpTo.calls _ _ l1 t521 _ ?side1 ?side2 A128.out).mono ?_); (case side1 => repeat (first | exact (Kd.C_below HR1.out HB.out) | (with_reducible refine Kd.C_alloc ?_ _) | (with_reducible refine Kd.C_drewN ?_ _) | (with_reducible refine Kd.C_drew ?_))); (case side2 => exact HC1.out); rintro e w132 ⟨rfl, hb⟩; have n0_ := Aside0.mk (below_step (by repeat (first | (with_reducible first | exact HB.out | apply below_alloc | apply pw_below_drewN | apply below_drew1) | exact HB.out)) hb); clear HB; have HB := n0_; clear n0_; (try clear hb); (try clear hb2); (try clear hk); (try clear hi)) | (go_at_call 29; (with_reducible refine (impl_ChristoffelUpTo.calls kj91 t521 t522 t523 _ A129.out).mono ?_); rintro e w133 ⟨v524, rfl, ho0, hb⟩; have n0_ := Aside0.mk (Kd.R_lower ho0 (below_size (by repeat (first | (with_reducible first | exact HB.out | apply below_alloc | apply pw_below_drewN | apply below_drew1) | exact HB.out)))); have n1_ := Aside0.mk (below_step (by repeat (first | (with_reducible first | exact HB.out | apply below_alloc | apply pw_below_drewN | apply below_drew1) | exact HB.out)) hb); clear HB; have HO525 := n0_; have HB := n1_; clear n0_ n1_; (try clear hb); (try clear hb2); (try clear hk); (try clear hi); (try clear ho0)) | (go_at_call 28; (with_reducible refine (spec_ChristoffelUpTo.calls kj91 t521 t526 t527 _ A130.out).mono ?_); rintro e w134 ⟨v528, rfl, ho0, hb⟩; have n0_ := Aside0.mk (Kd.R_elder' (by (with_reducible repeat (first | apply Kd.R_alloc | apply Kd.R_drewN | apply Kd.R_drew)); exact HO525.out) (Kd.R_base ho0) hb); have n1_ := Aside0.mk (Kd.R_lower (Kd.R_new' ho0 (Kd.R_lt (by (with_reducible repeat (first | apply Kd.R_alloc | apply Kd.R_drewN | apply Kd.R_drew)); exact HO525.out))) (below_size (by repeat (first | (with_reducible first | exact HB.out | apply below_alloc | apply pw_below_drewN | apply below_drew1) | exact HB.out)))); have n2_ := Aside0.mk (below_step (by repeat (first | (with_reducible first | exact HB.out | apply below_alloc | apply pw_below_drewN | apply below_drew1) | exact HB.out)) hb); clear HO525; clear HB; have HO525 := n0_; have HO529 := n1_; have HB := n2_; clear n0_ n1_ n2_; (try clear hb); (try clear hb2); (try clear hk); (try clear hi); (try clear ho0)))
            repeat (go_quiet (first | (go_at_call 46; (with_reducible refine (spec_DrawChristoffelUpTo.calls _ _ l1 t521 _ ?side1 ?side2 A128.out).mono ?_); (case side1 => repeat (first | exact (Kd.C_below HR1.out HB.out) | (with_reducible refine Kd.C_alloc ?_ _) | (with_reducible refine Kd.C_drewN ?_ _) | (with_reducible refine Kd.C_drew ?_))); (case side2 => exact HC1.out); rintro e w132 ⟨rfl, hb⟩; have n0_ := Aside0.mk (below_step (by repeat (first | (with_reducible first | exact HB.out | apply below_alloc | apply pw_below_drewN | apply below_drew1) | exact HB.out)) hb); clear HB; have HB := n0_; clear n0_; (try clear hb); (try clear hb2); (try clear hk); (try clear hi)) | (go_at_call 29; (with_reducible refine (impl_ChristoffelUpTo.calls kj91 t521 t522 t523 _ A129.out).mono ?_); rintro e w133 ⟨v524, rfl, ho0, hb⟩; have n0_ := Aside0.mk (Kd.R_lower ho0 (below_size (by repeat (first | (with_reducible first | exact HB.out | apply below_alloc | apply pw_below_drewN | apply below_drew1) | exact HB.out)))); have n1_ := Aside0.mk (below_step (by repeat (first | (with_reducible first | exact HB.out | apply below_alloc | apply pw_below_drewN | apply below_drew1) | exact HB.out)) hb); clear HB; have HO525 := n0_; have HB := n1_; clear n0_ n1_; (try clear hb); (try clear hb2); (try clear hk); (try clear hi); (try clear ho0)) | (go_at_call 28; (with_reducible refine (spec_ChristoffelUpTo.calls kj91 t521 t526 t527 _ A130.out).mono ?_); rintro e w134 ⟨v528, rfl, ho0, hb⟩; have n0_ := Aside0.mk (Kd.R_elder' (by (with_reducible repeat (first | apply Kd.R_alloc | apply Kd.R_drewN | apply Kd.R_drew)); exact HO525.out) (Kd.R_base ho0) hb); have n1_ := Aside0.mk (Kd.R_lower (Kd.R_new' ho0 (Kd.R_lt (by (with_reducible repeat (first | apply Kd.R_alloc | apply Kd.R_drewN | apply Kd.R_drew)); exact HO525.out))) (below_size (by repeat (first | (with_reducible first | exact HB.out | apply below_alloc | apply pw_below_drewN | apply below_drew1) | exact HB.out)))); have n2_ := Aside0.mk (below_step (by repeat (first | (with_reducible first | exact HB.out | apply below_alloc | apply pw_below_drewN | apply below_drew1) | exact HB.out)) hb); clear HO525; clear HB; have HO525 := n0_; have HO529 := n1_; have HB := n2_; clear n0_ n1_ n2_; (try clear hb); (try clear hb2); (try clear hk); (try clear hi); (try clear ho0))); go_upto_region 39 with (first | (go_at_call 46; (with_reducible refine (spec_DrawChristoffelUpTo.calls _ _ l1 t521 _ ?side1 ?side2 A128.out).mono ?_); (case side1 => repeat (first | exact (Kd.C_below HR1.out HB.out) | (with_reducible refine Kd.C_alloc ?_ _) | (with_reducible refine Kd.C_drewN ?_ _) | (with_reducible refine Kd.C_drew ?_))); (case side2 => exact HC1.out); rintro e w132 ⟨rfl, hb⟩; have n0_ := Aside0.mk (below_step (by repeat (first | (with_reducible first | exact HB.out | apply below_alloc | apply pw_below_drewN | apply below_drew1) | exact HB.out)) hb); clear HB; have HB := n0_; clear n0_; (try clear hb); (try clear hb2); (try clear hk); (try clear hi)) | (go_at_call 29; (with_reducible refine (impl_ChristoffelUpTo.calls kj91 t521 t522 t523 _ A129.out).mono ?_); rintro e w133 ⟨v524, rfl, ho0, hb⟩; have n0_ := Aside0.mk (Kd.R_lower ho0 (below_size (by repeat (first | (with_reducible first | exact HB.out | apply below_alloc | apply pw_below_drewN | apply below_drew1) | exact HB.out)))); have n1_ := Aside0.mk (below_step (by repeat (first | (with_reducible first | exact HB.out | apply below_alloc | apply pw_below_drewN | apply below_drew1) | exact HB.out)) hb); clear HB; have HO525 := n0_; have HB := n1_; clear n0_ n1_; (try clear hb); (try clear hb2); (try clear hk); (try clear hi); (try clear ho0)) | (go_at_call 28; (with_reducible refine (spec_ChristoffelUpTo.calls kj91 t521 t526 t527 _ A130.out).mono ?_); rintro e w134 ⟨v528, rfl, ho0, hb⟩; have n0_ := Aside0.mk (Kd.R_elder' (by (with_reducible repeat (first | apply Kd.R_alloc | apply Kd.R_drewN | apply Kd.R_drew)); exact HO525.out) (Kd.R_base ho0) hb); have n1_ := Aside0.mk (Kd.R_lower (Kd.R_new' ho0 (Kd.R_lt (by (with_reducible repeat (first | apply Kd.R_alloc | apply Kd.R_drewN | apply Kd.R_drew)); exact HO525.out))) (below_size (by repeat (first | (with_reducible first | exact HB.out | apply below_alloc | apply pw_below_drewN | apply below_drew1) | exact HB.out)))); have n2_ := Aside0.mk (below_step (by repeat (first | (with_reducible first | exact HB.out | apply below_alloc | apply pw_below_drewN | apply below_drew1) | exact HB.out)) hb); clear HO525; clear HB; have HO525 := n0_; have HO529 := n1_; have HB := n2_; clear n0_ n1_ n2_; (try clear hb); (try clear hb2); (try clear hk); (try clear hi); (try clear ho0))))
            (try simp only [Act.put, List.setIfInBounds_toArray, List.set_cons_zero, List.set_cons_succ])
            go_cut [290] (fun v290 wc => ∃ (kq : Nat) (x290_130 : Bool), v290 = .bool x290_130 ∧ Aside0 (laws_FnLettersTurned.j5 kq t522 x290_130 = some r) ∧ Aside0 (kq ≤ kj91) ∧ Aside0 (Kd.R Kd.string 9 wc w.heap.size (fun _ => True) v524 t522) ∧ Aside0 (Below w.heap.size w wc))
            case first => as_aux_lemma =>
             have H := HC131.out; clear HC131
             by_cases c135 : (t523 != t527) = true
             ·as_aux_lemma =>
              rw [if_pos c135] at H
              have c135b0 : (t523 != t527) = true := c135
              (try (have c135b1 : decide (t523 = t527) = false := by simpa using c135))
              (try (have c135b2 : (t523 == t527) = false := by simpa using c135))
              (try (have c135b3 : ¬ (t523 = t527) := by simpa using c135))
              clear c135
              (first | rw [c135b0] | (simp only [i64_w, i32_w]; rw [c135b0]) | skip)
              have H' := Aside0.mk H
              clear H
              go_wp2
              repeat (go_quiet (fail); try go_wp2)
              go_meet
              case rel => exact ⟨_, (true), (by first | rfl | (simp; done) | (simp [*]; done)), H', ⟨by have := HJ11.out; have := HJ39.out; have := HJ85.out; have := HJ91.out; first | omega | exact Nat.le_refl _⟩, ⟨by (with_reducible repeat (first | apply Kd.R_alloc | apply Kd.R_drewN | apply Kd.R_drew)); exact Kd.R_mono HO525.out (fun _ hk => trivial)⟩, ⟨by repeat (first | (with_reducible first | exact HB.out | apply below_alloc | apply pw_below_drewN | apply below_drew1) | exact HB.out)⟩⟩
             ·as_aux_lemma =>
              rw [if_neg c135] at H
              have c135b0 : (t523 != t527) = false := by simpa using c135
              (try (have c135b1 : decide (t523 = t527) = true := by simpa using c135))
              (try (have c135b2 : (t523 == t527) = true := by simpa using c135))
              clear c135
              (first | rw [c135b0] | (simp only [i64_w, i32_w]; rw [c135b0]) | skip)
              replace H := Option.bind_eq_some_iff.mp H
              obtain ⟨t530, A1360, H⟩ := H
              replace H : (laws_FnLettersTurned.j5 kj91 t522 (!t530)) = some r := H
              have A136 := Aside0.mk A1360
              clear A1360
              have H' := Aside0.mk H
              clear H
              obtain ⟨Ao137, co137, eo137⟩ := Kd.R_slice HO525.out
              subst eo137
              obtain ⟨Ao138, co138, eo138⟩ := Kd.R_slice HO529.out
              subst eo138
              go_wp2_with (first | (go_at_call 44; (with_reducible refine (laws_dTexts.calls kj91 _ _ t522 _ _ t526 t530 _ ?side1 ?side2 ?side3 ?side4 A136.out).mono ?_); (case side1 => repeat (first | exact (Kd.R_reads' HO525.out).2.2 | (with_reducible refine Kd.C_alloc ?_ _) | (with_reducible refine Kd.C_drewN ?_ _) | (with_reducible refine Kd.C_drew ?_))); (case side2 => exact (Kd.R_reads' HO525.out).2.1); (case side3 => repeat (first | exact (Kd.R_reads' HO529.out).2.2 | (with_reducible refine Kd.C_alloc ?_ _) | (with_reducible refine Kd.C_drewN ?_ _) | (with_reducible refine Kd.C_drew ?_))); (case side4 => exact (Kd.R_reads' HO529.out).2.1); rintro e w' ⟨rfl, ⟨nd, rfl⟩⟩; (try first | exact ⟨rfl, _, World.drewN_drewN _ _ _⟩ | exact ⟨rfl, _, Eq.trans (World.drewN_drewN _ _ _) (congrArg (World.drewN _) (Nat.add_assoc _ _ _))⟩)))
              repeat (go_quiet (first | (go_at_call 44; (with_reducible refine (laws_dTexts.calls kj91 _ _ t522 _ _ t526 t530 _ ?side1 ?side2 ?side3 ?side4 A136.out).mono ?_); (case side1 => repeat (first | exact (Kd.R_reads' HO525.out).2.2 | (with_reducible refine Kd.C_alloc ?_ _) | (with_reducible refine Kd.C_drewN ?_ _) | (with_reducible refine Kd.C_drew ?_))); (case side2 => exact (Kd.R_reads' HO525.out).2.1); (case side3 => repeat (first | exact (Kd.R_reads' HO529.out).2.2 | (with_reducible refine Kd.C_alloc ?_ _) | (with_reducible refine Kd.C_drewN ?_ _) | (with_reducible refine Kd.C_drew ?_))); (case side4 => exact (Kd.R_reads' HO529.out).2.1); rintro e w' ⟨rfl, ⟨nd, rfl⟩⟩; (try first | exact ⟨rfl, _, World.drewN_drewN _ _ _⟩ | exact ⟨rfl, _, Eq.trans (World.drewN_drewN _ _ _) (congrArg (World.drewN _) (Nat.add_assoc _ _ _))⟩))); try go_wp2_with (first | (go_at_call 44; (with_reducible refine (laws_dTexts.calls kj91 _ _ t522 _ _ t526 t530 _ ?side1 ?side2 ?side3 ?side4 A136.out).mono ?_); (case side1 => repeat (first | exact (Kd.R_reads' HO525.out).2.2 | (with_reducible refine Kd.C_alloc ?_ _) | (with_reducible refine Kd.C_drewN ?_ _) | (with_reducible refine Kd.C_drew ?_))); (case side2 => exact (Kd.R_reads' HO525.out).2.1); (case side3 => repeat (first | exact (Kd.R_reads' HO529.out).2.2 | (with_reducible refine Kd.C_alloc ?_ _) | (with_reducible refine Kd.C_drewN ?_ _) | (with_reducible refine Kd.C_drew ?_))); (case side4 => exact (Kd.R_reads' HO529.out).2.1); rintro e w' ⟨rfl, ⟨nd, rfl⟩⟩; (try first | exact ⟨rfl, _, World.drewN_drewN _ _ _⟩ | exact ⟨rfl, _, Eq.trans (World.drewN_drewN _ _ _) (congrArg (World.drewN _) (Nat.add_assoc _ _ _))⟩))))
              go_meet
              case rel => exact ⟨_, (!t530), (by first | rfl | (simp; done) | (simp [*]; done)), H', ⟨by have := HJ11.out; have := HJ39.out; have := HJ85.out; have := HJ91.out; first | omega | exact Nat.le_refl _⟩, ⟨by (with_reducible repeat (first | apply Kd.R_alloc | apply Kd.R_drewN | apply Kd.R_drew)); exact Kd.R_mono HO525.out (fun _ hk => trivial)⟩, ⟨by repeat (first | (with_reducible first | exact HB.out | apply below_alloc | apply pw_below_drewN | apply below_drew1) | exact HB.out)⟩⟩
            case rest => as_aux_lemma =>
             clear HC131
             try clear c1
             try clear c2
             try clear p2
             try clear c3
             try clear c4
             try clear p4
             try clear q4
             try clear hx4
             try clear c5
             try clear c6
             try clear p6
             try clear c8
             try clear c9
             try clear c10
             try clear c13
             try clear c18
             try clear c18b0
             try clear c18b1
             try clear c18b2
             try clear c20
             try clear c21
             try clear c21b0
             try clear c21b1
             try clear c21b2
             try clear c24
             try clear c24b0
             try clear c24b1
             try clear c24b2
             try clear c27
             try clear c27b0
             try clear c27b1
             try clear c27b2
             try clear c30
             try clear c30b0
             try clear c30b1
             try clear c39
             try clear c41
             try clear c42
             try clear c42b0
             try clear c42b1
             try clear c42b2
             try clear c43
             try clear c43b0
             try clear c43b1
             try clear c45
             try clear c45b0
             try clear c46
             try clear c46b0
             try clear c48
             try clear c48b0
             try clear c49
             try clear c49b0
             try clear p49
             try clear q49
             try clear hx49
             try clear c50
             try clear c50b0
             try clear c51
             try clear c51b0
             try clear c51b1
             try clear c51b2
             try clear c55
             try clear c56
             try clear c56b0
             try clear c56b1
             try clear c57
             try clear c58
             try clear c59
             try clear c59b0
             try clear c59b1
             try clear c60
             try clear c60b0
             try clear c60b1
             try clear p64
             try clear c89
             try clear c89b0
             try clear c89b1
             try clear c89b2
             try clear c90
             try clear c90b0
             try clear c90b1
             try clear c91
             try clear c93
             try clear c97
             try clear c98
             try clear c99
             try clear c100
             try clear c100b0
             try clear c100b1
             try clear c101
             try clear c101b0
             try clear c101b1
             try clear c102
             try clear c102b0
             try clear c102b1
             try clear c103
             try clear c103b0
             try clear c103b1
             try clear c135
             try clear c135b0
             try clear c135b1
             try clear c135b2
             try clear hx494_0
             try clear hx495_0
             try clear hx496_0
             try clear p2
             try clear p4
             try clear p49
             try clear p494
             try clear p495
             try clear p496
             try clear p6
             try clear p64
             try clear q4
             try clear q49
             try clear q494
             try clear q495
             try clear q496
             obtain ⟨kq, x290_130, rfl, HA, HJ130, HO_44, HB⟩ := hcut
             cases kq with
             | zero => exact absurd HA.out (by simp [laws_FnLettersTurned.j5])
             | succ kj130 =>
              have H := HA.out; clear HA
              simp only [laws_FnLettersTurned.j5] at H
              by_cases c139 : x290_130 = true
              ·subst c139
               have H1 : (some false) = some r := by rw [if_pos rfl] at H; exact H
               clear H; have H := H1; clear H1
               obtain rfl := Option.some.inj H
               go_wp2
               repeat (go_quiet (fail); try go_wp2)
               go_ret
               exact ⟨by first | rfl | (simp [errW_none, errW_some] <;> rfl) | (simp [*, errW_none, errW_some] <;> rfl), by repeat (first | (with_reducible first | exact HB.out | apply below_alloc | apply pw_below_drewN | apply below_drew1) | exact HB.out)⟩
              ·as_aux_lemma =>
               replace c139 := Bool.eq_false_iff.mpr c139
               subst c139
               have H1 : (laws_FnLettersTurned.l1 kj130 t522 1) = some r := by rw [if_neg (show ¬ (false = true) by decide)] at H; exact H
               clear H; have H := H1; clear H1
               have H' := Aside0.mk H
               clear H
               go_wp2
               repeat (go_quiet (fail); try go_wp2)
               go_loopg [48] kj130 (fun kq v48 w' => ∃ (x48_6 : Int), v48 = .int .i64 x48_6 ∧ Aside0 (laws_FnLettersTurned.l1 kq t522 x48_6 = some r) ∧ Aside0 (kq ≤ kj130) ∧ Aside0 (Kd.R Kd.string 9 w' w.heap.size (fun _ => True) v524 t522) ∧ Aside0 (Below w.heap.size w w'))
               case atStart => exact ⟨(1), (by first | rfl | (simp; done) | (simp [*]; done)), H', ⟨Nat.le_refl _⟩, ⟨by (with_reducible repeat (first | apply Kd.R_alloc | apply Kd.R_drewN | apply Kd.R_drew)); exact HO_44.out⟩, ⟨by repeat (first | (with_reducible first | exact HB.out | apply below_alloc | apply pw_below_drewN | apply below_drew1) | exact HB.out)⟩⟩
               case round => as_aux_lemma =>
                clear H'
                try clear c1
                try clear c2
                try clear p2
                try clear c3
                try clear c4
                try clear p4
                try clear q4
                try clear hx4
                try clear c5
                try clear c6
                try clear p6
                try clear c8
                try clear c9
                try clear c10
                try clear c13
                try clear c18
                try clear c18b0
                try clear c18b1
                try clear c18b2
                try clear c20
                try clear c21
                try clear c21b0
                try clear c21b1
                try clear c21b2
                try clear c24
                try clear c24b0
                try clear c24b1
                try clear c24b2
                try clear c27
                try clear c27b0
                try clear c27b1
                try clear c27b2
                try clear c30
                try clear c30b0
                try clear c30b1
                try clear c39
                try clear c41
                try clear c42
                try clear c42b0
                try clear c42b1
                try clear c42b2
                try clear c43
                try clear c43b0
                try clear c43b1
                try clear c45
                try clear c45b0
                try clear c46
                try clear c46b0
                try clear c48
                try clear c48b0
                try clear c49
                try clear c49b0
                try clear p49
                try clear q49
                try clear hx49
                try clear c50
                try clear c50b0
                try clear c51
                try clear c51b0
                try clear c51b1
                try clear c51b2
                try clear c55
                try clear c56
                try clear c56b0
                try clear c56b1
                try clear c57
                try clear c58
                try clear c59
                try clear c59b0
                try clear c59b1
                try clear c60
                try clear c60b0
                try clear c60b1
                try clear p64
                try clear c89
                try clear c89b0
                try clear c89b1
                try clear c89b2
                try clear c90
                try clear c90b0
                try clear c90b1
                try clear c91
                try clear c93
                try clear c97
                try clear c98
                try clear c99
                try clear c100
                try clear c100b0
                try clear c100b1
                try clear c101
                try clear c101b0
                try clear c101b1
                try clear c102
                try clear c102b0
                try clear c102b1
                try clear c103
                try clear c103b0
                try clear c103b1
                try clear c135
                try clear c135b0
                try clear c135b1
                try clear c135b2
                try clear c139
                try clear hx494_0
                try clear hx495_0
                try clear hx496_0
                try clear p2
                try clear p4
                try clear p49
                try clear p494
                try clear p495
                try clear p496
                try clear p6
                try clear p64
                try clear q4
                try clear q49
                try clear q494
                try clear q495
                try clear q496
                obtain ⟨x48_6, rfl, HA, HK6, HO_44, HB⟩ := hrel
                cases gk with
                | zero => exact absurd HA.out (by simp [laws_FnLettersTurned.l1])
                | succ k6 =>
                 have H := HA.out; clear HA
                 simp only [laws_FnLettersTurned.l1] at H
                 by_cases c140 : x48_6 < (t522.length : Int)
                 ·as_aux_lemma =>
                  rw [if_pos c140] at H
                  have c140b0 : decide (x48_6 < (t522.length : Int)) = true := decide_eq_true c140
                  clear c140
                  by_cases c141 : 0 ≤ x48_6
                  rotate_left
                  ·rw [if_neg c141] at H
                   exact absurd H (by simp)
                  as_aux_lemma =>
                  rw [if_pos c141] at H
                  have c141b0 : decide (0 ≤ x48_6) = true := decide_eq_true c141
                  clear c141
                  obtain ⟨ji142, hji142⟩ : ∃ j_ : Int, (wrap64 (x48_6 - 1)) = j_ := ⟨_, rfl⟩
                  replace H : (if 0 ≤ (ji142) then (if (ji142) < (t522.length : Int) then (if ((rdOf ByteArray.empty t522 x48_6).size : Int) < ((rdOf ByteArray.empty t522 (ji142)).size : Int) then (some false) else (if ((rdOf ByteArray.empty t522 x48_6).size : Int) = ((rdOf ByteArray.empty t522 (ji142)).size : Int) then (if ((Op.bytesLess ((rdOf ByteArray.empty t522 (ji142)).toList) ((rdOf ByteArray.empty t522 x48_6).toList)) = true) then (laws_FnLettersTurned.l1 k6 t522 (wrap64 (x48_6 + 1))) else (some false)) else (laws_FnLettersTurned.l1 k6 t522 (wrap64 (x48_6 + 1))))) else (none)) else (none)) = some r := by first | (rw [hji142] at H; exact H) | (simp only [hji142] at H ⊢; exact H)
                  have hji142w : (IntKind.i64.wrap (x48_6 - 1)) = ji142 := (i64_w _).trans hji142
                  by_cases c143 : 0 ≤ (ji142)
                  rotate_left
                  ·rw [if_neg c143] at H
                   exact absurd H (by simp)
                  as_aux_lemma =>
                  rw [if_pos c143] at H
                  have c143b0 : decide (0 ≤ (ji142)) = true := decide_eq_true c143
                  clear c143
                  by_cases c144 : (ji142) < (t522.length : Int)
                  rotate_left
                  ·rw [if_neg c144] at H
                   exact absurd H (by simp)
                  as_aux_lemma =>
                  rw [if_pos c144] at H
                  have c144b0 : decide ((ji142) < (t522.length : Int)) = true := decide_eq_true c144
                  clear c144
                  by_cases c145 : ((rdOf ByteArray.empty t522 x48_6).size : Int) < ((rdOf ByteArray.empty t522 (ji142)).size : Int)
                  ·as_aux_lemma =>
                   rw [if_pos c145] at H
                   have c145b0 : decide (((rdOf ByteArray.empty t522 x48_6).size : Int) < ((rdOf ByteArray.empty t522 (ji142)).size : Int)) = true := decide_eq_true c145
                   have c145b1 : decide ((rdOf ByteArray.empty t522 x48_6).size < (rdOf ByteArray.empty t522 (ji142)).size) = true := decide_eq_true (Int.ofNat_lt.mp c145)
                   clear c145
                   obtain rfl := Option.some.inj H
                   obtain ⟨Ao146, co146, eo146⟩ := Kd.R_slice HO_44.out
                   subst eo146
                   have p531 : 0 ≤ (x48_6 : Int) := of_decide_eq_true (by first | (with_reducible assumption) | assumption)
                   have q531 : x48_6 < (t522.length : Int) := of_decide_eq_true (by first | (with_reducible assumption) | assumption)
                   obtain ⟨ad531, e531, hx531_0⟩ := Kd.at_string (Kd.R_reads' HO_44.out).2.2 x48_6 p531 q531
                   cases e531
                   replace p531 := eq_true p531; replace q531 := eq_true q531
                   have p532 : 0 ≤ ((ji142) : Int) := of_decide_eq_true (by first | (with_reducible assumption) | assumption)
                   have q532 : (ji142) < (t522.length : Int) := of_decide_eq_true (by first | (with_reducible assumption) | assumption)
                   obtain ⟨ad532, e532, hx532_0⟩ := Kd.at_string (Kd.R_reads' HO_44.out).2.2 (ji142) p532 q532
                   obtain rfl : ad531 = ad532 := (by injection e532)
                   replace p532 := eq_true p532; replace q532 := eq_true q532
                   go_wp2
                   repeat (go_quiet (fail); try go_wp2)
                   go_ret
                   exact ⟨by first | rfl | (simp [errW_none, errW_some] <;> rfl) | (simp only [← hji142]; first | rfl | (simp [errW_none, errW_some] <;> rfl)) | (simp [*, errW_none, errW_some] <;> rfl), by repeat (first | (with_reducible first | exact HB.out | apply below_alloc | apply pw_below_drewN | apply below_drew1) | exact HB.out)⟩
                  ·as_aux_lemma =>
                   rw [if_neg c145] at H
                   have c145b0 : decide (((rdOf ByteArray.empty t522 x48_6).size : Int) < ((rdOf ByteArray.empty t522 (ji142)).size : Int)) = false := decide_eq_false c145
                   have c145b1 : decide ((rdOf ByteArray.empty t522 x48_6).size < (rdOf ByteArray.empty t522 (ji142)).size) = false := decide_eq_false (fun h => c145 (Int.ofNat_lt.mpr h))
                   clear c145
                   by_cases c147 : ((rdOf ByteArray.empty t522 x48_6).size : Int) = ((rdOf ByteArray.empty t522 (ji142)).size : Int)
                   ·as_aux_lemma =>
                    rw [if_pos c147] at H
                    have c147b0 : (((rdOf ByteArray.empty t522 x48_6).size : Int) == ((rdOf ByteArray.empty t522 (ji142)).size : Int)) = true := beq_iff_eq.mpr c147
                    have c147b1 : (((rdOf ByteArray.empty t522 x48_6).size : Int) != ((rdOf ByteArray.empty t522 (ji142)).size : Int)) = false := bne_eq_false_iff_eq.mpr c147
                    have c147b2 : ((rdOf ByteArray.empty t522 x48_6).size == (rdOf ByteArray.empty t522 (ji142)).size) = true := by first | simpa using c147 | (simp at c147 ⊢; omega)
                    clear c147
                    by_cases c148 : ((Op.bytesLess ((rdOf ByteArray.empty t522 (ji142)).toList) ((rdOf ByteArray.empty t522 x48_6).toList)) = true)
                    ·as_aux_lemma =>
                     rw [if_pos c148] at H
                     have c148b0 : (Op.bytesLess ((rdOf ByteArray.empty t522 (ji142)).toList) ((rdOf ByteArray.empty t522 x48_6).toList)) = true := c148
                     have c148b4 := leq_true c148b0; have c148b5 := leq2_true c148b0; have c148b6 := leq3_true c148b0
                     clear c148
                     have H' := Aside0.mk H
                     clear H
                     obtain ⟨Ao149, co149, eo149⟩ := Kd.R_slice HO_44.out
                     subst eo149
                     have p531 : 0 ≤ (x48_6 : Int) := of_decide_eq_true (by first | (with_reducible assumption) | assumption)
                     have q531 : x48_6 < (t522.length : Int) := of_decide_eq_true (by first | (with_reducible assumption) | assumption)
                     obtain ⟨ad531, e531, hx531_0⟩ := Kd.at_string (Kd.R_reads' HO_44.out).2.2 x48_6 p531 q531
                     cases e531
                     replace p531 := eq_true p531; replace q531 := eq_true q531
                     have p532 : 0 ≤ ((ji142) : Int) := of_decide_eq_true (by first | (with_reducible assumption) | assumption)
                     have q532 : (ji142) < (t522.length : Int) := of_decide_eq_true (by first | (with_reducible assumption) | assumption)
                     obtain ⟨ad532, e532, hx532_0⟩ := Kd.at_string (Kd.R_reads' HO_44.out).2.2 (ji142) p532 q532
                     obtain rfl : ad531 = ad532 := (by injection e532)
                     replace p532 := eq_true p532; replace q532 := eq_true q532
                     have p533 : 0 ≤ (x48_6 : Int) := of_decide_eq_true (by first | (with_reducible assumption) | assumption)
                     have q533 : x48_6 < (t522.length : Int) := of_decide_eq_true (by first | (with_reducible assumption) | assumption)
                     obtain ⟨ad533, e533, hx533_0⟩ := Kd.at_string (Kd.R_reads' HO_44.out).2.2 x48_6 p533 q533
                     obtain rfl : ad531 = ad533 := (by injection e533)
                     replace p533 := eq_true p533; replace q533 := eq_true q533
                     have p534 : 0 ≤ ((ji142) : Int) := of_decide_eq_true (by first | (with_reducible assumption) | assumption)
                     have q534 : (ji142) < (t522.length : Int) := of_decide_eq_true (by first | (with_reducible assumption) | assumption)
                     obtain ⟨ad534, e534, hx534_0⟩ := Kd.at_string (Kd.R_reads' HO_44.out).2.2 (ji142) p534 q534
                     obtain rfl : ad531 = ad534 := (by injection e534)
                     replace p534 := eq_true p534; replace q534 := eq_true q534
                     have p535 : 0 ≤ (x48_6 : Int) := of_decide_eq_true (by first | (with_reducible assumption) | assumption)
                     have q535 : x48_6 < (t522.length : Int) := of_decide_eq_true (by first | (with_reducible assumption) | assumption)
                     obtain ⟨ad535, e535, hx535_0⟩ := Kd.at_string (Kd.R_reads' HO_44.out).2.2 x48_6 p535 q535
                     obtain rfl : ad531 = ad535 := (by injection e535)
                     replace p535 := eq_true p535; replace q535 := eq_true q535
                     have p536 : 0 ≤ ((ji142) : Int) := of_decide_eq_true (by first | (with_reducible assumption) | assumption)
                     have q536 : (ji142) < (t522.length : Int) := of_decide_eq_true (by first | (with_reducible assumption) | assumption)
                     obtain ⟨ad536, e536, hx536_0⟩ := Kd.at_string (Kd.R_reads' HO_44.out).2.2 (ji142) p536 q536
                     obtain rfl : ad531 = ad536 := (by injection e536)
                     replace p536 := eq_true p536; replace q536 := eq_true q536
                     go_wp2
                     repeat (go_quiet (fail); try go_wp2)
                     go_roundg k6
                     case measure => have := HJ11.out; have := HJ39.out; have := HJ85.out; have := HJ91.out; have := HJ130.out; have := HK6.out; omega
                     case rel => exact ⟨(wrap64 (x48_6 + 1)), (by first | rfl | (simp; done) | (simp [*]; done)), H', ⟨by have := HJ11.out; have := HJ39.out; have := HJ85.out; have := HJ91.out; have := HJ130.out; have := HK6.out; omega⟩, ⟨by (with_reducible repeat (first | apply Kd.R_alloc | apply Kd.R_drewN | apply Kd.R_drew)); exact HO_44.out⟩, ⟨by repeat (first | (with_reducible first | exact HB.out | apply below_alloc | apply pw_below_drewN | apply below_drew1) | exact HB.out)⟩⟩
                    ·as_aux_lemma =>
                     rw [if_neg c148] at H
                     have c148b0 : (Op.bytesLess ((rdOf ByteArray.empty t522 (ji142)).toList) ((rdOf ByteArray.empty t522 x48_6).toList)) = false := by simpa using c148
                     have c148b4 := leq_false c148b0
                     clear c148
                     obtain rfl := Option.some.inj H
                     obtain ⟨Ao150, co150, eo150⟩ := Kd.R_slice HO_44.out
                     subst eo150
                     have p531 : 0 ≤ (x48_6 : Int) := of_decide_eq_true (by first | (with_reducible assumption) | assumption)
                     have q531 : x48_6 < (t522.length : Int) := of_decide_eq_true (by first | (with_reducible assumption) | assumption)
                     obtain ⟨ad531, e531, hx531_0⟩ := Kd.at_string (Kd.R_reads' HO_44.out).2.2 x48_6 p531 q531
                     cases e531
                     replace p531 := eq_true p531; replace q531 := eq_true q531
                     have p532 : 0 ≤ ((ji142) : Int) := of_decide_eq_true (by first | (with_reducible assumption) | assumption)
                     have q532 : (ji142) < (t522.length : Int) := of_decide_eq_true (by first | (with_reducible assumption) | assumption)
                     obtain ⟨ad532, e532, hx532_0⟩ := Kd.at_string (Kd.R_reads' HO_44.out).2.2 (ji142) p532 q532
                     obtain rfl : ad531 = ad532 := (by injection e532)
                     replace p532 := eq_true p532; replace q532 := eq_true q532
                     have p533 : 0 ≤ (x48_6 : Int) := of_decide_eq_true (by first | (with_reducible assumption) | assumption)
                     have q533 : x48_6 < (t522.length : Int) := of_decide_eq_true (by first | (with_reducible assumption) | assumption)
                     obtain ⟨ad533, e533, hx533_0⟩ := Kd.at_string (Kd.R_reads' HO_44.out).2.2 x48_6 p533 q533
                     obtain rfl : ad531 = ad533 := (by injection e533)
                     replace p533 := eq_true p533; replace q533 := eq_true q533
                     have p534 : 0 ≤ ((ji142) : Int) := of_decide_eq_true (by first | (with_reducible assumption) | assumption)
                     have q534 : (ji142) < (t522.length : Int) := of_decide_eq_true (by first | (with_reducible assumption) | assumption)
                     obtain ⟨ad534, e534, hx534_0⟩ := Kd.at_string (Kd.R_reads' HO_44.out).2.2 (ji142) p534 q534
                     obtain rfl : ad531 = ad534 := (by injection e534)
                     replace p534 := eq_true p534; replace q534 := eq_true q534
                     have p535 : 0 ≤ (x48_6 : Int) := of_decide_eq_true (by first | (with_reducible assumption) | assumption)
                     have q535 : x48_6 < (t522.length : Int) := of_decide_eq_true (by first | (with_reducible assumption) | assumption)
                     obtain ⟨ad535, e535, hx535_0⟩ := Kd.at_string (Kd.R_reads' HO_44.out).2.2 x48_6 p535 q535
                     obtain rfl : ad531 = ad535 := (by injection e535)
                     replace p535 := eq_true p535; replace q535 := eq_true q535
                     have p536 : 0 ≤ ((ji142) : Int) := of_decide_eq_true (by first | (with_reducible assumption) | assumption)
                     have q536 : (ji142) < (t522.length : Int) := of_decide_eq_true (by first | (with_reducible assumption) | assumption)
                     obtain ⟨ad536, e536, hx536_0⟩ := Kd.at_string (Kd.R_reads' HO_44.out).2.2 (ji142) p536 q536
                     obtain rfl : ad531 = ad536 := (by injection e536)
                     replace p536 := eq_true p536; replace q536 := eq_true q536
                     go_wp2
                     repeat (go_quiet (fail); try go_wp2)
                     go_ret
                     exact ⟨by first | rfl | (simp [errW_none, errW_some] <;> rfl) | (simp only [← hji142]; first | rfl | (simp [errW_none, errW_some] <;> rfl)) | (simp [*, errW_none, errW_some] <;> rfl), by repeat (first | (with_reducible first | exact HB.out | apply below_alloc | apply pw_below_drewN | apply below_drew1) | exact HB.out)⟩
                   ·as_aux_lemma =>
                    rw [if_neg c147] at H
                    have c147b0 : (((rdOf ByteArray.empty t522 x48_6).size : Int) == ((rdOf ByteArray.empty t522 (ji142)).size : Int)) = false := beq_eq_false_iff_ne.mpr c147
                    have c147b1 : (((rdOf ByteArray.empty t522 x48_6).size : Int) != ((rdOf ByteArray.empty t522 (ji142)).size : Int)) = true := bne_iff_ne.mpr c147
                    have c147b2 : ((rdOf ByteArray.empty t522 x48_6).size == (rdOf ByteArray.empty t522 (ji142)).size) = false := by first | simpa using c147 | (simp at c147 ⊢; omega)
                    have H' := Aside0.mk H
                    clear H
                    obtain ⟨Ao151, co151, eo151⟩ := Kd.R_slice HO_44.out
                    subst eo151
                    have p531 : 0 ≤ (x48_6 : Int) := of_decide_eq_true (by first | (with_reducible assumption) | assumption)
                    have q531 : x48_6 < (t522.length : Int) := of_decide_eq_true (by first | (with_reducible assumption) | assumption)
                    obtain ⟨ad531, e531, hx531_0⟩ := Kd.at_string (Kd.R_reads' HO_44.out).2.2 x48_6 p531 q531
                    cases e531
                    replace p531 := eq_true p531; replace q531 := eq_true q531
                    have p532 : 0 ≤ ((ji142) : Int) := of_decide_eq_true (by first | (with_reducible assumption) | assumption)
                    have q532 : (ji142) < (t522.length : Int) := of_decide_eq_true (by first | (with_reducible assumption) | assumption)
                    obtain ⟨ad532, e532, hx532_0⟩ := Kd.at_string (Kd.R_reads' HO_44.out).2.2 (ji142) p532 q532
                    obtain rfl : ad531 = ad532 := (by injection e532)
                    replace p532 := eq_true p532; replace q532 := eq_true q532
                    have p533 : 0 ≤ (x48_6 : Int) := of_decide_eq_true (by first | (with_reducible assumption) | assumption)
                    have q533 : x48_6 < (t522.length : Int) := of_decide_eq_true (by first | (with_reducible assumption) | assumption)
                    obtain ⟨ad533, e533, hx533_0⟩ := Kd.at_string (Kd.R_reads' HO_44.out).2.2 x48_6 p533 q533
                    obtain rfl : ad531 = ad533 := (by injection e533)
                    replace p533 := eq_true p533; replace q533 := eq_true q533
                    have p534 : 0 ≤ ((ji142) : Int) := of_decide_eq_true (by first | (with_reducible assumption) | assumption)
                    have q534 : (ji142) < (t522.length : Int) := of_decide_eq_true (by first | (with_reducible assumption) | assumption)
                    obtain ⟨ad534, e534, hx534_0⟩ := Kd.at_string (Kd.R_reads' HO_44.out).2.2 (ji142) p534 q534
                    obtain rfl : ad531 = ad534 := (by injection e534)
                    replace p534 := eq_true p534; replace q534 := eq_true q534
                    go_wp2
                    repeat (go_quiet (fail); try go_wp2)
                    go_roundg k6
                    case measure => have := HJ11.out; have := HJ39.out; have := HJ85.out; have := HJ91.out; have := HJ130.out; have := HK6.out; omega
                    case rel => exact ⟨(wrap64 (x48_6 + 1)), (by first | rfl | (simp; done) | (simp [*]; done)), H', ⟨by have := HJ11.out; have := HJ39.out; have := HJ85.out; have := HJ91.out; have := HJ130.out; have := HK6.out; omega⟩, ⟨by (with_reducible repeat (first | apply Kd.R_alloc | apply Kd.R_drewN | apply Kd.R_drew)); exact HO_44.out⟩, ⟨by repeat (first | (with_reducible first | exact HB.out | apply below_alloc | apply pw_below_drewN | apply below_drew1) | exact HB.out)⟩⟩
                 ·rw [if_neg c140] at H
                  have c140b0 : decide (x48_6 < (t522.length : Int)) = false := decide_eq_false c140
                  clear c140
                  obtain rfl := Option.some.inj H
                  obtain ⟨Ao152, co152, eo152⟩ := Kd.R_slice HO_44.out
                  subst eo152
                  go_wp2
                  repeat (go_quiet (fail); try go_wp2)
                  go_ret
                  exact ⟨by first | rfl | (simp [errW_none, errW_some] <;> rfl) | (simp [*, errW_none, errW_some] <;> rfl), by repeat (first | (with_reducible first | exact HB.out | apply below_alloc | apply pw_below_drewN | apply below_drew1) | exact HB.out)⟩

/-- THE ONE PURE STATEMENT of laws_FnLettersTurned: yours. -/
def laws_FnLettersTurned.Pure : Prop := ∀ (l0 : List Int) (l1 : List Int), l0.length ≤ maxLen → l0.length * 1 ≤ 140737488351232 → (∀ x ∈ l0, (Lit.int .u8 x).wf = true) → l1.length ≤ maxLen → l1.length * 1 ≤ 140737488351232 → (∀ x ∈ l1, (Lit.int .u8 x).wf = true) → ∃ k, laws_FnLettersTurned.f k l0 l1 = some true
theorem laws_FnLettersTurned.walk (P : laws_FnLettersTurned.Pure) (a0 : Option Addr) (len0 cap0 : Nat) (z0 : List Int) (a1 : Option Addr) (len1 cap1 : Nat) (z1 : List Int) (w : World) (w0 : (a0 = none ∧ len0 = 0 ∧ cap0 = 0 ∧ z0 = []) ∨ ∃ x, a0 = some x ∧ len0 ≤ cap0 ∧ cap0 ≤ maxLen ∧ z0.length = cap0 ∧ (∀ i, i < z0.length → w.cell? (x.add i) = some (.int .u8 (z0.getD i 0))) ∧ ∀ n ∈ z0, (Lit.int .u8 n).wf = true) (y0 : len0 * 1 ≤ 140737488351232) (w1 : (a1 = none ∧ len1 = 0 ∧ cap1 = 0 ∧ z1 = []) ∨ ∃ x, a1 = some x ∧ len1 ≤ cap1 ∧ cap1 ≤ maxLen ∧ z1.length = cap1 ∧ (∀ i, i < z1.length → w.cell? (x.add i) = some (.int .u8 (z1.getD i 0))) ∧ ∀ n ∈ z1, (Lit.int .u8 n).wf = true) (y1 : len1 * 1 ≤ 140737488351232) :
  Calls Try.prog 13 #[.slice a0 len0 cap0, .slice a1 len1 cap1] w fun e w' => e = .returned (.bool true) ∧ Below w.heap.size w w' := by
 obtain ⟨l0, rfl, hr0, hm0, hw0, hc0⟩ := ReadsInt.ofRowC w0
 obtain ⟨l1, rfl, hr1, hm1, hw1, hc1⟩ := ReadsInt.ofRowC w1
 obtain ⟨k, h⟩ := P l0 l1 hm0 y0 hw0 hm1 y1 hw1
 refine (laws_FnLettersTurned.calls k _ _ l0 _ _ l1 true w (Kd.C_of_reads (d := (0 : Int)) (h1 := fun _ => rfl) hr0) hc0 (Kd.C_of_reads (d := (0 : Int)) (h1 := fun _ => rfl) hr1) hc1 h).mono ?_
 rintro e w' ⟨rfl, hd⟩
 exact ⟨rfl, hd⟩

end Go.Proofs.Ytkphmbcoefkilaa.P
