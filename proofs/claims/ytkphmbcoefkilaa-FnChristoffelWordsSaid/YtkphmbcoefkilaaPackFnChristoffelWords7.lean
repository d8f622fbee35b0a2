/- A Christoffel word has two factors in one way, is its own least turn, balanced, and has a centre that is the same backwards. No condition. -/
import Derived.Test.YtkphmbcoefkilaaPackFnChristoffelWords6
-- PFFnChristoffelWords
namespace Go.Proofs.Ytkphmbcoefkilaa.P
open Go.RowKit Go.Proofs.YtkphmbcoefkilaaW.PrintWords Go.Proofs.YtkphmbcoefkilaaW.PrintLast
set_option linter.unusedVariables false
set_option linter.unusedSimpArgs false

/-! ### laws_FnChristoffelWords: function 12 -/
mutual
def laws_FnChristoffelWords.j0 : Nat → List Int → ByteArray → ByteArray → ByteArray → Bool → Bool → Bool → Option (Bool)
 | 0, _, _, _, _, _, _, _ => none
 | k + 1, x1, x5, x6, x7, x8, x12, x114 => if x114 = true then (some false) else (if x12 = true then ((impl_CountsOf.f x5).bind fun bt430 => ((impl_ChristoffelOf.f k bt430.1 bt430.2.1).bind fun bt433 => ((impl_LeastTurn.f k x5).bind fun bt435 => ((impl_IsBalanced.f k x5).bind fun bt437 => ((impl_MirrorWord.f x5).bind fun bt439 => ((impl_IsChristoffel.f k bt439.1).bind fun bt441 => ((impl_TurnsOf.f k x5).bind fun bt443 => (if bt430.2.2 = true then (if bt433.2 = true then (if bt433.1.toList = x5.toList then (if bt435.2 = true then (if bt435.1.toList = x5.toList then (if bt437.2 = true then (if bt437.1 = true then (if bt439.2 = true then (if bt441.2 = true then (if bt441.1 = true then (if bt443.2 = true then (if (bt443.1.length : Int) = (x5.size : Int) then (laws_FnChristoffelWords.j1 k x1 x5 x6 x7 x8) else (some false)) else (some false)) else (some false)) else (some false)) else (some false)) else (some false)) else (some false)) else (some false)) else (some false)) else (some false)) else (some false)) else (some false))))))))) else (laws_FnChristoffelWords.j1 k x1 x5 x6 x7 x8))
def laws_FnChristoffelWords.j1 : Nat → List Int → ByteArray → ByteArray → ByteArray → Bool → Option (Bool)
 | 0, _, _, _, _, _ => none
 | k + 1, x1, x5, x6, x7, x8 => if x8 = true then (laws_FnChristoffelWords.l0 k x1 x5 x6 x7 0 1) else (laws_FnChristoffelWords.j7 k x1)
def laws_FnChristoffelWords.j7 : Nat → List Int → Option (Bool)
 | 0, _ => none
 | k + 1, x1 => (spec_DrawChristoffelOf.f x1).bind fun bt453 => ((impl_ChristoffelOf.f k bt453.1 bt453.2).bind fun bt455 => ((spec_ChristoffelOf.f k bt453.1 bt453.2).bind fun bt457 => (if (bt455.2 != bt457.2) = true then (laws_FnChristoffelWords.j8 k bt453.1 bt453.2 bt455.1 bt455.2 true) else (laws_FnChristoffelWords.j8 k bt453.1 bt453.2 bt455.1 bt455.2 (bt455.1.toList != bt457.1.toList)))))
def laws_FnChristoffelWords.j8 : Nat → Int → Int → ByteArray → Bool → Bool → Option (Bool)
 | 0, _, _, _, _, _ => none
 | k + 1, x40, x41, x42, x43, x309 => if x309 = true then (some false) else (if x43 = true then ((impl_CountsOf.f x42).bind fun bt459 => (if bt459.2.2 = true then (if bt459.1 = x40 then (some (bt459.2.1 == x41)) else (some false)) else (some false))) else (some true))
def laws_FnChristoffelWords.l0 : Nat → List Int → ByteArray → ByteArray → ByteArray → Int → Int → Option (Bool)
 | 0, _, _, _, _, _, _ => none
 | k + 1, x1, x5, x6, x7, x31, x32 => if x32 < (x5.size : Int) then (if 0 ≤ x32 then (if x32 ≤ (x5.size : Int) then ((impl_IsChristoffel.f k (x5.extract 0 (x32 : Int).toNat)).bind fun bt447 => ((impl_IsChristoffel.f k (x5.extract (x32 : Int).toNat x5.size)).bind fun bt449 => (if bt447.2 = true then (laws_FnChristoffelWords.j3 k x1 x5 x6 x7 x31 x32 bt447.1 bt449.1 (!bt449.2)) else (laws_FnChristoffelWords.j3 k x1 x5 x6 x7 x31 x32 bt447.1 bt449.1 true)))) else (none)) else (none)) else ((impl_CentreOf.f k x5).bind fun bt451 => (if x31 = 1 then (if bt451.2 = true then (laws_FnChristoffelWords.j5 k x1 bt451.1 ((bt451.1.size : Int) != (wrap64 ((x5.size : Int) - 2)))) else (laws_FnChristoffelWords.j5 k x1 bt451.1 true)) else (laws_FnChristoffelWords.j5 k x1 bt451.1 true)))
def laws_FnChristoffelWords.j3 : Nat → List Int → ByteArray → ByteArray → ByteArray → Int → Int → Bool → Bool → Bool → Option (Bool)
 | 0, _, _, _, _, _, _, _, _, _ => none
 | k + 1, x1, x5, x6, x7, x31, x32, x33, x35, x230 => if x230 = true then (some false) else (if x33 = true then (laws_FnChristoffelWords.j4 k x1 x5 x6 x7 x31 x32 x35) else (laws_FnChristoffelWords.j4 k x1 x5 x6 x7 x31 x32 false))
def laws_FnChristoffelWords.j4 : Nat → List Int → ByteArray → ByteArray → ByteArray → Int → Int → Bool → Option (Bool)
 | 0, _, _, _, _, _, _, _ => none
 | k + 1, x1, x5, x6, x7, x31, x32, x234 => if x234 = true then (if 0 ≤ x32 then (if x32 ≤ (x5.size : Int) then (if (x5.extract 0 (x32 : Int).toNat).toList = x6.toList then (if (x5.extract (x32 : Int).toNat x5.size).toList = x7.toList then (laws_FnChristoffelWords.l0 k x1 x5 x6 x7 (wrap64 (x31 + 1)) (wrap64 (x32 + 1))) else (some false)) else (some false)) else (none)) else (none)) else (laws_FnChristoffelWords.l0 k x1 x5 x6 x7 x31 (wrap64 (x32 + 1)))
def laws_FnChristoffelWords.j5 : Nat → List Int → ByteArray → Bool → Option (Bool)
 | 0, _, _, _ => none
 | k + 1, x1, x37, x267 => if x267 = true then (some false) else (laws_FnChristoffelWords.l1 k x1 x37 0)
def laws_FnChristoffelWords.l1 : Nat → List Int → ByteArray → Int → Option (Bool)
 | 0, _, _, _ => none
 | k + 1, x1, x37, x39 => if x39 < (x37.size : Int) then (if 0 ≤ x39 then (if 0 ≤ (wrap64 ((wrap64 ((x37.size : Int) - 1)) - x39)) then (if (wrap64 ((wrap64 ((x37.size : Int) - 1)) - x39)) < (x37.size : Int) then (if (bt x37 x39) = (bt x37 (wrap64 ((wrap64 ((x37.size : Int) - 1)) - x39))) then (laws_FnChristoffelWords.l1 k x1 x37 (wrap64 (x39 + 1))) else (some false)) else (none)) else (none)) else (none)) else (laws_FnChristoffelWords.j7 k x1)
end
def laws_FnChristoffelWords.f (k : Nat) (l0 : List Int) (l1 : List Int) : Option (Bool) := (laws_big.f l0 l1).bind fun t417 => (if t417 = true then (some true) else ((spec_DrawFactorsOf.f k l0).bind fun t418 => ((impl_FactorsOf.f k t418).bind fun bt419 => ((spec_FactorsOf.f k t418).bind fun bt422 => ((impl_IsChristoffel.f k t418).bind fun bt425 => ((spec_IsChristoffel.f k t418).bind fun bt427 => (if (bt419.2.2 != bt422.2.2) = true then (laws_FnChristoffelWords.j0 k l1 t418 bt419.1 bt419.2.1 bt419.2.2 bt425.1 true) else (if bt419.1.toList = bt422.1.toList then (if bt419.2.1.toList = bt422.2.1.toList then (if (bt425.2 != bt427.2) = true then (laws_FnChristoffelWords.j0 k l1 t418 bt419.1 bt419.2.1 bt419.2.2 bt425.1 true) else (if (bt425.1 != bt427.1) = true then (laws_FnChristoffelWords.j0 k l1 t418 bt419.1 bt419.2.1 bt419.2.2 bt425.1 true) else ((impl_IsLetters.f t418).bind fun t429 => (if (bt425.2 != t429) = true then (laws_FnChristoffelWords.j0 k l1 t418 bt419.1 bt419.2.1 bt419.2.2 bt425.1 true) else (if bt425.1 = true then (laws_FnChristoffelWords.j0 k l1 t418 bt419.1 bt419.2.1 bt419.2.2 bt425.1 (bt419.2.2 != (decide ((t418.size : Int) > 1)))) else (laws_FnChristoffelWords.j0 k l1 t418 bt419.1 bt419.2.1 bt419.2.2 bt425.1 (bt419.2.2 != false))))))) else (laws_FnChristoffelWords.j0 k l1 t418 bt419.1 bt419.2.1 bt419.2.2 bt425.1 true)) else (laws_FnChristoffelWords.j0 k l1 t418 bt419.1 bt419.2.1 bt419.2.2 bt425.1 true)))))))))
theorem laws_FnChristoffelWords.mono_l : ∀ k, (∀ y0 y1 y2 y3 y4 y5 y6, LeO (laws_FnChristoffelWords.j0 k y0 y1 y2 y3 y4 y5 y6) (laws_FnChristoffelWords.j0 (k + 1) y0 y1 y2 y3 y4 y5 y6)) ∧ (∀ y0 y1 y2 y3 y4, LeO (laws_FnChristoffelWords.j1 k y0 y1 y2 y3 y4) (laws_FnChristoffelWords.j1 (k + 1) y0 y1 y2 y3 y4)) ∧ (∀ y0, LeO (laws_FnChristoffelWords.j7 k y0) (laws_FnChristoffelWords.j7 (k + 1) y0)) ∧ (∀ y0 y1 y2 y3 y4, LeO (laws_FnChristoffelWords.j8 k y0 y1 y2 y3 y4) (laws_FnChristoffelWords.j8 (k + 1) y0 y1 y2 y3 y4)) ∧ (∀ y0 y1 y2 y3 y4 y5, LeO (laws_FnChristoffelWords.l0 k y0 y1 y2 y3 y4 y5) (laws_FnChristoffelWords.l0 (k + 1) y0 y1 y2 y3 y4 y5)) ∧ (∀ y0 y1 y2 y3 y4 y5 y6 y7 y8, LeO (laws_FnChristoffelWords.j3 k y0 y1 y2 y3 y4 y5 y6 y7 y8) (laws_FnChristoffelWords.j3 (k + 1) y0 y1 y2 y3 y4 y5 y6 y7 y8)) ∧ (∀ y0 y1 y2 y3 y4 y5 y6, LeO (laws_FnChristoffelWords.j4 k y0 y1 y2 y3 y4 y5 y6) (laws_FnChristoffelWords.j4 (k + 1) y0 y1 y2 y3 y4 y5 y6)) ∧ (∀ y0 y1 y2, LeO (laws_FnChristoffelWords.j5 k y0 y1 y2) (laws_FnChristoffelWords.j5 (k + 1) y0 y1 y2)) ∧ (∀ y0 y1 y2, LeO (laws_FnChristoffelWords.l1 k y0 y1 y2) (laws_FnChristoffelWords.l1 (k + 1) y0 y1 y2))
 | 0 => ⟨fun _ _ _ _ _ _ _ r h => by simp [laws_FnChristoffelWords.j0] at h, fun _ _ _ _ _ r h => by simp [laws_FnChristoffelWords.j1] at h, fun _ r h => by simp [laws_FnChristoffelWords.j7] at h, fun _ _ _ _ _ r h => by simp [laws_FnChristoffelWords.j8] at h, fun _ _ _ _ _ _ r h => by simp [laws_FnChristoffelWords.l0] at h, fun _ _ _ _ _ _ _ _ _ r h => by simp [laws_FnChristoffelWords.j3] at h, fun _ _ _ _ _ _ _ r h => by simp [laws_FnChristoffelWords.j4] at h, fun _ _ _ r h => by simp [laws_FnChristoffelWords.j5] at h, fun _ _ _ r h => by simp [laws_FnChristoffelWords.l1] at h⟩
 | k + 1 => by
  obtain ⟨ih0, ih1, ih2, ih3, ih4, ih5, ih6, ih7, ih8⟩ := laws_FnChristoffelWords.mono_l k
  refine ⟨?_, ?_, ?_, ?_, ?_, ?_, ?_, ?_, ?_⟩
  ·intro y0 y1 y2 y3 y4 y5 y6
   unfold laws_FnChristoffelWords.j0
   repeat' first
   | (with_reducible exact ih0 _ _ _ _ _ _ _)
   | (with_reducible exact ih1 _ _ _ _ _)
   | (with_reducible exact ih2 _)
   | (with_reducible exact ih3 _ _ _ _ _)
   | (with_reducible exact ih4 _ _ _ _ _ _)
   | (with_reducible exact ih5 _ _ _ _ _ _ _ _ _)
   | (with_reducible exact ih6 _ _ _ _ _ _ _)
   | (with_reducible exact ih7 _ _ _)
   | (with_reducible exact ih8 _ _ _)
   | (with_reducible exact impl_CentreOf.mono _ _)
   | (with_reducible exact impl_ChristoffelOf.mono _ _ _)
   | (with_reducible exact impl_FactorsOf.mono _ _)
   | (with_reducible exact impl_IsBalanced.mono _ _)
   | (with_reducible exact impl_IsChristoffel.mono _ _)
   | (with_reducible exact impl_LeastTurn.mono _ _)
   | (with_reducible exact impl_TurnsOf.mono _ _)
   | (with_reducible exact spec_ChristoffelOf.mono _ _ _)
   | (with_reducible exact spec_DrawFactorsOf.mono _ _)
   | (with_reducible exact spec_FactorsOf.mono _ _)
   | (with_reducible exact spec_IsChristoffel.mono _ _)
   | (with_reducible exact LeO.refl _)
   | (with_reducible exact LeO.none _)
   | (with_reducible refine LeO.ite ?_ ?_)
   | (with_reducible refine LeO.bind ?_ (fun _ => ?_))
   | exact ih0 _ _ _ _ _ _ _
   | exact ih1 _ _ _ _ _
   | exact ih2 _
   | exact ih3 _ _ _ _ _
   | exact ih4 _ _ _ _ _ _
   | exact ih5 _ _ _ _ _ _ _ _ _
   | exact ih6 _ _ _ _ _ _ _
   | exact ih7 _ _ _
   | exact ih8 _ _ _
   | exact impl_CentreOf.mono _ _
   | exact impl_ChristoffelOf.mono _ _ _
   | exact impl_FactorsOf.mono _ _
   | exact impl_IsBalanced.mono _ _
   | exact impl_IsChristoffel.mono _ _
   | exact impl_LeastTurn.mono _ _
   | exact impl_TurnsOf.mono _ _
   | exact spec_ChristoffelOf.mono _ _ _
   | exact spec_DrawFactorsOf.mono _ _
   | exact spec_FactorsOf.mono _ _
   | exact spec_IsChristoffel.mono _ _
   | exact LeO.none _
   | refine LeO.ite ?_ ?_
   | refine LeO.bind ?_ (fun _ => ?_)
  ·intro y0 y1 y2 y3 y4
   unfold laws_FnChristoffelWords.j1
   repeat' first
   | (with_reducible exact ih0 _ _ _ _ _ _ _)
   | (with_reducible exact ih1 _ _ _ _ _)
   | (with_reducible exact ih2 _)
   | (with_reducible exact ih3 _ _ _ _ _)
   | (with_reducible exact ih4 _ _ _ _ _ _)
   | (with_reducible exact ih5 _ _ _ _ _ _ _ _ _)
   | (with_reducible exact ih6 _ _ _ _ _ _ _)
   | (with_reducible exact ih7 _ _ _)
   | (with_reducible exact ih8 _ _ _)
   | (with_reducible exact impl_CentreOf.mono _ _)
   | (with_reducible exact impl_ChristoffelOf.mono _ _ _)
   | (with_reducible exact impl_FactorsOf.mono _ _)
   | (with_reducible exact impl_IsBalanced.mono _ _)
   | (with_reducible exact impl_IsChristoffel.mono _ _)
   | (with_reducible exact impl_LeastTurn.mono _ _)
   | (with_reducible exact impl_TurnsOf.mono _ _)
   | (with_reducible exact spec_ChristoffelOf.mono _ _ _)
   | (with_reducible exact spec_DrawFactorsOf.mono _ _)
   | (with_reducible exact spec_FactorsOf.mono _ _)
   | (with_reducible exact spec_IsChristoffel.mono _ _)
   | (with_reducible exact LeO.refl _)
   | (with_reducible exact LeO.none _)
   | (with_reducible refine LeO.ite ?_ ?_)
   | (with_reducible refine LeO.bind ?_ (fun _ => ?_))
   | exact ih0 _ _ _ _ _ _ _
   | exact ih1 _ _ _ _ _
   | exact ih2 _
   | exact ih3 _ _ _ _ _
   | exact ih4 _ _ _ _ _ _
   | exact ih5 _ _ _ _ _ _ _ _ _
   | exact ih6 _ _ _ _ _ _ _
   | exact ih7 _ _ _
   | exact ih8 _ _ _
   | exact impl_CentreOf.mono _ _
   | exact impl_ChristoffelOf.mono _ _ _
   | exact impl_FactorsOf.mono _ _
   | exact impl_IsBalanced.mono _ _
   | exact impl_IsChristoffel.mono _ _
   | exact impl_LeastTurn.mono _ _
   | exact impl_TurnsOf.mono _ _
   | exact spec_ChristoffelOf.mono _ _ _
   | exact spec_DrawFactorsOf.mono _ _
   | exact spec_FactorsOf.mono _ _
   | exact spec_IsChristoffel.mono _ _
   | exact LeO.none _
   | refine LeO.ite ?_ ?_
   | refine LeO.bind ?_ (fun _ => ?_)
  ·intro y0
   unfold laws_FnChristoffelWords.j7
   repeat' first
   | (with_reducible exact ih0 _ _ _ _ _ _ _)
   | (with_reducible exact ih1 _ _ _ _ _)
   | (with_reducible exact ih2 _)
   | (with_reducible exact ih3 _ _ _ _ _)
   | (with_reducible exact ih4 _ _ _ _ _ _)
   | (with_reducible exact ih5 _ _ _ _ _ _ _ _ _)
   | (with_reducible exact ih6 _ _ _ _ _ _ _)
   | (with_reducible exact ih7 _ _ _)
   | (with_reducible exact ih8 _ _ _)
   | (with_reducible exact impl_CentreOf.mono _ _)
   | (with_reducible exact impl_ChristoffelOf.mono _ _ _)
   | (with_reducible exact impl_FactorsOf.mono _ _)
   | (with_reducible exact impl_IsBalanced.mono _ _)
   | (with_reducible exact impl_IsChristoffel.mono _ _)
   | (with_reducible exact impl_LeastTurn.mono _ _)
   | (with_reducible exact impl_TurnsOf.mono _ _)
   | (with_reducible exact spec_ChristoffelOf.mono _ _ _)
   | (with_reducible exact spec_DrawFactorsOf.mono _ _)
   | (with_reducible exact spec_FactorsOf.mono _ _)
   | (with_reducible exact spec_IsChristoffel.mono _ _)
   | (with_reducible exact LeO.refl _)
   | (with_reducible exact LeO.none _)
   | (with_reducible refine LeO.ite ?_ ?_)
   | (with_reducible refine LeO.bind ?_ (fun _ => ?_))
   | exact ih0 _ _ _ _ _ _ _
   | exact ih1 _ _ _ _ _
   | exact ih2 _
   | exact ih3 _ _ _ _ _
   | exact ih4 _ _ _ _ _ _
   | exact ih5 _ _ _ _ _ _ _ _ _
   | exact ih6 _ _ _ _ _ _ _
   | exact ih7 _ _ _
   | exact ih8 _ _ _
   | exact impl_CentreOf.mono _ _
   | exact impl_ChristoffelOf.mono _ _ _
   | exact impl_FactorsOf.mono _ _
   | exact impl_IsBalanced.mono _ _
   | exact impl_IsChristoffel.mono _ _
   | exact impl_LeastTurn.mono _ _
   | exact impl_TurnsOf.mono _ _
   | exact spec_ChristoffelOf.mono _ _ _
   | exact spec_DrawFactorsOf.mono _ _
   | exact spec_FactorsOf.mono _ _
   | exact spec_IsChristoffel.mono _ _
   | exact LeO.none _
   | refine LeO.ite ?_ ?_
   | refine LeO.bind ?_ (fun _ => ?_)
  ·intro y0 y1 y2 y3 y4
   unfold laws_FnChristoffelWords.j8
   repeat' first
   | (with_reducible exact ih0 _ _ _ _ _ _ _)
   | (with_reducible exact ih1 _ _ _ _ _)
   | (with_reducible exact ih2 _)
   | (with_reducible exact ih3 _ _ _ _ _)
   | (with_reducible exact ih4 _ _ _ _ _ _)
   | (with_reducible exact ih5 _ _ _ _ _ _ _ _ _)
   | (with_reducible exact ih6 _ _ _ _ _ _ _)
   | (with_reducible exact ih7 _ _ _)
   | (with_reducible exact ih8 _ _ _)
   | (with_reducible exact impl_CentreOf.mono _ _)
   | (with_reducible exact impl_ChristoffelOf.mono _ _ _)
   | (with_reducible exact impl_FactorsOf.mono _ _)
   | (with_reducible exact impl_IsBalanced.mono _ _)
   | (with_reducible exact impl_IsChristoffel.mono _ _)
   | (with_reducible exact impl_LeastTurn.mono _ _)
   | (with_reducible exact impl_TurnsOf.mono _ _)
   | (with_reducible exact spec_ChristoffelOf.mono _ _ _)
   | (with_reducible exact spec_DrawFactorsOf.mono _ _)
   | (with_reducible exact spec_FactorsOf.mono _ _)
   | (with_reducible exact spec_IsChristoffel.mono _ _)
   | (with_reducible exact LeO.refl _)
   | (with_reducible exact LeO.none _)
   | (with_reducible refine LeO.ite ?_ ?_)
   | (with_reducible refine LeO.bind ?_ (fun _ => ?_))
   | exact ih0 _ _ _ _ _ _ _
   | exact ih1 _ _ _ _ _
   | exact ih2 _
   | exact ih3 _ _ _ _ _
   | exact ih4 _ _ _ _ _ _
   | exact ih5 _ _ _ _ _ _ _ _ _
   | exact ih6 _ _ _ _ _ _ _
   | exact ih7 _ _ _
   | exact ih8 _ _ _
   | exact impl_CentreOf.mono _ _
   | exact impl_ChristoffelOf.mono _ _ _
   | exact impl_FactorsOf.mono _ _
   | exact impl_IsBalanced.mono _ _
   | exact impl_IsChristoffel.mono _ _
   | exact impl_LeastTurn.mono _ _
   | exact impl_TurnsOf.mono _ _
   | exact spec_ChristoffelOf.mono _ _ _
   | exact spec_DrawFactorsOf.mono _ _
   | exact spec_FactorsOf.mono _ _
   | exact spec_IsChristoffel.mono _ _
   | exact LeO.none _
   | refine LeO.ite ?_ ?_
   | refine LeO.bind ?_ (fun _ => ?_)
  ·intro y0 y1 y2 y3 y4 y5
   unfold laws_FnChristoffelWords.l0
   repeat' first
   | (with_reducible exact ih0 _ _ _ _ _ _ _)
   | (with_reducible exact ih1 _ _ _ _ _)
   | (with_reducible exact ih2 _)
   | (with_reducible exact ih3 _ _ _ _ _)
   | (with_reducible exact ih4 _ _ _ _ _ _)
   | (with_reducible exact ih5 _ _ _ _ _ _ _ _ _)
   | (with_reducible exact ih6 _ _ _ _ _ _ _)
   | (with_reducible exact ih7 _ _ _)
   | (with_reducible exact ih8 _ _ _)
   | (with_reducible exact impl_CentreOf.mono _ _)
   | (with_reducible exact impl_ChristoffelOf.mono _ _ _)
   | (with_reducible exact impl_FactorsOf.mono _ _)
   | (with_reducible exact impl_IsBalanced.mono _ _)
   | (with_reducible exact impl_IsChristoffel.mono _ _)
   | (with_reducible exact impl_LeastTurn.mono _ _)
   | (with_reducible exact impl_TurnsOf.mono _ _)
   | (with_reducible exact spec_ChristoffelOf.mono _ _ _)
   | (with_reducible exact spec_DrawFactorsOf.mono _ _)
   | (with_reducible exact spec_FactorsOf.mono _ _)
   | (with_reducible exact spec_IsChristoffel.mono _ _)
   | (with_reducible exact LeO.refl _)
   | (with_reducible exact LeO.none _)
   | (with_reducible refine LeO.ite ?_ ?_)
   | (with_reducible refine LeO.bind ?_ (fun _ => ?_))
   | exact ih0 _ _ _ _ _ _ _
   | exact ih1 _ _ _ _ _
   | exact ih2 _
   | exact ih3 _ _ _ _ _
   | exact ih4 _ _ _ _ _ _
   | exact ih5 _ _ _ _ _ _ _ _ _
   | exact ih6 _ _ _ _ _ _ _
   | exact ih7 _ _ _
   | exact ih8 _ _ _
   | exact impl_CentreOf.mono _ _
   | exact impl_ChristoffelOf.mono _ _ _
   | exact impl_FactorsOf.mono _ _
   | exact impl_IsBalanced.mono _ _
   | exact impl_IsChristoffel.mono _ _
   | exact impl_LeastTurn.mono _ _
   | exact impl_TurnsOf.mono _ _
   | exact spec_ChristoffelOf.mono _ _ _
   | exact spec_DrawFactorsOf.mono _ _
   | exact spec_FactorsOf.mono _ _
   | exact spec_IsChristoffel.mono _ _
   | exact LeO.none _
   | refine LeO.ite ?_ ?_
   | refine LeO.bind ?_ (fun _ => ?_)
  ·intro y0 y1 y2 y3 y4 y5 y6 y7 y8
   unfold laws_FnChristoffelWords.j3
   repeat' first
   | (with_reducible exact ih0 _ _ _ _ _ _ _)
   | (with_reducible exact ih1 _ _ _ _ _)
   | (with_reducible exact ih2 _)
   | (with_reducible exact ih3 _ _ _ _ _)
   | (with_reducible exact ih4 _ _ _ _ _ _)
   | (with_reducible exact ih5 _ _ _ _ _ _ _ _ _)
   | (with_reducible exact ih6 _ _ _ _ _ _ _)
   | (with_reducible exact ih7 _ _ _)
   | (with_reducible exact ih8 _ _ _)
   | (with_reducible exact impl_CentreOf.mono _ _)
   | (with_reducible exact impl_ChristoffelOf.mono _ _ _)
   | (with_reducible exact impl_FactorsOf.mono _ _)
   | (with_reducible exact impl_IsBalanced.mono _ _)
   | (with_reducible exact impl_IsChristoffel.mono _ _)
   | (with_reducible exact impl_LeastTurn.mono _ _)
   | (with_reducible exact impl_TurnsOf.mono _ _)
   | (with_reducible exact spec_ChristoffelOf.mono _ _ _)
   | (with_reducible exact spec_DrawFactorsOf.mono _ _)
   | (with_reducible exact spec_FactorsOf.mono _ _)
   | (with_reducible exact spec_IsChristoffel.mono _ _)
   | (with_reducible exact LeO.refl _)
   | (with_reducible exact LeO.none _)
   | (with_reducible refine LeO.ite ?_ ?_)
   | (with_reducible refine LeO.bind ?_ (fun _ => ?_))
   | exact ih0 _ _ _ _ _ _ _
   | exact ih1 _ _ _ _ _
   | exact ih2 _
   | exact ih3 _ _ _ _ _
   | exact ih4 _ _ _ _ _ _
   | exact ih5 _ _ _ _ _ _ _ _ _
   | exact ih6 _ _ _ _ _ _ _
   | exact ih7 _ _ _
   | exact ih8 _ _ _
   | exact impl_CentreOf.mono _ _
   | exact impl_ChristoffelOf.mono _ _ _
   | exact impl_FactorsOf.mono _ _
   | exact impl_IsBalanced.mono _ _
   | exact impl_IsChristoffel.mono _ _
   | exact impl_LeastTurn.mono _ _
   | exact impl_TurnsOf.mono _ _
   | exact spec_ChristoffelOf.mono _ _ _
   | exact spec_DrawFactorsOf.mono _ _
   | exact spec_FactorsOf.mono _ _
   | exact spec_IsChristoffel.mono _ _
   | exact LeO.none _
   | refine LeO.ite ?_ ?_
   | refine LeO.bind ?_ (fun _ => ?_)
  ·intro y0 y1 y2 y3 y4 y5 y6
   unfold laws_FnChristoffelWords.j4
   repeat' first
   | (with_reducible exact ih0 _ _ _ _ _ _ _)
   | (with_reducible exact ih1 _ _ _ _ _)
   | (with_reducible exact ih2 _)
   | (with_reducible exact ih3 _ _ _ _ _)
   | (with_reducible exact ih4 _ _ _ _ _ _)
   | (with_reducible exact ih5 _ _ _ _ _ _ _ _ _)
   | (with_reducible exact ih6 _ _ _ _ _ _ _)
   | (with_reducible exact ih7 _ _ _)
   | (with_reducible exact ih8 _ _ _)
   | (with_reducible exact impl_CentreOf.mono _ _)
   | (with_reducible exact impl_ChristoffelOf.mono _ _ _)
   | (with_reducible exact impl_FactorsOf.mono _ _)
   | (with_reducible exact impl_IsBalanced.mono _ _)
   | (with_reducible exact impl_IsChristoffel.mono _ _)
   | (with_reducible exact impl_LeastTurn.mono _ _)
   | (with_reducible exact impl_TurnsOf.mono _ _)
   | (with_reducible exact spec_ChristoffelOf.mono _ _ _)
   | (with_reducible exact spec_DrawFactorsOf.mono _ _)
   | (with_reducible exact spec_FactorsOf.mono _ _)
   | (with_reducible exact spec_IsChristoffel.mono _ _)
   | (with_reducible exact LeO.refl _)
   | (with_reducible exact LeO.none _)
   | (with_reducible refine LeO.ite ?_ ?_)
   | (with_reducible refine LeO.bind ?_ (fun _ => ?_))
   | exact ih0 _ _ _ _ _ _ _
   | exact ih1 _ _ _ _ _
   | exact ih2 _
   | exact ih3 _ _ _ _ _
   | exact ih4 _ _ _ _ _ _
   | exact ih5 _ _ _ _ _ _ _ _ _
   | exact ih6 _ _ _ _ _ _ _
   | exact ih7 _ _ _
   | exact ih8 _ _ _
   | exact impl_CentreOf.mono _ _
   | exact impl_ChristoffelOf.mono _ _ _
   | exact impl_FactorsOf.mono _ _
   | exact impl_IsBalanced.mono _ _
   | exact impl_IsChristoffel.mono _ _
   | exact impl_LeastTurn.mono _ _
   | exact impl_TurnsOf.mono _ _
   | exact spec_ChristoffelOf.mono _ _ _
   | exact spec_DrawFactorsOf.mono _ _
   | exact spec_FactorsOf.mono _ _
   | exact spec_IsChristoffel.mono _ _
   | exact LeO.none _
   | refine LeO.ite ?_ ?_
   | refine LeO.bind ?_ (fun _ => ?_)
  ·intro y0 y1 y2
   unfold laws_FnChristoffelWords.j5
   repeat' first
   | (with_reducible exact ih0 _ _ _ _ _ _ _)
   | (with_reducible exact ih1 _ _ _ _ _)
   | (with_reducible exact ih2 _)
   | (with_reducible exact ih3 _ _ _ _ _)
   | (with_reducible exact ih4 _ _ _ _ _ _)
   | (with_reducible exact ih5 _ _ _ _ _ _ _ _ _)
   | (with_reducible exact ih6 _ _ _ _ _ _ _)
   | (with_reducible exact ih7 _ _ _)
   | (with_reducible exact ih8 _ _ _)
   | (with_reducible exact impl_CentreOf.mono _ _)
   | (with_reducible exact impl_ChristoffelOf.mono _ _ _)
   | (with_reducible exact impl_FactorsOf.mono _ _)
   | (with_reducible exact impl_IsBalanced.mono _ _)
   | (with_reducible exact impl_IsChristoffel.mono _ _)
   | (with_reducible exact impl_LeastTurn.mono _ _)
   | (with_reducible exact impl_TurnsOf.mono _ _)
   | (with_reducible exact spec_ChristoffelOf.mono _ _ _)
   | (with_reducible exact spec_DrawFactorsOf.mono _ _)
   | (with_reducible exact spec_FactorsOf.mono _ _)
   | (with_reducible exact spec_IsChristoffel.mono _ _)
   | (with_reducible exact LeO.refl _)
   | (with_reducible exact LeO.none _)
   | (with_reducible refine LeO.ite ?_ ?_)
   | (with_reducible refine LeO.bind ?_ (fun _ => ?_))
   | exact ih0 _ _ _ _ _ _ _
   | exact ih1 _ _ _ _ _
   | exact ih2 _
   | exact ih3 _ _ _ _ _
   | exact ih4 _ _ _ _ _ _
   | exact ih5 _ _ _ _ _ _ _ _ _
   | exact ih6 _ _ _ _ _ _ _
   | exact ih7 _ _ _
   | exact ih8 _ _ _
   | exact impl_CentreOf.mono _ _
   | exact impl_ChristoffelOf.mono _ _ _
   | exact impl_FactorsOf.mono _ _
   | exact impl_IsBalanced.mono _ _
   | exact impl_IsChristoffel.mono _ _
   | exact impl_LeastTurn.mono _ _
   | exact impl_TurnsOf.mono _ _
   | exact spec_ChristoffelOf.mono _ _ _
   | exact spec_DrawFactorsOf.mono _ _
   | exact spec_FactorsOf.mono _ _
   | exact spec_IsChristoffel.mono _ _
   | exact LeO.none _
   | refine LeO.ite ?_ ?_
   | refine LeO.bind ?_ (fun _ => ?_)
  ·intro y0 y1 y2
   unfold laws_FnChristoffelWords.l1
   repeat' first
   | (with_reducible exact ih0 _ _ _ _ _ _ _)
   | (with_reducible exact ih1 _ _ _ _ _)
   | (with_reducible exact ih2 _)
   | (with_reducible exact ih3 _ _ _ _ _)
   | (with_reducible exact ih4 _ _ _ _ _ _)
   | (with_reducible exact ih5 _ _ _ _ _ _ _ _ _)
   | (with_reducible exact ih6 _ _ _ _ _ _ _)
   | (with_reducible exact ih7 _ _ _)
   | (with_reducible exact ih8 _ _ _)
   | (with_reducible exact impl_CentreOf.mono _ _)
   | (with_reducible exact impl_ChristoffelOf.mono _ _ _)
   | (with_reducible exact impl_FactorsOf.mono _ _)
   | (with_reducible exact impl_IsBalanced.mono _ _)
   | (with_reducible exact impl_IsChristoffel.mono _ _)
   | (with_reducible exact impl_LeastTurn.mono _ _)
   | (with_reducible exact impl_TurnsOf.mono _ _)
   | (with_reducible exact spec_ChristoffelOf.mono _ _ _)
   | (with_reducible exact spec_DrawFactorsOf.mono _ _)
   | (with_reducible exact spec_FactorsOf.mono _ _)
   | (with_reducible exact spec_IsChristoffel.mono _ _)
   | (with_reducible exact LeO.refl _)
   | (with_reducible exact LeO.none _)
   | (with_reducible refine LeO.ite ?_ ?_)
   | (with_reducible refine LeO.bind ?_ (fun _ => ?_))
   | exact ih0 _ _ _ _ _ _ _
   | exact ih1 _ _ _ _ _
   | exact ih2 _
   | exact ih3 _ _ _ _ _
   | exact ih4 _ _ _ _ _ _
   | exact ih5 _ _ _ _ _ _ _ _ _
   | exact ih6 _ _ _ _ _ _ _
   | exact ih7 _ _ _
   | exact ih8 _ _ _
   | exact impl_CentreOf.mono _ _
   | exact impl_ChristoffelOf.mono _ _ _
   | exact impl_FactorsOf.mono _ _
   | exact impl_IsBalanced.mono _ _
   | exact impl_IsChristoffel.mono _ _
   | exact impl_LeastTurn.mono _ _
   | exact impl_TurnsOf.mono _ _
   | exact spec_ChristoffelOf.mono _ _ _
   | exact spec_DrawFactorsOf.mono _ _
   | exact spec_FactorsOf.mono _ _
   | exact spec_IsChristoffel.mono _ _
   | exact LeO.none _
   | refine LeO.ite ?_ ?_
   | refine LeO.bind ?_ (fun _ => ?_)
theorem laws_FnChristoffelWords.mono : ∀ a0 a1 k, LeO (laws_FnChristoffelWords.f k a0 a1) (laws_FnChristoffelWords.f (k + 1) a0 a1) := by
 intro a0 a1 k
 obtain ⟨ih0, ih1, ih2, ih3, ih4, ih5, ih6, ih7, ih8⟩ := laws_FnChristoffelWords.mono_l k
 unfold laws_FnChristoffelWords.f
 repeat' first
   | (with_reducible exact ih0 _ _ _ _ _ _ _)
   | (with_reducible exact ih1 _ _ _ _ _)
   | (with_reducible exact ih2 _)
   | (with_reducible exact ih3 _ _ _ _ _)
   | (with_reducible exact ih4 _ _ _ _ _ _)
   | (with_reducible exact ih5 _ _ _ _ _ _ _ _ _)
   | (with_reducible exact ih6 _ _ _ _ _ _ _)
   | (with_reducible exact ih7 _ _ _)
   | (with_reducible exact ih8 _ _ _)
   | (with_reducible exact impl_CentreOf.mono _ _)
   | (with_reducible exact impl_ChristoffelOf.mono _ _ _)
   | (with_reducible exact impl_FactorsOf.mono _ _)
   | (with_reducible exact impl_IsBalanced.mono _ _)
   | (with_reducible exact impl_IsChristoffel.mono _ _)
   | (with_reducible exact impl_LeastTurn.mono _ _)
   | (with_reducible exact impl_TurnsOf.mono _ _)
   | (with_reducible exact spec_ChristoffelOf.mono _ _ _)
   | (with_reducible exact spec_DrawFactorsOf.mono _ _)
   | (with_reducible exact spec_FactorsOf.mono _ _)
   | (with_reducible exact spec_IsChristoffel.mono _ _)
   | (with_reducible exact LeO.refl _)
   | (with_reducible exact LeO.none _)
   | (with_reducible refine LeO.ite ?_ ?_)
   | (with_reducible refine LeO.bind ?_ (fun _ => ?_))
   | exact ih0 _ _ _ _ _ _ _
   | exact ih1 _ _ _ _ _
   | exact ih2 _
   | exact ih3 _ _ _ _ _
   | exact ih4 _ _ _ _ _ _
   | exact ih5 _ _ _ _ _ _ _ _ _
   | exact ih6 _ _ _ _ _ _ _
   | exact ih7 _ _ _
   | exact ih8 _ _ _
   | exact impl_CentreOf.mono _ _
   | exact impl_ChristoffelOf.mono _ _ _
   | exact impl_FactorsOf.mono _ _
   | exact impl_IsBalanced.mono _ _
   | exact impl_IsChristoffel.mono _ _
   | exact impl_LeastTurn.mono _ _
   | exact impl_TurnsOf.mono _ _
   | exact spec_ChristoffelOf.mono _ _ _
   | exact spec_DrawFactorsOf.mono _ _
   | exact spec_FactorsOf.mono _ _
   | exact spec_IsChristoffel.mono _ _
   | exact LeO.none _
   | refine LeO.ite ?_ ?_
   | refine LeO.bind ?_ (fun _ => ?_)
set_option maxHeartbeats 8000000 in
set_option maxRecDepth 100000 in
theorem laws_FnChristoffelWords.calls (k : Nat) (A0 : Option Addr) (c0 : Nat) (l0 : List Int) (A1 : Option Addr) (c1 : Nat) (l1 : List Int) (r : Bool) (w : World) (hr0 : Kd.C (Kd.int .u8) w A0 l0.length l0) (hc0 : l0.length ≤ c0) (hr1 : Kd.C (Kd.int .u8) w A1 l1.length l1) (hc1 : l1.length ≤ c1) (h : laws_FnChristoffelWords.f k l0 l1 = some r) :
  Calls Try.prog 12 #[.slice A0 l0.length c0, .slice A1 l1.length c1] w fun e w' => e = .returned (.bool r) ∧ Below w.heap.size w w' := by
 have HR0 := Aside0.mk hr0
 have HC0 := Aside0.mk hc0
 clear hr0 hc0
 have HR1 := Aside0.mk hr1
 have HC1 := Aside0.mk hc1
 clear hr1 hc1
 have HB := Aside0.mk (Below.refl w.heap.size w)
 have H : ((laws_big.f l0 l1).bind fun t417 => (if t417 = true then (some true) else ((spec_DrawFactorsOf.f k l0).bind fun t418 => ((impl_FactorsOf.f k t418).bind fun bt419 => ((spec_FactorsOf.f k t418).bind fun bt422 => ((impl_IsChristoffel.f k t418).bind fun bt425 => ((spec_IsChristoffel.f k t418).bind fun bt427 => (if (bt419.2.2 != bt422.2.2) = true then (laws_FnChristoffelWords.j0 k l1 t418 bt419.1 bt419.2.1 bt419.2.2 bt425.1 true) else (if bt419.1.toList = bt422.1.toList then (if bt419.2.1.toList = bt422.2.1.toList then (if (bt425.2 != bt427.2) = true then (laws_FnChristoffelWords.j0 k l1 t418 bt419.1 bt419.2.1 bt419.2.2 bt425.1 true) else (if (bt425.1 != bt427.1) = true then (laws_FnChristoffelWords.j0 k l1 t418 bt419.1 bt419.2.1 bt419.2.2 bt425.1 true) else ((impl_IsLetters.f t418).bind fun t429 => (if (bt425.2 != t429) = true then (laws_FnChristoffelWords.j0 k l1 t418 bt419.1 bt419.2.1 bt419.2.2 bt425.1 true) else (if bt425.1 = true then (laws_FnChristoffelWords.j0 k l1 t418 bt419.1 bt419.2.1 bt419.2.2 bt425.1 (bt419.2.2 != (decide ((t418.size : Int) > 1)))) else (laws_FnChristoffelWords.j0 k l1 t418 bt419.1 bt419.2.1 bt419.2.2 bt425.1 (bt419.2.2 != false))))))) else (laws_FnChristoffelWords.j0 k l1 t418 bt419.1 bt419.2.1 bt419.2.2 bt425.1 true)) else (laws_FnChristoffelWords.j0 k l1 t418 bt419.1 bt419.2.1 bt419.2.2 bt425.1 true)))))))))) = some r := h
 clear h
 replace H := Option.bind_eq_some_iff.mp H
 obtain ⟨t417, A30, H⟩ := H
 replace H : (if t417 = true then (some true) else ((spec_DrawFactorsOf.f k l0).bind fun t418 => ((impl_FactorsOf.f k t418).bind fun bt419 => ((spec_FactorsOf.f k t418).bind fun bt422 => ((impl_IsChristoffel.f k t418).bind fun bt425 => ((spec_IsChristoffel.f k t418).bind fun bt427 => (if (bt419.2.2 != bt422.2.2) = true then (laws_FnChristoffelWords.j0 k l1 t418 bt419.1 bt419.2.1 bt419.2.2 bt425.1 true) else (if bt419.1.toList = bt422.1.toList then (if bt419.2.1.toList = bt422.2.1.toList then (if (bt425.2 != bt427.2) = true then (laws_FnChristoffelWords.j0 k l1 t418 bt419.1 bt419.2.1 bt419.2.2 bt425.1 true) else (if (bt425.1 != bt427.1) = true then (laws_FnChristoffelWords.j0 k l1 t418 bt419.1 bt419.2.1 bt419.2.2 bt425.1 true) else ((impl_IsLetters.f t418).bind fun t429 => (if (bt425.2 != t429) = true then (laws_FnChristoffelWords.j0 k l1 t418 bt419.1 bt419.2.1 bt419.2.2 bt425.1 true) else (if bt425.1 = true then (laws_FnChristoffelWords.j0 k l1 t418 bt419.1 bt419.2.1 bt419.2.2 bt425.1 (bt419.2.2 != (decide ((t418.size : Int) > 1)))) else (laws_FnChristoffelWords.j0 k l1 t418 bt419.1 bt419.2.1 bt419.2.2 bt425.1 (bt419.2.2 != false))))))) else (laws_FnChristoffelWords.j0 k l1 t418 bt419.1 bt419.2.1 bt419.2.2 bt425.1 true)) else (laws_FnChristoffelWords.j0 k l1 t418 bt419.1 bt419.2.1 bt419.2.2 bt425.1 true))))))))) = some r := H
 have A3 := Aside0.mk A30
 clear A30
 by_cases c4 : t417 = true
 ·subst c4
  have H1 : (some true) = some r := by rw [if_pos rfl] at H; exact H
  clear H; have H := H1; clear H1
  obtain rfl := Option.some.inj H
  go_enter Try.func12, Try.ntmps12
  go_wp2_with (first | (go_at_call 35; (with_reducible refine (laws_big.calls _ _ l0 _ _ l1 true _ ?side1 ?side2 ?side3 ?side4 A3.out).mono ?_); (case side1 => repeat (first | exact HR0.out | (with_reducible refine Kd.C_alloc ?_ _) | (with_reducible refine Kd.C_drewN ?_ _) | (with_reducible refine Kd.C_drew ?_))); (case side2 => exact HC0.out); (case side3 => repeat (first | exact HR1.out | (with_reducible refine Kd.C_alloc ?_ _) | (with_reducible refine Kd.C_drewN ?_ _) | (with_reducible refine Kd.C_drew ?_))); (case side4 => exact HC1.out); rintro e w' ⟨rfl, ⟨nd, rfl⟩⟩; (try first | exact ⟨rfl, _, World.drewN_drewN _ _ _⟩ | exact ⟨rfl, _, Eq.trans (World.drewN_drewN _ _ _) (congrArg (World.drewN _) (Nat.add_assoc _ _ _))⟩)))
  repeat (go_quiet (first | (go_at_call 35; (with_reducible refine (laws_big.calls _ _ l0 _ _ l1 true _ ?side1 ?side2 ?side3 ?side4 A3.out).mono ?_); (case side1 => repeat (first | exact HR0.out | (with_reducible refine Kd.C_alloc ?_ _) | (with_reducible refine Kd.C_drewN ?_ _) | (with_reducible refine Kd.C_drew ?_))); (case side2 => exact HC0.out); (case side3 => repeat (first | exact HR1.out | (with_reducible refine Kd.C_alloc ?_ _) | (with_reducible refine Kd.C_drewN ?_ _) | (with_reducible refine Kd.C_drew ?_))); (case side4 => exact HC1.out); rintro e w' ⟨rfl, ⟨nd, rfl⟩⟩; (try first | exact ⟨rfl, _, World.drewN_drewN _ _ _⟩ | exact ⟨rfl, _, Eq.trans (World.drewN_drewN _ _ _) (congrArg (World.drewN _) (Nat.add_assoc _ _ _))⟩))); try go_wp2_with (first | (go_at_call 35; (with_reducible refine (laws_big.calls _ _ l0 _ _ l1 true _ ?side1 ?side2 ?side3 ?side4 A3.out).mono ?_); (case side1 => repeat (first | exact HR0.out | (with_reducible refine Kd.C_alloc ?_ _) | (with_reducible refine Kd.C_drewN ?_ _) | (with_reducible refine Kd.C_drew ?_))); (case side2 => exact HC0.out); (case side3 => repeat (first | exact HR1.out | (with_reducible refine Kd.C_alloc ?_ _) | (with_reducible refine Kd.C_drewN ?_ _) | (with_reducible refine Kd.C_drew ?_))); (case side4 => exact HC1.out); rintro e w' ⟨rfl, ⟨nd, rfl⟩⟩; (try first | exact ⟨rfl, _, World.drewN_drewN _ _ _⟩ | exact ⟨rfl, _, Eq.trans (World.drewN_drewN _ _ _) (congrArg (World.drewN _) (Nat.add_assoc _ _ _))⟩))))
  go_ret
  exact ⟨by first | rfl | (simp [errW_none, errW_some] <;> rfl) | (simp [*, errW_none, errW_some] <;> rfl), by repeat (first | (with_reducible first | exact HB.out | apply below_alloc | apply pw_below_drewN | apply below_drew1) | exact HB.out)⟩
 ·as_aux_lemma =>
  replace c4 := Bool.eq_false_iff.mpr c4
  subst c4
  have H1 : ((spec_DrawFactorsOf.f k l0).bind fun t418 => ((impl_FactorsOf.f k t418).bind fun bt419 => ((spec_FactorsOf.f k t418).bind fun bt422 => ((impl_IsChristoffel.f k t418).bind fun bt425 => ((spec_IsChristoffel.f k t418).bind fun bt427 => (if (bt419.2.2 != bt422.2.2) = true then (laws_FnChristoffelWords.j0 k l1 t418 bt419.1 bt419.2.1 bt419.2.2 bt425.1 true) else (if bt419.1.toList = bt422.1.toList then (if bt419.2.1.toList = bt422.2.1.toList then (if (bt425.2 != bt427.2) = true then (laws_FnChristoffelWords.j0 k l1 t418 bt419.1 bt419.2.1 bt419.2.2 bt425.1 true) else (if (bt425.1 != bt427.1) = true then (laws_FnChristoffelWords.j0 k l1 t418 bt419.1 bt419.2.1 bt419.2.2 bt425.1 true) else ((impl_IsLetters.f t418).bind fun t429 => (if (bt425.2 != t429) = true then (laws_FnChristoffelWords.j0 k l1 t418 bt419.1 bt419.2.1 bt419.2.2 bt425.1 true) else (if bt425.1 = true then (laws_FnChristoffelWords.j0 k l1 t418 bt419.1 bt419.2.1 bt419.2.2 bt425.1 (bt419.2.2 != (decide ((t418.size : Int) > 1)))) else (laws_FnChristoffelWords.j0 k l1 t418 bt419.1 bt419.2.1 bt419.2.2 bt425.1 (bt419.2.2 != false))))))) else (laws_FnChristoffelWords.j0 k l1 t418 bt419.1 bt419.2.1 bt419.2.2 bt425.1 true)) else (laws_FnChristoffelWords.j0 k l1 t418 bt419.1 bt419.2.1 bt419.2.2 bt425.1 true)))))))) = some r := by rw [if_neg (show ¬ (false = true) by decide)] at H; exact H
  clear H; have H := H1; clear H1
  replace H := Option.bind_eq_some_iff.mp H
  obtain ⟨t418, A50, H⟩ := H
  replace H : ((impl_FactorsOf.f k t418).bind fun bt419 => ((spec_FactorsOf.f k t418).bind fun bt422 => ((impl_IsChristoffel.f k t418).bind fun bt425 => ((spec_IsChristoffel.f k t418).bind fun bt427 => (if (bt419.2.2 != bt422.2.2) = true then (laws_FnChristoffelWords.j0 k l1 t418 bt419.1 bt419.2.1 bt419.2.2 bt425.1 true) else (if bt419.1.toList = bt422.1.toList then (if bt419.2.1.toList = bt422.2.1.toList then (if (bt425.2 != bt427.2) = true then (laws_FnChristoffelWords.j0 k l1 t418 bt419.1 bt419.2.1 bt419.2.2 bt425.1 true) else (if (bt425.1 != bt427.1) = true then (laws_FnChristoffelWords.j0 k l1 t418 bt419.1 bt419.2.1 bt419.2.2 bt425.1 true) else ((impl_IsLetters.f t418).bind fun t429 => (if (bt425.2 != t429) = true then (laws_FnChristoffelWords.j0 k l1 t418 bt419.1 bt419.2.1 bt419.2.2 bt425.1 true) else (if bt425.1 = true then (laws_FnChristoffelWords.j0 k l1 t418 bt419.1 bt419.2.1 bt419.2.2 bt425.1 (bt419.2.2 != (decide ((t418.size : Int) > 1)))) else (laws_FnChristoffelWords.j0 k l1 t418 bt419.1 bt419.2.1 bt419.2.2 bt425.1 (bt419.2.2 != false))))))) else (laws_FnChristoffelWords.j0 k l1 t418 bt419.1 bt419.2.1 bt419.2.2 bt425.1 true)) else (laws_FnChristoffelWords.j0 k l1 t418 bt419.1 bt419.2.1 bt419.2.2 bt425.1 true))))))) = some r := H
  have A5 := Aside0.mk A50
  clear A50
  replace H := Option.bind_eq_some_iff.mp H
  obtain ⟨⟨t419, t420, t421⟩, A60, H⟩ := H
  replace H : ((spec_FactorsOf.f k t418).bind fun bt422 => ((impl_IsChristoffel.f k t418).bind fun bt425 => ((spec_IsChristoffel.f k t418).bind fun bt427 => (if (t421 != bt422.2.2) = true then (laws_FnChristoffelWords.j0 k l1 t418 t419 t420 t421 bt425.1 true) else (if t419.toList = bt422.1.toList then (if t420.toList = bt422.2.1.toList then (if (bt425.2 != bt427.2) = true then (laws_FnChristoffelWords.j0 k l1 t418 t419 t420 t421 bt425.1 true) else (if (bt425.1 != bt427.1) = true then (laws_FnChristoffelWords.j0 k l1 t418 t419 t420 t421 bt425.1 true) else ((impl_IsLetters.f t418).bind fun t429 => (if (bt425.2 != t429) = true then (laws_FnChristoffelWords.j0 k l1 t418 t419 t420 t421 bt425.1 true) else (if bt425.1 = true then (laws_FnChristoffelWords.j0 k l1 t418 t419 t420 t421 bt425.1 (t421 != (decide ((t418.size : Int) > 1)))) else (laws_FnChristoffelWords.j0 k l1 t418 t419 t420 t421 bt425.1 (t421 != false))))))) else (laws_FnChristoffelWords.j0 k l1 t418 t419 t420 t421 bt425.1 true)) else (laws_FnChristoffelWords.j0 k l1 t418 t419 t420 t421 bt425.1 true)))))) = some r := H
  have A6 := Aside0.mk A60
  clear A60
  replace H := Option.bind_eq_some_iff.mp H
  obtain ⟨⟨t422, t423, t424⟩, A70, H⟩ := H
  replace H : ((impl_IsChristoffel.f k t418).bind fun bt425 => ((spec_IsChristoffel.f k t418).bind fun bt427 => (if (t421 != t424) = true then (laws_FnChristoffelWords.j0 k l1 t418 t419 t420 t421 bt425.1 true) else (if t419.toList = t422.toList then (if t420.toList = t423.toList then (if (bt425.2 != bt427.2) = true then (laws_FnChristoffelWords.j0 k l1 t418 t419 t420 t421 bt425.1 true) else (if (bt425.1 != bt427.1) = true then (laws_FnChristoffelWords.j0 k l1 t418 t419 t420 t421 bt425.1 true) else ((impl_IsLetters.f t418).bind fun t429 => (if (bt425.2 != t429) = true then (laws_FnChristoffelWords.j0 k l1 t418 t419 t420 t421 bt425.1 true) else (if bt425.1 = true then (laws_FnChristoffelWords.j0 k l1 t418 t419 t420 t421 bt425.1 (t421 != (decide ((t418.size : Int) > 1)))) else (laws_FnChristoffelWords.j0 k l1 t418 t419 t420 t421 bt425.1 (t421 != false))))))) else (laws_FnChristoffelWords.j0 k l1 t418 t419 t420 t421 bt425.1 true)) else (laws_FnChristoffelWords.j0 k l1 t418 t419 t420 t421 bt425.1 true))))) = some r := H
  have A7 := Aside0.mk A70
  clear A70
  replace H := Option.bind_eq_some_iff.mp H
  obtain ⟨⟨t425, t426⟩, A80, H⟩ := H
  replace H : ((spec_IsChristoffel.f k t418).bind fun bt427 => (if (t421 != t424) = true then (laws_FnChristoffelWords.j0 k l1 t418 t419 t420 t421 t425 true) else (if t419.toList = t422.toList then (if t420.toList = t423.toList then (if (t426 != bt427.2) = true then (laws_FnChristoffelWords.j0 k l1 t418 t419 t420 t421 t425 true) else (if (t425 != bt427.1) = true then (laws_FnChristoffelWords.j0 k l1 t418 t419 t420 t421 t425 true) else ((impl_IsLetters.f t418).bind fun t429 => (if (t426 != t429) = true then (laws_FnChristoffelWords.j0 k l1 t418 t419 t420 t421 t425 true) else (if t425 = true then (laws_FnChristoffelWords.j0 k l1 t418 t419 t420 t421 t425 (t421 != (decide ((t418.size : Int) > 1)))) else (laws_FnChristoffelWords.j0 k l1 t418 t419 t420 t421 t425 (t421 != false))))))) else (laws_FnChristoffelWords.j0 k l1 t418 t419 t420 t421 t425 true)) else (laws_FnChristoffelWords.j0 k l1 t418 t419 t420 t421 t425 true)))) = some r := H
  have A8 := Aside0.mk A80
  clear A80
  replace H := Option.bind_eq_some_iff.mp H
  obtain ⟨⟨t427, t428⟩, A90, H⟩ := H
  replace H : (if (t421 != t424) = true then (laws_FnChristoffelWords.j0 k l1 t418 t419 t420 t421 t425 true) else (if t419.toList = t422.toList then (if t420.toList = t423.toList then (if (t426 != t428) = true then (laws_FnChristoffelWords.j0 k l1 t418 t419 t420 t421 t425 true) else (if (t425 != t427) = true then (laws_FnChristoffelWords.j0 k l1 t418 t419 t420 t421 t425 true) else ((impl_IsLetters.f t418).bind fun t429 => (if (t426 != t429) = true then (laws_FnChristoffelWords.j0 k l1 t418 t419 t420 t421 t425 true) else (if t425 = true then (laws_FnChristoffelWords.j0 k l1 t418 t419 t420 t421 t425 (t421 != (decide ((t418.size : Int) > 1)))) else (laws_FnChristoffelWords.j0 k l1 t418 t419 t420 t421 t425 (t421 != false))))))) else (laws_FnChristoffelWords.j0 k l1 t418 t419 t420 t421 t425 true)) else (laws_FnChristoffelWords.j0 k l1 t418 t419 t420 t421 t425 true))) = some r := H
  have A9 := Aside0.mk A90
  clear A90
  have HC10 := Aside0.mk H
  clear H
  go_enter Try.func12, Try.ntmps12
  go_upto_region 8 with (first | (go_at_call 35; (with_reducible refine (laws_big.calls _ _ l0 _ _ l1 false _ ?side1 ?side2 ?side3 ?side4 A3.out).mono ?_); (case side1 => repeat (first | exact HR0.out | (with_reducible refine Kd.C_alloc ?_ _) | (with_reducible refine Kd.C_drewN ?_ _) | (with_reducible refine Kd.C_drew ?_))); (case side2 => exact HC0.out); (case side3 => repeat (first | exact HR1.out | (with_reducible refine Kd.C_alloc ?_ _) | (with_reducible refine Kd.C_drewN ?_ _) | (with_reducible refine Kd.C_drew ?_))); (case side4 => exact HC1.out); rintro e w' ⟨rfl, ⟨nd, rfl⟩⟩; (try first | exact ⟨rfl, _, World.drewN_drewN _ _ _⟩ | exact ⟨rfl, _, Eq.trans (World.drewN_drewN _ _ _) (congrArg (World.drewN _) (Nat.add_assoc _ _ _))⟩)) | (go_at_call 36; (with_reducible refine (spec_DrawFactorsOf.calls k _ _ l0 t418 _ ?side1 ?side2 A5.out).mono ?_); (case side1 => repeat (first | exact HR0.out | (with_reducible refine Kd.C_alloc ?_ _) | (with_reducible refine Kd.C_drewN ?_ _) | (with_reducible refine Kd.C_drew ?_))); (case side2 => exact HC0.out); rintro e w11 ⟨rfl, hb⟩; have n0_ := Aside0.mk (below_step (by repeat (first | (with_reducible first | exact HB.out | apply below_alloc | apply pw_below_drewN | apply below_drew1) | exact HB.out)) hb); clear HB; have HB := n0_; clear n0_; (try clear hb); (try clear hb2); (try clear hk); (try clear hi)) | (go_at_call 23; (with_reducible refine (impl_FactorsOf.calls k t418 t419 t420 t421 _ A6.out).mono ?_); rintro e w12 ⟨rfl, hb⟩; have n0_ := Aside0.mk (below_step (by repeat (first | (with_reducible first | exact HB.out | apply below_alloc | apply pw_below_drewN | apply below_drew1) | exact HB.out)) hb); clear HB; have HB := n0_; clear n0_; (try clear hb); (try clear hb2); (try clear hk); (try clear hi)) | (go_at_call 22; (with_reducible refine (spec_FactorsOf.calls k t418 t422 t423 t424 _ A7.out).mono ?_); rintro e w' ⟨rfl, ⟨nd, rfl⟩⟩; (try first | exact ⟨rfl, _, World.drewN_drewN _ _ _⟩ | exact ⟨rfl, _, Eq.trans (World.drewN_drewN _ _ _) (congrArg (World.drewN _) (Nat.add_assoc _ _ _))⟩)) | (go_at_call 19; (with_reducible refine (impl_IsChristoffel.calls k t418 t425 t426 _ A8.out).mono ?_); rintro e w13 ⟨rfl, hb⟩; have n0_ := Aside0.mk (below_step (by repeat (first | (with_reducible first | exact HB.out | apply below_alloc | apply pw_below_drewN | apply below_drew1) | exact HB.out)) hb); clear HB; have HB := n0_; clear n0_; (try clear hb); (try clear hb2); (try clear hk); (try clear hi)) | (go_at_call 18; (with_reducible refine (spec_IsChristoffel.calls k t418 t427 t428 _ A9.out).mono ?_); rintro e w' ⟨rfl, ⟨nd, rfl⟩⟩; (try first | exact ⟨rfl, _, World.drewN_drewN _ _ _⟩ | exact ⟨rfl, _, Eq.trans (World.drewN_drewN _ _ _) (congrArg (World.drewN _) (Nat.add_assoc _ _ _))⟩)))
  repeat (go_quiet (first | (go_at_call 35; (with_reducible refine (laws_big.calls _ _ l0 _ _ l1 false _ ?side1 ?side2 ?side3 ?side4 A3.out).mono ?_); (case side1 => repeat (first | exact HR0.out | (with_reducible refine Kd.C_alloc ?_ _) | (with_reducible refine Kd.C_drewN ?_ _) | (with_reducible refine Kd.C_drew ?_))); (case side2 => exact HC0.out); (case side3 => repeat (first | exact HR1.out | (with_reducible refine Kd.C_alloc ?_ _) | (with_reducible refine Kd.C_drewN ?_ _) | (with_reducible refine Kd.C_drew ?_))); (case side4 => exact HC1.out); rintro e w' ⟨rfl, ⟨nd, rfl⟩⟩; (try first | exact ⟨rfl, _, World.drewN_drewN _ _ _⟩ | exact ⟨rfl, _, Eq.trans (World.drewN_drewN _ _ _) (congrArg (World.drewN _) (Nat.add_assoc _ _ _))⟩)) | (go_at_call 36; (with_reducible refine (spec_DrawFactorsOf.calls k _ _ l0 t418 _ ?side1 ?side2 A5.out).mono ?_); (case side1 => repeat (first | exact HR0.out | (with_reducible refine Kd.C_alloc ?_ _) | (with_reducible refine Kd.C_drewN ?_ _) | (with_reducible refine Kd.C_drew ?_))); (case side2 => exact HC0.out); rintro e w11 ⟨rfl, hb⟩; have n0_ := Aside0.mk (below_step (by repeat (first | (with_reducible first | exact HB.out | apply below_alloc | apply pw_below_drewN | apply below_drew1) | exact HB.out)) hb); clear HB; have HB := n0_; clear n0_; (try clear hb); (try clear hb2); (try clear hk); (try clear hi)) | (go_at_call 23; (with_reducible refine (impl_FactorsOf.calls k t418 t419 t420 t421 _ A6.out).mono ?_); rintro e w12 ⟨rfl, hb⟩; have n0_ := Aside0.mk (below_step (by repeat (first | (with_reducible first | exact HB.out | apply below_alloc | apply pw_below_drewN | apply below_drew1) | exact HB.out)) hb); clear HB; have HB := n0_; clear n0_; (try clear hb); (try clear hb2); (try clear hk); (try clear hi)) | (go_at_call 22; (with_reducible refine (spec_FactorsOf.calls k t418 t422 t423 t424 _ A7.out).mono ?_); rintro e w' ⟨rfl, ⟨nd, rfl⟩⟩; (try first | exact ⟨rfl, _, World.drewN_drewN _ _ _⟩ | exact ⟨rfl, _, Eq.trans (World.drewN_drewN _ _ _) (congrArg (World.drewN _) (Nat.add_assoc _ _ _))⟩)) | (go_at_call 19; (with_reducible refine (impl_IsChristoffel.calls k t418 t425 t426 _ A8.out).mono ?_); rintro e w13 ⟨rfl, hb⟩; have n0_ := Aside0.mk (below_step (by repeat (first | (with_reducible first | exact HB.out | apply below_alloc | apply pw_below_drewN | apply below_drew1) | exact HB.out)) hb); clear HB; have HB := n0_; clear n0_; (try clear hb); (try clear hb2); (try clear hk); (try clear hi)) | (go_at_call 18; (with_reducible refine (spec_IsChristoffel.calls k t418 t427 t428 _ A9.out).mono ?_); rintro e w' ⟨rfl, ⟨nd, rfl⟩⟩; (try first | exact ⟨rfl, _, World.drewN_drewN _ _ _⟩ | exact ⟨rfl, _, Eq.trans (World.drewN_drewN _ _ _) (congrArg (World.drewN _) (Nat.add_assoc _ _ _))⟩))); go_upto_region 8 with (first | (go_at_call 35; (with_reducible refine (laws_big.calls _ _ l0 _ _ l1 false _ ?side1 ?side2 ?side3 ?side4 A3.out).mono ?_); (case side1 => repeat (first | exact HR0.out | (with_reducible refine Kd.C_alloc ?_ _) | (with_reducible refine Kd.C_drewN ?_ _) | (with_reducible refine Kd.C_drew ?_))); (case side2 => exact HC0.out); (case side3 => repeat (first | exact HR1.out | (with_reducible refine Kd.C_alloc ?_ _) | (with_reducible refine Kd.C_drewN ?_ _) | (with_reducible refine Kd.C_drew ?_))); (case side4 => exact HC1.out); rintro e w' ⟨rfl, ⟨nd, rfl⟩⟩; (try first | exact ⟨rfl, _, World.drewN_drewN _ _ _⟩ | exact ⟨rfl, _, Eq.trans (World.drewN_drewN _ _ _) (congrArg (World.drewN _) (Nat.add_assoc _ _ _))⟩)) | (go_at_call 36; (with_reducible refine (spec_DrawFactorsOf.calls k _ _ l0 t418 _ ?side1 ?side2 A5.out).mono ?_); (case side1 => repeat (first | exact HR0.out | (with_reducible refine Kd.C_alloc ?_ _) | (with_reducible refine Kd.C_drewN ?_ _) | (with_reducible refine Kd.C_drew ?_))); (case side2 => exact HC0.out); rintro e w11 ⟨rfl, hb⟩; have n0_ := Aside0.mk (below_step (by repeat (first | (with_reducible first | exact HB.out | apply below_alloc | apply pw_below_drewN | apply below_drew1) | exact HB.out)) hb); clear HB; have HB := n0_; clear n0_; (try clear hb); (try clear hb2); (try clear hk); (try clear hi)) | (go_at_call 23; (with_reducible refine (impl_FactorsOf.calls k t418 t419 t420 t421 _ A6.out).mono ?_); rintro e w12 ⟨rfl, hb⟩; have n0_ := Aside0.mk (below_step (by repeat (first | (with_reducible first | exact HB.out | apply below_alloc | apply pw_below_drewN | apply below_drew1) | exact HB.out)) hb); clear HB; have HB := n0_; clear n0_; (try clear hb); (try clear hb2); (try clear hk); (try clear hi)) | (go_at_call 22; (with_reducible refine (spec_FactorsOf.calls k t418 t422 t423 t424 _ A7.out).mono ?_); rintro e w' ⟨rfl, ⟨nd, rfl⟩⟩; (try first | exact ⟨rfl, _, World.drewN_drewN _ _ _⟩ | exact ⟨rfl, _, Eq.trans (World.drewN_drewN _ _ _) (congrArg (World.drewN _) (Nat.add_assoc _ _ _))⟩)) | (go_at_call 19; (with_reducible refine (impl_IsChristoffel.calls k t418 t425 t426 _ A8.out).mono ?_); rintro e w13 ⟨rfl, hb⟩; have n0_ := Aside0.mk (below_step (by repeat (first | (with_reducible first | exact HB.out | apply below_alloc | apply pw_below_drewN | apply below_drew1) | exact HB.out)) hb); clear HB; have HB := n0_; clear n0_; (try clear hb); (try clear hb2); (try clear hk); (try clear hi)) | (go_at_call 18; (with_reducible refine (spec_IsChristoffel.calls k t418 t427 t428 _ A9.out).mono ?_); rintro e w' ⟨rfl, ⟨nd, rfl⟩⟩; (try first | exact ⟨rfl, _, World.drewN_drewN _ _ _⟩ | exact ⟨rfl, _, Eq.trans (World.drewN_drewN _ _ _) (congrArg (World.drewN _) (Nat.add_assoc _ _ _))⟩))))
  (try simp only [Act.put, List.setIfInBounds_toArray, List.set_cons_zero, List.set_cons_succ])
  go_cut [114] (fun v114 wc => ∃ (kq : Nat) (x114_9 : Bool), v114 = .bool x114_9 ∧ Aside0 (laws_FnChristoffelWords.j0 kq l1 t418 t419 t420 t421 t425 x114_9 = some r) ∧ Aside0 (kq ≤ k) ∧ Aside0 (Below w.heap.size w wc))
  case first => as_aux_lemma =>
   have H := HC10.out; clear HC10
   by_cases c14 : (t421 != t424) = true
   ·as_aux_lemma =>
    rw [if_pos c14] at H
    have c14b0 : (t421 != t424) = true := c14
    (try (have c14b1 : decide (t421 = t424) = false := by simpa using c14))
    (try (have c14b2 : (t421 == t424) = false := by simpa using c14))
    (try (have c14b3 : ¬ (t421 = t424) := by simpa using c14))
    clear c14
    (first | rw [c14b0] | (simp only [i64_w, i32_w]; rw [c14b0]) | skip)
    have H' := Aside0.mk H
    clear H
    go_wp2
    repeat (go_quiet (fail); try go_wp2)
    go_meet
    case rel => exact ⟨_, (true), (by first | rfl | (simp; done) | (simp [*]; done)), H', ⟨by first | omega | exact Nat.le_refl _⟩, ⟨by repeat (first | (with_reducible first | exact HB.out | apply below_alloc | apply pw_below_drewN | apply below_drew1) | exact HB.out)⟩⟩
   ·as_aux_lemma =>
    rw [if_neg c14] at H
    have c14b0 : (t421 != t424) = false := by simpa using c14
    (try (have c14b1 : decide (t421 = t424) = true := by simpa using c14))
    (try (have c14b2 : (t421 == t424) = true := by simpa using c14))
    clear c14
    (first | rw [c14b0] | (simp only [i64_w, i32_w]; rw [c14b0]) | skip)
    by_cases c15 : t419.toList = t422.toList
    ·as_aux_lemma =>
     rw [if_pos c15] at H
     have c15b0 : (t419.toList == t422.toList) = true := beq_iff_eq.mpr c15
     have c15b1 : (t419.toList != t422.toList) = false := bne_eq_false_iff_eq.mpr c15
     clear c15
     by_cases c16 : t420.toList = t423.toList
     ·as_aux_lemma =>
      rw [if_pos c16] at H
      have c16b0 : (t420.toList == t423.toList) = true := beq_iff_eq.mpr c16
      have c16b1 : (t420.toList != t423.toList) = false := bne_eq_false_iff_eq.mpr c16
      clear c16
      by_cases c17 : (t426 != t428) = true
      ·rw [if_pos c17] at H
       have c17b0 : (t426 != t428) = true := c17
       (try (have c17b1 : decide (t426 = t428) = false := by simpa using c17))
       (try (have c17b2 : (t426 == t428) = false := by simpa using c17))
       (try (have c17b3 : ¬ (t426 = t428) := by simpa using c17))
       clear c17
       have H' := Aside0.mk H
       clear H
       go_wp2
       repeat (go_quiet (fail); try go_wp2)
       go_meet
       case rel => exact ⟨_, (true), (by first | rfl | (simp; done) | (simp [*]; done)), H', ⟨by first | omega | exact Nat.le_refl _⟩, ⟨by repeat (first | (with_reducible first | exact HB.out | apply below_alloc | apply pw_below_drewN | apply below_drew1) | exact HB.out)⟩⟩
      ·as_aux_lemma =>
       rw [if_neg c17] at H
       have c17b0 : (t426 != t428) = false := by simpa using c17
       (try (have c17b1 : decide (t426 = t428) = true := by simpa using c17))
       (try (have c17b2 : (t426 == t428) = true := by simpa using c17))
       clear c17
       by_cases c18 : (t425 != t427) = true
       ·rw [if_pos c18] at H
        have c18b0 : (t425 != t427) = true := c18
        (try (have c18b1 : decide (t425 = t427) = false := by simpa using c18))
        (try (have c18b2 : (t425 == t427) = false := by simpa using c18))
        (try (have c18b3 : ¬ (t425 = t427) := by simpa using c18))
        clear c18
        have H' := Aside0.mk H
        clear H
        go_wp2
        repeat (go_quiet (fail); try go_wp2)
        go_meet
        case rel => exact ⟨_, (true), (by first | rfl | (simp; done) | (simp [*]; done)), H', ⟨by first | omega | exact Nat.le_refl _⟩, ⟨by repeat (first | (with_reducible first | exact HB.out | apply below_alloc | apply pw_below_drewN | apply below_drew1) | exact HB.out)⟩⟩
       ·as_aux_lemma =>
        rw [if_neg c18] at H
        have c18b0 : (t425 != t427) = false := by simpa using c18
        (try (have c18b1 : decide (t425 = t427) = true := by simpa using c18))
        (try (have c18b2 : (t425 == t427) = true := by simpa using c18))
        clear c18
        replace H := Option.bind_eq_some_iff.mp H
        obtain ⟨t429, A190, H⟩ := H
        replace H : (if (t426 != t429) = true then (laws_FnChristoffelWords.j0 k l1 t418 t419 t420 t421 t425 true) else (if t425 = true then (laws_FnChristoffelWords.j0 k l1 t418 t419 t420 t421 t425 (t421 != (decide ((t418.size : Int) > 1)))) else (laws_FnChristoffelWords.j0 k l1 t418 t419 t420 t421 t425 (t421 != false)))) = some r := H
        have A19 := Aside0.mk A190
        clear A190
        by_cases c20 : (t426 != t429) = true
        ·rw [if_pos c20] at H
         have c20b0 : (t426 != t429) = true := c20
         (try (have c20b1 : decide (t426 = t429) = false := by simpa using c20))
         (try (have c20b2 : (t426 == t429) = false := by simpa using c20))
         (try (have c20b3 : ¬ (t426 = t429) := by simpa using c20))
         clear c20
         have H' := Aside0.mk H
         clear H
         go_wp2_with (first | (go_at_call 37; (with_reducible refine (impl_IsLetters.calls t418 t429 _ A19.out).mono ?_); rintro e w21 ⟨rfl, hb⟩; have n0_ := Aside0.mk (below_step (by repeat (first | (with_reducible first | exact HB.out | apply below_alloc | apply pw_below_drewN | apply below_drew1) | exact HB.out)) hb); clear HB; have HB := n0_; clear n0_; (try clear hb); (try clear hb2); (try clear hk); (try clear hi)))
         repeat (go_quiet (first | (go_at_call 37; (with_reducible refine (impl_IsLetters.calls t418 t429 _ A19.out).mono ?_); rintro e w21 ⟨rfl, hb⟩; have n0_ := Aside0.mk (below_step (by repeat (first | (with_reducible first | exact HB.out | apply below_alloc | apply pw_below_drewN | apply below_drew1) | exact HB.out)) hb); clear HB; have HB := n0_; clear n0_; (try clear hb); (try clear hb2); (try clear hk); (try clear hi))); try go_wp2_with (first | (go_at_call 37; (with_reducible refine (impl_IsLetters.calls t418 t429 _ A19.out).mono ?_); rintro e w21 ⟨rfl, hb⟩; have n0_ := Aside0.mk (below_step (by repeat (first | (with_reducible first | exact HB.out | apply below_alloc | apply pw_below_drewN | apply below_drew1) | exact HB.out)) hb); clear HB; have HB := n0_; clear n0_; (try clear hb); (try clear hb2); (try clear hk); (try clear hi))))
         go_meet
         case rel => exact ⟨_, (true), (by first | rfl | (simp; done) | (simp [*]; done)), H', ⟨by first | omega | exact Nat.le_refl _⟩, ⟨by repeat (first | (with_reducible first | exact HB.out | apply below_alloc | apply pw_below_drewN | apply below_drew1) | exact HB.out)⟩⟩
        ·as_aux_lemma =>
         rw [if_neg c20] at H
         have c20b0 : (t426 != t429) = false := by simpa using c20
         (try (have c20b1 : decide (t426 = t429) = true := by simpa using c20))
         (try (have c20b2 : (t426 == t429) = true := by simpa using c20))
         clear c20
         by_cases c22 : t425 = true
         ·subst c22
          have H1 : (laws_FnChristoffelWords.j0 k l1 t418 t419 t420 t421 true (t421 != (decide ((t418.size : Int) > 1)))) = some r := by rw [if_pos rfl] at H; exact H
          clear H; have H := H1; clear H1
          have H' := Aside0.mk H
          clear H
          go_wp2_with (first | (go_at_call 37; (with_reducible refine (impl_IsLetters.calls t418 t429 _ A19.out).mono ?_); rintro e w23 ⟨rfl, hb⟩; have n0_ := Aside0.mk (below_step (by repeat (first | (with_reducible first | exact HB.out | apply below_alloc | apply pw_below_drewN | apply below_drew1) | exact HB.out)) hb); clear HB; have HB := n0_; clear n0_; (try clear hb); (try clear hb2); (try clear hk); (try clear hi)))
          repeat (go_quiet (first | (go_at_call 37; (with_reducible refine (impl_IsLetters.calls t418 t429 _ A19.out).mono ?_); rintro e w23 ⟨rfl, hb⟩; have n0_ := Aside0.mk (below_step (by repeat (first | (with_reducible first | exact HB.out | apply below_alloc | apply pw_below_drewN | apply below_drew1) | exact HB.out)) hb); clear HB; have HB := n0_; clear n0_; (try clear hb); (try clear hb2); (try clear hk); (try clear hi))); try go_wp2_with (first | (go_at_call 37; (with_reducible refine (impl_IsLetters.calls t418 t429 _ A19.out).mono ?_); rintro e w23 ⟨rfl, hb⟩; have n0_ := Aside0.mk (below_step (by repeat (first | (with_reducible first | exact HB.out | apply below_alloc | apply pw_below_drewN | apply below_drew1) | exact HB.out)) hb); clear HB; have HB := n0_; clear n0_; (try clear hb); (try clear hb2); (try clear hk); (try clear hi))))
          go_meet
          case rel => exact ⟨_, ((t421 != (decide ((t418.size : Int) > 1)))), (by first | rfl | (simp; done) | (simp [*]; done)), H', ⟨by first | omega | exact Nat.le_refl _⟩, ⟨by repeat (first | (with_reducible first | exact HB.out | apply below_alloc | apply pw_below_drewN | apply below_drew1) | exact HB.out)⟩⟩
         ·replace c22 := Bool.eq_false_iff.mpr c22
          subst c22
          have H1 : (laws_FnChristoffelWords.j0 k l1 t418 t419 t420 t421 false (t421 != false)) = some r := by rw [if_neg (show ¬ (false = true) by decide)] at H; exact H
          clear H; have H := H1; clear H1
          have H' := Aside0.mk H
          clear H
          go_wp2_with (first | (go_at_call 37; (with_reducible refine (impl_IsLetters.calls t418 t429 _ A19.out).mono ?_); rintro e w24 ⟨rfl, hb⟩; have n0_ := Aside0.mk (below_step (by repeat (first | (with_reducible first | exact HB.out | apply below_alloc | apply pw_below_drewN | apply below_drew1) | exact HB.out)) hb); clear HB; have HB := n0_; clear n0_; (try clear hb); (try clear hb2); (try clear hk); (try clear hi)))
          repeat (go_quiet (first | (go_at_call 37; (with_reducible refine (impl_IsLetters.calls t418 t429 _ A19.out).mono ?_); rintro e w24 ⟨rfl, hb⟩; have n0_ := Aside0.mk (below_step (by repeat (first | (with_reducible first | exact HB.out | apply below_alloc | apply pw_below_drewN | apply below_drew1) | exact HB.out)) hb); clear HB; have HB := n0_; clear n0_; (try clear hb); (try clear hb2); (try clear hk); (try clear hi))); try go_wp2_with (first | (go_at_call 37; (with_reducible refine (impl_IsLetters.calls t418 t429 _ A19.out).mono ?_); rintro e w24 ⟨rfl, hb⟩; have n0_ := Aside0.mk (below_step (by repeat (first | (with_reducible first | exact HB.out | apply below_alloc | apply pw_below_drewN | apply below_drew1) | exact HB.out)) hb); clear HB; have HB := n0_; clear n0_; (try clear hb); (try clear hb2); (try clear hk); (try clear hi))))
          go_meet
          case rel => exact ⟨_, ((t421 != false)), (by first | rfl | (simp; done) | (simp [*]; done)), H', ⟨by first | omega | exact Nat.le_refl _⟩, ⟨by repeat (first | (with_reducible first | exact HB.out | apply below_alloc | apply pw_below_drewN | apply below_drew1) | exact HB.out)⟩⟩
     ·rw [if_neg c16] at H
      have c16b0 : (t420.toList == t423.toList) = false := beq_eq_false_iff_ne.mpr c16
      have c16b1 : (t420.toList != t423.toList) = true := bne_iff_ne.mpr c16
      have H' := Aside0.mk H
      clear H
      go_wp2
      repeat (go_quiet (fail); try go_wp2)
      go_meet
      case rel => exact ⟨_, (true), (by first | rfl | (simp; done) | (simp [*]; done)), H', ⟨by first | omega | exact Nat.le_refl _⟩, ⟨by repeat (first | (with_reducible first | exact HB.out | apply below_alloc | apply pw_below_drewN | apply below_drew1) | exact HB.out)⟩⟩
    ·rw [if_neg c15] at H
     have c15b0 : (t419.toList == t422.toList) = false := beq_eq_false_iff_ne.mpr c15
     have c15b1 : (t419.toList != t422.toList) = true := bne_iff_ne.mpr c15
     have H' := Aside0.mk H
     clear H
     go_wp2
     repeat (go_quiet (fail); try go_wp2)
     go_meet
     case rel => exact ⟨_, (true), (by first | rfl | (simp; done) | (simp [*]; done)), H', ⟨by first | omega | exact Nat.le_refl _⟩, ⟨by repeat (first | (with_reducible first | exact HB.out | apply below_alloc | apply pw_below_drewN | apply below_drew1) | exact HB.out)⟩⟩
  case rest => as_aux_lemma =>
   clear HC10
   try clear c1
   try clear c2
   try clear p2
   try clear c4
   try clear c12
   try clear c14
   try clear c14b0
   try clear c14b1
   try clear c14b2
   try clear c15
   try clear c15b0
   try clear c15b1
   try clear c16
   try clear c16b0
   try clear c16b1
   try clear c17
   try clear c17b0
   try clear c17b1
   try clear c17b2
   try clear c18
   try clear c18b0
   try clear c18b1
   try clear c18b2
   try clear c20
   try clear c20b0
   try clear c20b1
   try clear c20b2
   try clear c22
   obtain ⟨kq, x114_9, rfl, HA, HJ9, HB⟩ := hcut
   cases kq with
   | zero => exact absurd HA.out (by simp [laws_FnChristoffelWords.j0])
   | succ kj9 =>
    have H := HA.out; clear HA
    simp only [laws_FnChristoffelWords.j0] at H
    by_cases c25 : x114_9 = true
    ·subst c25
     have H1 : (some false) = some r := by rw [if_pos rfl] at H; exact H
     clear H; have H := H1; clear H1
     obtain rfl := Option.some.inj H
     go_wp2
     repeat (go_quiet (fail); try go_wp2)
     go_ret
     exact ⟨by first | rfl | (simp [errW_none, errW_some] <;> rfl) | (simp [*, errW_none, errW_some] <;> rfl), by repeat (first | (with_reducible first | exact HB.out | apply below_alloc | apply pw_below_drewN | apply below_drew1) | exact HB.out)⟩
    ·as_aux_lemma =>
     replace c25 := Bool.eq_false_iff.mpr c25
     subst c25
     have H1 : (if t425 = true then ((impl_CountsOf.f t418).bind fun bt430 => ((impl_ChristoffelOf.f kj9 bt430.1 bt430.2.1).bind fun bt433 => ((impl_LeastTurn.f kj9 t418).bind fun bt435 => ((impl_IsBalanced.f kj9 t418).bind fun bt437 => ((impl_MirrorWord.f t418).bind fun bt439 => ((impl_IsChristoffel.f kj9 bt439.1).bind fun bt441 => ((impl_TurnsOf.f kj9 t418).bind fun bt443 => (if bt430.2.2 = true then (if bt433.2 = true then (if bt433.1.toList = t418.toList then (if bt435.2 = true then (if bt435.1.toList = t418.toList then (if bt437.2 = true then (if bt437.1 = true then (if bt439.2 = true then (if bt441.2 = true then (if bt441.1 = true then (if bt443.2 = true then (if (bt443.1.length : Int) = (t418.size : Int) then (laws_FnChristoffelWords.j1 kj9 l1 t418 t419 t420 t421) else (some false)) else (some false)) else (some false)) else (some false)) else (some false)) else (some false)) else (some false)) else (some false)) else (some false)) else (some false)) else (some false)) else (some false))))))))) else (laws_FnChristoffelWords.j1 kj9 l1 t418 t419 t420 t421)) = some r := by rw [if_neg (show ¬ (false = true) by decide)] at H; exact H
     clear H; have H := H1; clear H1
     have HC26 := Aside0.mk H
     clear H
     go_upto_if 115 with (fail)
     repeat (go_quiet (fail); go_upto_if 115 with (fail))
     go_cut [] (fun wc => ∃ (kq : Nat), Aside0 (laws_FnChristoffelWords.j1 kq l1 t418 t419 t420 t421 = some r) ∧ Aside0 (kq ≤ kj9) ∧ Aside0 (Below w.heap.size w wc))
     case first => as_aux_lemma =>
      have H := HC26.out; clear HC26
      by_cases c27 : t425 = true
      ·as_aux_lemma =>
       subst c27
       have H1 : ((impl_CountsOf.f t418).bind fun bt430 => ((impl_ChristoffelOf.f kj9 bt430.1 bt430.2.1).bind fun bt433 => ((impl_LeastTurn.f kj9 t418).bind fun bt435 => ((impl_IsBalanced.f kj9 t418).bind fun bt437 => ((impl_MirrorWord.f t418).bind fun bt439 => ((impl_IsChristoffel.f kj9 bt439.1).bind fun bt441 => ((impl_TurnsOf.f kj9 t418).bind fun bt443 => (if bt430.2.2 = true then (if bt433.2 = true then (if bt433.1.toList = t418.toList then (if bt435.2 = true then (if bt435.1.toList = t418.toList then (if bt437.2 = true then (if bt437.1 = true then (if bt439.2 = true then (if bt441.2 = true then (if bt441.1 = true then (if bt443.2 = true then (if (bt443.1.length : Int) = (t418.size : Int) then (laws_FnChristoffelWords.j1 kj9 l1 t418 t419 t420 t421) else (some false)) else (some false)) else (some false)) else (some false)) else (some false)) else (some false)) else (some false)) else (some false)) else (some false)) else (some false)) else (some false)) else (some false))))))))) = some r := by rw [if_pos rfl] at H; exact H
       clear H; have H := H1; clear H1
       replace H := Option.bind_eq_some_iff.mp H
       obtain ⟨⟨t430, t431, t432⟩, A280, H⟩ := H
       replace H : ((impl_ChristoffelOf.f kj9 t430 t431).bind fun bt433 => ((impl_LeastTurn.f kj9 t418).bind fun bt435 => ((impl_IsBalanced.f kj9 t418).bind fun bt437 => ((impl_MirrorWord.f t418).bind fun bt439 => ((impl_IsChristoffel.f kj9 bt439.1).bind fun bt441 => ((impl_TurnsOf.f kj9 t418).bind fun bt443 => (if t432 = true then (if bt433.2 = true then (if bt433.1.toList = t418.toList then (if bt435.2 = true then (if bt435.1.toList = t418.toList then (if bt437.2 = true then (if bt437.1 = true then (if bt439.2 = true then (if bt441.2 = true then (if bt441.1 = true then (if bt443.2 = true then (if (bt443.1.length : Int) = (t418.size : Int) then (laws_FnChristoffelWords.j1 kj9 l1 t418 t419 t420 t421) else (some false)) else (some false)) else (some false)) else (some false)) else (some false)) else (some false)) else (some false)) else (some false)) else (some false)) else (some false)) else (some false)) else (some false)))))))) = some r := H
       have A28 := Aside0.mk A280
       clear A280
       replace H := Option.bind_eq_some_iff.mp H
       obtain ⟨⟨t433, t434⟩, A290, H⟩ := H
       replace H : ((impl_LeastTurn.f kj9 t418).bind fun bt435 => ((impl_IsBalanced.f kj9 t418).bind fun bt437 => ((impl_MirrorWord.f t418).bind fun bt439 => ((impl_IsChristoffel.f kj9 bt439.1).bind fun bt441 => ((impl_TurnsOf.f kj9 t418).bind fun bt443 => (if t432 = true then (if t434 = true then (if t433.toList = t418.toList then (if bt435.2 = true then (if bt435.1.toList = t418.toList then (if bt437.2 = true then (if bt437.1 = true then (if bt439.2 = true then (if bt441.2 = true then (if bt441.1 = true then (if bt443.2 = true then (if (bt443.1.length : Int) = (t418.size : Int) then (laws_FnChristoffelWords.j1 kj9 l1 t418 t419 t420 t421) else (some false)) else (some false)) else (some false)) else (some false)) else (some false)) else (some false)) else (some false)) else (some false)) else (some false)) else (some false)) else (some false)) else (some false))))))) = some r := H
       have A29 := Aside0.mk A290
       clear A290
       replace H := Option.bind_eq_some_iff.mp H
       obtain ⟨⟨t435, t436⟩, A300, H⟩ := H
       replace H : ((impl_IsBalanced.f kj9 t418).bind fun bt437 => ((impl_MirrorWord.f t418).bind fun bt439 => ((impl_IsChristoffel.f kj9 bt439.1).bind fun bt441 => ((impl_TurnsOf.f kj9 t418).bind fun bt443 => (if t432 = true then (if t434 = true then (if t433.toList = t418.toList then (if t436 = true then (if t435.toList = t418.toList then (if bt437.2 = true then (if bt437.1 = true then (if bt439.2 = true then (if bt441.2 = true then (if bt441.1 = true then (if bt443.2 = true then (if (bt443.1.length : Int) = (t418.size : Int) then (laws_FnChristoffelWords.j1 kj9 l1 t418 t419 t420 t421) else (some false)) else (some false)) else (some false)) else (some false)) else (some false)) else (some false)) else (some false)) else (some false)) else (some false)) else (some false)) else (some false)) else (some false)))))) = some r := H
       have A30 := Aside0.mk A300
       clear A300
       replace H := Option.bind_eq_some_iff.mp H
       obtain ⟨⟨t437, t438⟩, A310, H⟩ := H
       replace H : ((impl_MirrorWord.f t418).bind fun bt439 => ((impl_IsChristoffel.f kj9 bt439.1).bind fun bt441 => ((impl_TurnsOf.f kj9 t418).bind fun bt443 => (if t432 = true then (if t434 = true then (if t433.toList = t418.toList then (if t436 = true then (if t435.toList = t418.toList then (if t438 = true then (if t437 = true then (if bt439.2 = true then (if bt441.2 = true then (if bt441.1 = true then (if bt443.2 = true then (if (bt443.1.length : Int) = (t418.size : Int) then (laws_FnChristoffelWords.j1 kj9 l1 t418 t419 t420 t421) else (some false)) else (some false)) else (some false)) else (some false)) else (some false)) else (some false)) else (some false)) else (some false)) else (some false)) else (some false)) else (some false)) else (some false))))) = some r := H
       have A31 := Aside0.mk A310
       clear A310
       replace H := Option.bind_eq_some_iff.mp H
       obtain ⟨⟨t439, t440⟩, A320, H⟩ := H
       replace H : ((impl_IsChristoffel.f kj9 t439).bind fun bt441 => ((impl_TurnsOf.f kj9 t418).bind fun bt443 => (if t432 = true then (if t434 = true then (if t433.toList = t418.toList then (if t436 = true then (if t435.toList = t418.toList then (if t438 = true then (if t437 = true then (if t440 = true then (if bt441.2 = true then (if bt441.1 = true then (if bt443.2 = true then (if (bt443.1.length : Int) = (t418.size : Int) then (laws_FnChristoffelWords.j1 kj9 l1 t418 t419 t420 t421) else (some false)) else (some false)) else (some false)) else (some false)) else (some false)) else (some false)) else (some false)) else (some false)) else (some false)) else (some false)) else (some false)) else (some false)))) = some r := H
       have A32 := Aside0.mk A320
       clear A320
       replace H := Option.bind_eq_some_iff.mp H
       obtain ⟨⟨t441, t442⟩, A330, H⟩ := H
       replace H : ((impl_TurnsOf.f kj9 t418).bind fun bt443 => (if t432 = true then (if t434 = true then (if t433.toList = t418.toList then (if t436 = true then (if t435.toList = t418.toList then (if t438 = true then (if t437 = true then (if t440 = true then (if t442 = true then (if t441 = true then (if bt443.2 = true then (if (bt443.1.length : Int) = (t418.size : Int) then (laws_FnChristoffelWords.j1 kj9 l1 t418 t419 t420 t421) else (some false)) else (some false)) else (some false)) else (some false)) else (some false)) else (some false)) else (some false)) else (some false)) else (some false)) else (some false)) else (some false)) else (some false))) = some r := H
       have A33 := Aside0.mk A330
       clear A330
       replace H := Option.bind_eq_some_iff.mp H
       obtain ⟨⟨t443, t444⟩, A340, H⟩ := H
       replace H : (if t432 = true then (if t434 = true then (if t433.toList = t418.toList then (if t436 = true then (if t435.toList = t418.toList then (if t438 = true then (if t437 = true then (if t440 = true then (if t442 = true then (if t441 = true then (if t444 = true then (if (t443.length : Int) = (t418.size : Int) then (laws_FnChristoffelWords.j1 kj9 l1 t418 t419 t420 t421) else (some false)) else (some false)) else (some false)) else (some false)) else (some false)) else (some false)) else (some false)) else (some false)) else (some false)) else (some false)) else (some false)) else (some false)) = some r := H
       have A34 := Aside0.mk A340
       clear A340
       by_cases c35 : t432 = true
       ·as_aux_lemma =>
        subst c35
        have H1 : (if t434 = true then (if t433.toList = t418.toList then (if t436 = true then (if t435.toList = t418.toList then (if t438 = true then (if t437 = true then (if t440 = true then (if t442 = true then (if t441 = true then (if t444 = true then (if (t443.length : Int) = (t418.size : Int) then (laws_FnChristoffelWords.j1 kj9 l1 t418 t419 t420 t421) else (some false)) else (some false)) else (some false)) else (some false)) else (some false)) else (some false)) else (some false)) else (some false)) else (some false)) else (some false)) else (some false)) = some r := by rw [if_pos rfl] at H; exact H
        clear H; have H := H1; clear H1
        by_cases c36 : t434 = true
        ·as_aux_lemma =>
         subst c36
         have H1 : (if t433.toList = t418.toList then (if t436 = true then (if t435.toList = t418.toList then (if t438 = true then (if t437 = true then (if t440 = true then (if t442 = true then (if t441 = true then (if t444 = true then (if (t443.length : Int) = (t418.size : Int) then (laws_FnChristoffelWords.j1 kj9 l1 t418 t419 t420 t421) else (some false)) else (some false)) else (some false)) else (some false)) else (some false)) else (some false)) else (some false)) else (some false)) else (some false)) else (some false)) = some r := by rw [if_pos rfl] at H; exact H
         clear H; have H := H1; clear H1
         by_cases c37 : t433.toList = t418.toList
         ·as_aux_lemma =>
          rw [if_pos c37] at H
          have c37b0 : (t433.toList == t418.toList) = true := beq_iff_eq.mpr c37
          have c37b1 : (t433.toList != t418.toList) = false := bne_eq_false_iff_eq.mpr c37
          clear c37
          (first | rw [c37b0] | (simp only [i64_w, i32_w]; rw [c37b0]) | skip)
          by_cases c38 : t436 = true
          ·as_aux_lemma =>
           subst c38
           have H1 : (if t435.toList = t418.toList then (if t438 = true then (if t437 = true then (if t440 = true then (if t442 = true then (if t441 = true then (if t444 = true then (if (t443.length : Int) = (t418.size : Int) then (laws_FnChristoffelWords.j1 kj9 l1 t418 t419 t420 t421) else (some false)) else (some false)) else (some false)) else (some false)) else (some false)) else (some false)) else (some false)) else (some false)) = some r := by rw [if_pos rfl] at H; exact H
           clear H; have H := H1; clear H1
           by_cases c39 : t435.toList = t418.toList
           ·as_aux_lemma =>
            rw [if_pos c39] at H
            have c39b0 : (t435.toList == t418.toList) = true := beq_iff_eq.mpr c39
            have c39b1 : (t435.toList != t418.toList) = false := bne_eq_false_iff_eq.mpr c39
            clear c39
            by_cases c40 : t438 = true
            ·as_aux_lemma =>
             subst c40
             have H1 : (if t437 = true then (if t440 = true then (if t442 = true then (if t441 = true then (if t444 = true then (if (t443.length : Int) = (t418.size : Int) then (laws_FnChristoffelWords.j1 kj9 l1 t418 t419 t420 t421) else (some false)) else (some false)) else (some false)) else (some false)) else (some false)) else (some false)) = some r := by rw [if_pos rfl] at H; exact H
             clear H; have H := H1; clear H1
             by_cases c41 : t437 = true
             ·as_aux_lemma =>
              subst c41
              have H1 : (if t440 = true then (if t442 = true then (if t441 = true then (if t444 = true then (if (t443.length : Int) = (t418.size : Int) then (laws_FnChristoffelWords.j1 kj9 l1 t418 t419 t420 t421) else (some false)) else (some false)) else (some false)) else (some false)) else (some false)) = some r := by rw [if_pos rfl] at H; exact H
              clear H; have H := H1; clear H1
              by_cases c42 : t440 = true
              ·as_aux_lemma =>
               subst c42
               have H1 : (if t442 = true then (if t441 = true then (if t444 = true then (if (t443.length : Int) = (t418.size : Int) then (laws_FnChristoffelWords.j1 kj9 l1 t418 t419 t420 t421) else (some false)) else (some false)) else (some false)) else (some false)) = some r := by rw [if_pos rfl] at H; exact H
               clear H; have H := H1; clear H1
               by_cases c43 : t442 = true
               ·as_aux_lemma =>
                subst c43
                have H1 : (if t441 = true then (if t444 = true then (if (t443.length : Int) = (t418.size : Int) then (laws_FnChristoffelWords.j1 kj9 l1 t418 t419 t420 t421) else (some false)) else (some false)) else (some false)) = some r := by rw [if_pos rfl] at H; exact H
                clear H; have H := H1; clear H1
                by_cases c44 : t441 = true
                ·as_aux_lemma =>
                 subst c44
                 have H1 : (if t444 = true then (if (t443.length : Int) = (t418.size : Int) then (laws_FnChristoffelWords.j1 kj9 l1 t418 t419 t420 t421) else (some false)) else (some false)) = some r := by rw [if_pos rfl] at H; exact H
                 clear H; have H := H1; clear H1
                 by_cases c45 : t444 = true
                 ·as_aux_lemma =>
                  subst c45
                  have H1 : (if (t443.length : Int) = (t418.size : Int) then (laws_FnChristoffelWords.j1 kj9 l1 t418 t419 t420 t421) else (some false)) = some r := by rw [if_pos rfl] at H; exact H
                  clear H; have H := H1; clear H1
                  by_cases c46 : (t443.length : Int) = (t418.size : Int)
                  ·rw [if_pos c46] at H
                   have c46b0 : ((t443.length : Int) == (t418.size : Int)) = true := beq_iff_eq.mpr c46
                   have c46b1 : ((t443.length : Int) != (t418.size : Int)) = false := bne_eq_false_iff_eq.mpr c46
                   have c46b2 : (t443.length == t418.size) = true := by first | simpa using c46 | (simp at c46 ⊢; omega)
                   clear c46
                   have H' := Aside0.mk H
                   clear H
                   go_wp2_with (first | (go_at_call 15; (with_reducible refine (impl_CountsOf.calls t418 t430 t431 true _ A28.out).mono ?_); rintro e w47 ⟨rfl, hb⟩; have n0_ := Aside0.mk (below_step (by repeat (first | (with_reducible first | exact HB.out | apply below_alloc | apply pw_below_drewN | apply below_drew1) | exact HB.out)) hb); clear HB; have HB := n0_; clear n0_; (try clear hb); (try clear hb2); (try clear hk); (try clear hi)) | (go_at_call 38; (with_reducible refine (impl_ChristoffelOf.calls kj9 t430 t431 t433 true _ A29.out).mono ?_); rintro e w48 ⟨rfl, hb⟩; have n0_ := Aside0.mk (below_step (by repeat (first | (with_reducible first | exact HB.out | apply below_alloc | apply pw_below_drewN | apply below_drew1) | exact HB.out)) hb); clear HB; have HB := n0_; clear n0_; (try clear hb); (try clear hb2); (try clear hk); (try clear hi)) | (go_at_call 27; (with_reducible refine (impl_LeastTurn.calls kj9 t418 t435 true _ A30.out).mono ?_); rintro e w49 ⟨rfl, hb⟩; have n0_ := Aside0.mk (below_step (by repeat (first | (with_reducible first | exact HB.out | apply below_alloc | apply pw_below_drewN | apply below_drew1) | exact HB.out)) hb); clear HB; have HB := n0_; clear n0_; (try clear hb); (try clear hb2); (try clear hk); (try clear hi)) | (go_at_call 17; (with_reducible refine (impl_IsBalanced.calls kj9 t418 true true _ A31.out).mono ?_); rintro e w50 ⟨rfl, hb⟩; have n0_ := Aside0.mk (below_step (by repeat (first | (with_reducible first | exact HB.out | apply below_alloc | apply pw_below_drewN | apply below_drew1) | exact HB.out)) hb); clear HB; have HB := n0_; clear n0_; (try clear hb); (try clear hb2); (try clear hk); (try clear hi)) | (go_at_call 39; (with_reducible refine (impl_MirrorWord.calls t418 t439 true _ A32.out).mono ?_); rintro e w51 ⟨rfl, hb⟩; have n0_ := Aside0.mk (below_step (by repeat (first | (with_reducible first | exact HB.out | apply below_alloc | apply pw_below_drewN | apply below_drew1) | exact HB.out)) hb); clear HB; have HB := n0_; clear n0_; (try clear hb); (try clear hb2); (try clear hk); (try clear hi)) | (go_at_call 19; (with_reducible refine (impl_IsChristoffel.calls kj9 t439 true true _ A33.out).mono ?_); rintro e w52 ⟨rfl, hb⟩; have n0_ := Aside0.mk (below_step (by repeat (first | (with_reducible first | exact HB.out | apply below_alloc | apply pw_below_drewN | apply below_drew1) | exact HB.out)) hb); clear HB; have HB := n0_; clear n0_; (try clear hb); (try clear hb2); (try clear hk); (try clear hi)) | (go_at_call 34; (with_reducible refine (impl_TurnsOf.calls kj9 t418 t443 true _ A34.out).mono ?_); rintro e w53 ⟨v445, rfl, ho0, hb⟩; have n0_ := Aside0.mk (Kd.R_lower ho0 (below_size (by repeat (first | (with_reducible first | exact HB.out | apply below_alloc | apply pw_below_drewN | apply below_drew1) | exact HB.out)))); have n1_ := Aside0.mk (below_step (by repeat (first | (with_reducible first | exact HB.out | apply below_alloc | apply pw_below_drewN | apply below_drew1) | exact HB.out)) hb); clear HB; have HO446 := n0_; have HB := n1_; clear n0_ n1_; (try clear hb); (try clear hb2); (try clear hk); (try clear hi); (try clear ho0); obtain ⟨Ao54, co54, eo54⟩ := Kd.R_slice HO446.out; subst eo54))
                   repeat (go_quiet (first | (go_at_call 15; (with_reducible refine (impl_CountsOf.calls t418 t430 t431 true _ A28.out).mono ?_); rintro e w47 ⟨rfl, hb⟩; have n0_ := Aside0.mk (below_step (by repeat (first | (with_reducible first | exact HB.out | apply below_alloc | apply pw_below_drewN | apply below_drew1) | exact HB.out)) hb); clear HB; have HB := n0_; clear n0_; (try clear hb); (try clear hb2); (try clear hk); (try clear hi)) | (go_at_call 38; (with_reducible refine (impl_ChristoffelOf.calls kj9 t430 t431 t433 true _ A29.out).mono ?_); rintro e w48 ⟨rfl, hb⟩; have n0_ := Aside0.mk (below_step (by repeat (first | (with_reducible first | exact HB.out | apply below_alloc | apply pw_below_drewN | apply below_drew1) | exact HB.out)) hb); clear HB; have HB := n0_; clear n0_; (try clear hb); (try clear hb2); (try clear hk); (try clear hi)) | (go_at_call 27; (with_reducible refine (impl_LeastTurn.calls kj9 t418 t435 true _ A30.out).mono ?_); rintro e w49 ⟨rfl, hb⟩; have n0_ := Aside0.mk (below_step (by repeat (first | (with_reducible first | exact HB.out | apply below_alloc | apply pw_below_drewN | apply below_drew1) | exact HB.out)) hb); clear HB; have HB := n0_; clear n0_; (try clear hb); (try clear hb2); (try clear hk); (try clear hi)) | (go_at_call 17; (with_reducible refine (impl_IsBalanced.calls kj9 t418 true true _ A31.out).mono ?_); rintro e w50 ⟨rfl, hb⟩; have n0_ := Aside0.mk (below_step (by repeat (first | (with_reducible first | exact HB.out | apply below_alloc | apply pw_below_drewN | apply below_drew1) | exact HB.out)) hb); clear HB; have HB := n0_; clear n0_; (try clear hb); (try clear hb2); (try clear hk); (try clear hi)) | (go_at_call 39; (with_reducible refine (impl_MirrorWord.calls t418 t439 true _ A32.out).mono ?_); rintro e w51 ⟨rfl, hb⟩; have n0_ := Aside0.mk (below_step (by repeat (first | (with_reducible first | exact HB.out | apply below_alloc | apply pw_below_drewN | apply below_drew1) | exact HB.out)) hb); clear HB; have HB := n0_; clear n0_; (try clear hb); (try clear hb2); (try clear hk); (try clear hi)) | (go_at_call 19; (with_reducible refine (impl_IsChristoffel.calls kj9 t439 true true _ A33.out).mono ?_); rintro e w52 ⟨rfl, hb⟩; have n0_ := Aside0.mk (below_step (by repeat (first | (with_reducible first | exact HB.out | apply below_alloc | apply pw_below_drewN | apply below_drew1) | exact HB.out)) hb); clear HB; have HB := n0_; clear n0_; (try clear hb); (try clear hb2); (try clear hk); (try clear hi)) | (go_at_call 34; (with_reducible refine (impl_TurnsOf.calls kj9 t418 t443 true _ A34.out).mono ?_); rintro e w53 ⟨v445, rfl, ho0, hb⟩; have n0_ := Aside0.mk (Kd.R_lower ho0 (below_size (by repeat (first | (with_reducible first | exact HB.out | apply below_alloc | apply pw_below_drewN | apply below_drew1) | exact HB.out)))); have n1_ := Aside0.mk (below_step (by repeat (first | (with_reducible first | exact HB.out | apply below_alloc | apply pw_below_drewN | apply below_drew1) | exact HB.out)) hb); clear HB; have HO446 := n0_; have HB := n1_; clear n0_ n1_; (try clear hb); (try clear hb2); (try clear hk); (try clear hi); (try clear ho0); obtain ⟨Ao54, co54, eo54⟩ := Kd.R_slice HO446.out; subst eo54)); try go_wp2_with (first | (go_at_call 15; (with_reducible refine (impl_CountsOf.calls t418 t430 t431 true _ A28.out).mono ?_); rintro e w47 ⟨rfl, hb⟩; have n0_ := Aside0.mk (below_step (by repeat (first | (with_reducible first | exact HB.out | apply below_alloc | apply pw_below_drewN | apply below_drew1) | exact HB.out)) hb); clear HB; have HB := n0_; clear n0_; (try clear hb); (try clear hb2); (try clear hk); (try clear hi)) | (go_at_call 38; (with_reducible refine (impl_ChristoffelOf.calls kj9 t430 t431 t433 true _ A29.out).mono ?_); rintro e w48 ⟨rfl, hb⟩; have n0_ := Aside0.mk (below_step (by repeat (first | (with_reducible first | exact HB.out | apply below_alloc | apply pw_below_drewN | apply below_drew1) | exact HB.out)) hb); clear HB; have HB := n0_; clear n0_; (try clear hb); (try clear hb2); (try clear hk); (try clear hi)) | (go_at_call 27; (with_reducible refine (impl_LeastTurn.calls kj9 t418 t435 true _ A30.out).mono ?_); rintro e w49 ⟨rfl, hb⟩; have n0_ := Aside0.mk (below_step (by repeat (first | (with_reducible first | exact HB.out | apply below_alloc | apply pw_below_drewN | apply below_drew1) | exact HB.out)) hb); clear HB; have HB := n0_; clear n0_; (try clear hb); (try clear hb2); (try clear hk); (try clear hi)) | (go_at_call 17; (with_reducible refine (impl_IsBalanced.calls kj9 t418 true true _ A31.out).mono ?_); rintro e w50 ⟨rfl, hb⟩; have n0_ := Aside0.mk (below_step (by repeat (first | (with_reducible first | exact HB.out | apply below_alloc | apply pw_below_drewN | apply below_drew1) | exact HB.out)) hb); clear HB; have HB := n0_; clear n0_; (try clear hb); (try clear hb2); (try clear hk); (try clear hi)) | (go_at_call 39; (with_reducible refine (impl_MirrorWord.calls t418 t439 true _ A32.out).mono ?_); rintro e w51 ⟨rfl, hb⟩; have n0_ := Aside0.mk (below_step (by repeat (first | (with_reducible first | exact HB.out | apply below_alloc | apply pw_below_drewN | apply below_drew1) | exact HB.out)) hb); clear HB; have HB := n0_; clear n0_; (try clear hb); (try clear hb2); (try clear hk); (try clear hi)) | (go_at_call 19; (with_reducible refine (impl_IsChristoffel.calls kj9 t439 true true _ A33.out).mono ?_); rintro e w52 ⟨rfl, hb⟩; have n0_ := Aside0.mk (below_step (by repeat (first | (with_reducible first | exact HB.out | apply below_alloc | apply pw_below_drewN | apply below_drew1) | exact HB.out)) hb); clear HB; have HB := n0_; clear n0_; (try clear hb); (try clear hb2); (try clear hk); (try clear hi)) | (go_at_call 34; (with_reducible refine (impl_TurnsOf.calls kj9 t418 t443 true _ A34.out).mono ?_); rintro e w53 ⟨v445, rfl, ho0, hb⟩; have n0_ := Aside0.mk (Kd.R_lower ho0 (below_size (by repeat (first | (with_reducible first | exact HB.out | apply below_alloc | apply pw_below_drewN | apply below_drew1) | exact HB.out)))); have n1_ := Aside0.mk (below_step (by repeat (first | (with_reducible first | exact HB.out | apply below_alloc | apply pw_below_drewN | apply below_drew1) | exact HB.out)) hb); clear HB; have HO446 := n0_; have HB := n1_; clear n0_ n1_; (try clear hb); (try clear hb2); (try clear hk); (try clear hi); (try clear ho0); obtain ⟨Ao54, co54, eo54⟩ := Kd.R_slice HO446.out; subst eo54)))
                   go_meet
                   case rel => exact ⟨_, H', ⟨by have := HJ9.out; first | omega | exact Nat.le_refl _⟩, ⟨by repeat (first | (with_reducible first | exact HB.out | apply below_alloc | apply pw_below_drewN | apply below_drew1) | exact HB.out)⟩⟩
                  ·rw [if_neg c46] at H
                   have c46b0 : ((t443.length : Int) == (t418.size : Int)) = false := beq_eq_false_iff_ne.mpr c46
                   have c46b1 : ((t443.length : Int) != (t418.size : Int)) = true := bne_iff_ne.mpr c46
                   have c46b2 : (t443.length == t418.size) = false := by first | simpa using c46 | (simp at c46 ⊢; omega)
                   obtain rfl := Option.some.inj H
                   go_wp2_with (first | (go_at_call 15; (with_reducible refine (impl_CountsOf.calls t418 t430 t431 true _ A28.out).mono ?_); rintro e w55 ⟨rfl, hb⟩; have n0_ := Aside0.mk (below_step (by repeat (first | (with_reducible first | exact HB.out | apply below_alloc | apply pw_below_drewN | apply below_drew1) | exact HB.out)) hb); clear HB; have HB := n0_; clear n0_; (try clear hb); (try clear hb2); (try clear hk); (try clear hi)) | (go_at_call 38; (with_reducible refine (impl_ChristoffelOf.calls kj9 t430 t431 t433 true _ A29.out).mono ?_); rintro e w56 ⟨rfl, hb⟩; have n0_ := Aside0.mk (below_step (by repeat (first | (with_reducible first | exact HB.out | apply below_alloc | apply pw_below_drewN | apply below_drew1) | exact HB.out)) hb); clear HB; have HB := n0_; clear n0_; (try clear hb); (try clear hb2); (try clear hk); (try clear hi)) | (go_at_call 27; (with_reducible refine (impl_LeastTurn.calls kj9 t418 t435 true _ A30.out).mono ?_); rintro e w57 ⟨rfl, hb⟩; have n0_ := Aside0.mk (below_step (by repeat (first | (with_reducible first | exact HB.out | apply below_alloc | apply pw_below_drewN | apply below_drew1) | exact HB.out)) hb); clear HB; have HB := n0_; clear n0_; (try clear hb); (try clear hb2); (try clear hk); (try clear hi)) | (go_at_call 17; (with_reducible refine (impl_IsBalanced.calls kj9 t418 true true _ A31.out).mono ?_); rintro e w58 ⟨rfl, hb⟩; have n0_ := Aside0.mk (below_step (by repeat (first | (with_reducible first | exact HB.out | apply below_alloc | apply pw_below_drewN | apply below_drew1) | exact HB.out)) hb); clear HB; have HB := n0_; clear n0_; (try clear hb); (try clear hb2); (try clear hk); (try clear hi)) | (go_at_call 39; (with_reducible refine (impl_MirrorWord.calls t418 t439 true _ A32.out).mono ?_); rintro e w59 ⟨rfl, hb⟩; have n0_ := Aside0.mk (below_step (by repeat (first | (with_reducible first | exact HB.out | apply below_alloc | apply pw_below_drewN | apply below_drew1) | exact HB.out)) hb); clear HB; have HB := n0_; clear n0_; (try clear hb); (try clear hb2); (try clear hk); (try clear hi)) | (go_at_call 19; (with_reducible refine (impl_IsChristoffel.calls kj9 t439 true true _ A33.out).mono ?_); rintro e w60 ⟨rfl, hb⟩; have n0_ := Aside0.mk (below_step (by repeat (first | (with_reducible first | exact HB.out | apply below_alloc | apply pw_below_drewN | apply below_drew1) | exact HB.out)) hb); clear HB; have HB := n0_; clear n0_; (try clear hb); (try clear hb2); (try clear hk); (try clear hi)) | (go_at_call 34; (with_reducible refine (impl_TurnsOf.calls kj9 t418 t443 true _ A34.out).mono ?_); rintro e w61 ⟨v445, rfl, ho0, hb⟩; have n0_ := Aside0.mk (Kd.R_lower ho0 (below_size (by repeat (first | (with_reducible first | exact HB.out | apply below_alloc | apply pw_below_drewN | apply below_drew1) | exact HB.out)))); have n1_ := Aside0.mk (below_step (by repeat (first | (with_reducible first | exact HB.out | apply below_alloc | apply pw_below_drewN | apply below_drew1) | exact HB.out)) hb); clear HB; have HO446 := n0_; have HB := n1_; clear n0_ n1_; (try clear hb); (try clear hb2); (try clear hk); (try clear hi); (try clear ho0); obtain ⟨Ao62, co62, eo62⟩ := Kd.R_slice HO446.out; subst eo62))
                   repeat (go_quiet (first | (go_at_call 15; (with_reducible refine (impl_CountsOf.calls t418 t430 t431 true _ A28.out).mono ?_); rintro e w55 ⟨rfl, hb⟩; have n0_ := Aside0.mk (below_step (by repeat (first | (with_reducible first | exact HB.out | apply below_alloc | apply pw_below_drewN | apply below_drew1) | exact HB.out)) hb); clear HB; have HB := n0_; clear n0_; (try clear hb); (try clear hb2); (try clear hk); (try clear hi)) | (go_at_call 38; (with_reducible refine (impl_ChristoffelOf.calls kj9 t430 t431 t433 true _ A29.out).mono ?_); rintro e w56 ⟨rfl, hb⟩; have n0_ := Aside0.mk (below_step (by repeat (first | (with_reducible first | exact HB.out | apply below_alloc | apply pw_below_drewN | apply below_drew1) | exact HB.out)) hb); clear HB; have HB := n0_; clear n0_; (try clear hb); (try clear hb2); (try clear hk); (try clear hi)) | (go_at_call 27; (with_reducible refine (impl_LeastTurn.calls kj9 t418 t435 true _ A30.out).mono ?_); rintro e w57 ⟨rfl, hb⟩; have n0_ := Aside0.mk (below_step (by repeat (first | (with_reducible first | exact HB.out | apply below_alloc | apply pw_below_drewN | apply below_drew1) | exact HB.out)) hb); clear HB; have HB := n0_; clear n0_; (try clear hb); (try clear hb2); (try clear hk); (try clear hi)) | (go_at_call 17; (with_reducible refine (impl_IsBalanced.calls kj9 t418 true true _ A31.out).mono ?_); rintro e w58 ⟨rfl, hb⟩; have n0_ := Aside0.mk (below_step (by repeat (first | (with_reducible first | exact HB.out | apply below_alloc | apply pw_below_drewN | apply below_drew1) | exact HB.out)) hb); clear HB; have HB := n0_; clear n0_; (try clear hb); (try clear hb2); (try clear hk); (try clear hi)) | (go_at_call 39; (with_reducible refine (impl_MirrorWord.calls t418 t439 true _ A32.out).mono ?_); rintro e w59 ⟨rfl, hb⟩; have n0_ := Aside0.mk (below_step (by repeat (first | (with_reducible first | exact HB.out | apply below_alloc | apply pw_below_drewN | apply below_drew1) | exact HB.out)) hb); clear HB; have HB := n0_; clear n0_; (try clear hb); (try clear hb2); (try clear hk); (try clear hi)) | (go_at_call 19; (with_reducible refine (impl_IsChristoffel.calls kj9 t439 true true _ A33.out).mono ?_); rintro e w60 ⟨rfl, hb⟩; have n0_ := Aside0.mk (below_step (by repeat (first | (with_reducible first | exact HB.out | apply below_alloc | apply pw_below_drewN | apply below_drew1) | exact HB.out)) hb); clear HB; have HB := n0_; clear n0_; (try clear hb); (try clear hb2); (try clear hk); (try clear hi)) | (go_at_call 34; (with_reducible refine (impl_TurnsOf.calls kj9 t418 t443 true _ A34.out).mono ?_); rintro e w61 ⟨v445, rfl, ho0, hb⟩; have n0_ := Aside0.mk (Kd.R_lower ho0 (below_size (by repeat (first | (with_reducible first | exact HB.out | apply below_alloc | apply pw_below_drewN | apply below_drew1) | exact HB.out)))); have n1_ := Aside0.mk (below_step (by repeat (first | (with_reducible first | exact HB.out | apply below_alloc | apply pw_below_drewN | apply below_drew1) | exact HB.out)) hb); clear HB; have HO446 := n0_; have HB := n1_; clear n0_ n1_; (try clear hb); (try clear hb2); (try clear hk); (try clear hi); (try clear ho0); obtain ⟨Ao62, co62, eo62⟩ := Kd.R_slice HO446.out; subst eo62)); try go_wp2_with (first | (go_at_call 15; (with_reducible refine (impl_CountsOf.calls t418 t430 t431 true _ A28.out).mono ?_); rintro e w55 ⟨rfl, hb⟩; have n0_ := Aside0.mk (below_step (by repeat (first | (with_reducible first | exact HB.out | apply below_alloc | apply pw_below_drewN | apply below_drew1) | exact HB.out)) hb); clear HB; have HB := n0_; clear n0_; (try clear hb); (try clear hb2); (try clear hk); (try clear hi)) | (go_at_call 38; (with_reducible refine (impl_ChristoffelOf.calls kj9 t430 t431 t433 true _ A29.out).mono ?_); rintro e w56 ⟨rfl, hb⟩; have n0_ := Aside0.mk (below_step (by repeat (first | (with_reducible first | exact HB.out | apply below_alloc | apply pw_below_drewN | apply below_drew1) | exact HB.out)) hb); clear HB; have HB := n0_; clear n0_; (try clear hb); (try clear hb2); (try clear hk); (try clear hi)) | (go_at_call 27; (with_reducible refine (impl_LeastTurn.calls kj9 t418 t435 true _ A30.out).mono ?_); rintro e w57 ⟨rfl, hb⟩; have n0_ := Aside0.mk (below_step (by repeat (first | (with_reducible first | exact HB.out | apply below_alloc | apply pw_below_drewN | apply below_drew1) | exact HB.out)) hb); clear HB; have HB := n0_; clear n0_; (try clear hb); (try clear hb2); (try clear hk); (try clear hi)) | (go_at_call 17; (with_reducible refine (impl_IsBalanced.calls kj9 t418 true true _ A31.out).mono ?_); rintro e w58 ⟨rfl, hb⟩; have n0_ := Aside0.mk (below_step (by repeat (first | (with_reducible first | exact HB.out | apply below_alloc | apply pw_below_drewN | apply below_drew1) | exact HB.out)) hb); clear HB; have HB := n0_; clear n0_; (try clear hb); (try clear hb2); (try clear hk); (try clear hi)) | (go_at_call 39; (with_reducible refine (impl_MirrorWord.calls t418 t439 true _ A32.out).mono ?_); rintro e w59 ⟨rfl, hb⟩; have n0_ := Aside0.mk (below_step (by repeat (first | (with_reducible first | exact HB.out | apply below_alloc | apply pw_below_drewN | apply below_drew1) | exact HB.out)) hb); clear HB; have HB := n0_; clear n0_; (try clear hb); (try clear hb2); (try clear hk); (try clear hi)) | (go_at_call 19; (with_reducible refine (impl_IsChristoffel.calls kj9 t439 true true _ A33.out).mono ?_); rintro e w60 ⟨rfl, hb⟩; have n0_ := Aside0.mk (below_step (by repeat (first | (with_reducible first | exact HB.out | apply below_alloc | apply pw_below_drewN | apply below_drew1) | exact HB.out)) hb); clear HB; have HB := n0_; clear n0_; (try clear hb); (try clear hb2); (try clear hk); (try clear hi)) | (go_at_call 34; (with_reducible refine (impl_TurnsOf.calls kj9 t418 t443 true _ A34.out).mono ?_); rintro e w61 ⟨v445, rfl, ho0, hb⟩; have n0_ := Aside0.mk (Kd.R_lower ho0 (below_size (by repeat (first | (with_reducible first | exact HB.out | apply below_alloc | apply pw_below_drewN | apply below_drew1) | exact HB.out)))); have n1_ := Aside0.mk (below_step (by repeat (first | (with_reducible first | exact HB.out | apply below_alloc | apply pw_below_drewN | apply below_drew1) | exact HB.out)) hb); clear HB; have HO446 := n0_; have HB := n1_; clear n0_ n1_; (try clear hb); (try clear hb2); (try clear hk); (try clear hi); (try clear ho0); obtain ⟨Ao62, co62, eo62⟩ := Kd.R_slice HO446.out; subst eo62)))
                   go_ret
                   exact ⟨by first | rfl | (simp [errW_none, errW_some] <;> rfl) | (simp [*, errW_none, errW_some] <;> rfl), by repeat (first | (with_reducible first | exact HB.out | apply below_alloc | apply pw_below_drewN | apply below_drew1) | exact HB.out)⟩
                 ·replace c45 := Bool.eq_false_iff.mpr c45
                  subst c45
                  have H1 : (some false) = some r := by rw [if_neg (show ¬ (false = true) by decide)] at H; exact H
                  clear H; have H := H1; clear H1
                  obtain rfl := Option.some.inj H
                  go_wp2_with (first | (go_at_call 15; (with_reducible refine (impl_CountsOf.calls t418 t430 t431 true _ A28.out).mono ?_); rintro e w63 ⟨rfl, hb⟩; have n0_ := Aside0.mk (below_step (by repeat (first | (with_reducible first | exact HB.out | apply below_alloc | apply pw_below_drewN | apply below_drew1) | exact HB.out)) hb); clear HB; have HB := n0_; clear n0_; (try clear hb); (try clear hb2); (try clear hk); (try clear hi)) | (go_at_call 38; (with_reducible refine (impl_ChristoffelOf.calls kj9 t430 t431 t433 true _ A29.out).mono ?_); rintro e w64 ⟨rfl, hb⟩; have n0_ := Aside0.mk (below_step (by repeat (first | (with_reducible first | exact HB.out | apply below_alloc | apply pw_below_drewN | apply below_drew1) | exact HB.out)) hb); clear HB; have HB := n0_; clear n0_; (try clear hb); (try clear hb2); (try clear hk); (try clear hi)) | (go_at_call 27; (with_reducible refine (impl_LeastTurn.calls kj9 t418 t435 true _ A30.out).mono ?_); rintro e w65 ⟨rfl, hb⟩; have n0_ := Aside0.mk (below_step (by repeat (first | (with_reducible first | exact HB.out | apply below_alloc | apply pw_below_drewN | apply below_drew1) | exact HB.out)) hb); clear HB; have HB := n0_; clear n0_; (try clear hb); (try clear hb2); (try clear hk); (try clear hi)) | (go_at_call 17; (with_reducible refine (impl_IsBalanced.calls kj9 t418 true true _ A31.out).mono ?_); rintro e w66 ⟨rfl, hb⟩; have n0_ := Aside0.mk (below_step (by repeat (first | (with_reducible first | exact HB.out | apply below_alloc | apply pw_below_drewN | apply below_drew1) | exact HB.out)) hb); clear HB; have HB := n0_; clear n0_; (try clear hb); (try clear hb2); (try clear hk); (try clear hi)) | (go_at_call 39; (with_reducible refine (impl_MirrorWord.calls t418 t439 true _ A32.out).mono ?_); rintro e w67 ⟨rfl, hb⟩; have n0_ := Aside0.mk (below_step (by repeat (first | (with_reducible first | exact HB.out | apply below_alloc | apply pw_below_drewN | apply below_drew1) | exact HB.out)) hb); clear HB; have HB := n0_; clear n0_; (try clear hb); (try clear hb2); (try clear hk); (try clear hi)) | (go_at_call 19; (with_reducible refine (impl_IsChristoffel.calls kj9 t439 true true _ A33.out).mono ?_); rintro e w68 ⟨rfl, hb⟩; have n0_ := Aside0.mk (below_step (by repeat (first | (with_reducible first | exact HB.out | apply below_alloc | apply pw_below_drewN | apply below_drew1) | exact HB.out)) hb); clear HB; have HB := n0_; clear n0_; (try clear hb); (try clear hb2); (try clear hk); (try clear hi)) | (go_at_call 34; (with_reducible refine (impl_TurnsOf.calls kj9 t418 t443 false _ A34.out).mono ?_); rintro e w69 ⟨v445, rfl, ho0, hb⟩; have n0_ := Aside0.mk (Kd.R_lower ho0 (below_size (by repeat (first | (with_reducible first | exact HB.out | apply below_alloc | apply pw_below_drewN | apply below_drew1) | exact HB.out)))); have n1_ := Aside0.mk (below_step (by repeat (first | (with_reducible first | exact HB.out | apply below_alloc | apply pw_below_drewN | apply below_drew1) | exact HB.out)) hb); clear HB; have HO446 := n0_; have HB := n1_; clear n0_ n1_; (try clear hb); (try clear hb2); (try clear hk); (try clear hi); (try clear ho0)))
                  repeat (go_quiet (first | (go_at_call 15; (with_reducible refine (impl_CountsOf.calls t418 t430 t431 true _ A28.out).mono ?_); rintro e w63 ⟨rfl, hb⟩; have n0_ := Aside0.mk (below_step (by repeat (first | (with_reducible first | exact HB.out | apply below_alloc | apply pw_below_drewN | apply below_drew1) | exact HB.out)) hb); clear HB; have HB := n0_; clear n0_; (try clear hb); (try clear hb2); (try clear hk); (try clear hi)) | (go_at_call 38; (with_reducible refine (impl_ChristoffelOf.calls kj9 t430 t431 t433 true _ A29.out).mono ?_); rintro e w64 ⟨rfl, hb⟩; have n0_ := Aside0.mk (below_step (by repeat (first | (with_reducible first | exact HB.out | apply below_alloc | apply pw_below_drewN | apply below_drew1) | exact HB.out)) hb); clear HB; have HB := n0_; clear n0_; (try clear hb); (try clear hb2); (try clear hk); (try clear hi)) | (go_at_call 27; (with_reducible refine (impl_LeastTurn.calls kj9 t418 t435 true _ A30.out).mono ?_); rintro e w65 ⟨rfl, hb⟩; have n0_ := Aside0.mk (below_step (by repeat (first | (with_reducible first | exact HB.out | apply below_alloc | apply pw_below_drewN | apply below_drew1) | exact HB.out)) hb); clear HB; have HB := n0_; clear n0_; (try clear hb); (try clear hb2); (try clear hk); (try clear hi)) | (go_at_call 17; (with_reducible refine (impl_IsBalanced.calls kj9 t418 true true _ A31.out).mono ?_); rintro e w66 ⟨rfl, hb⟩; have n0_ := Aside0.mk (below_step (by repeat (first | (with_reducible first | exact HB.out | apply below_alloc | apply pw_below_drewN | apply below_drew1) | exact HB.out)) hb); clear HB; have HB := n0_; clear n0_; (try clear hb); (try clear hb2); (try clear hk); (try clear hi)) | (go_at_call 39; (with_reducible refine (impl_MirrorWord.calls t418 t439 true _ A32.out).mono ?_); rintro e w67 ⟨rfl, hb⟩; have n0_ := Aside0.mk (below_step (by repeat (first | (with_reducible first | exact HB.out | apply below_alloc | apply pw_below_drewN | apply below_drew1) | exact HB.out)) hb); clear HB; have HB := n0_; clear n0_; (try clear hb); (try clear hb2); (try clear hk); (try clear hi)) | (go_at_call 19; (with_reducible refine (impl_IsChristoffel.calls kj9 t439 true true _ A33.out).mono ?_); rintro e w68 ⟨rfl, hb⟩; have n0_ := Aside0.mk (below_step (by repeat (first | (with_reducible first | exact HB.out | apply below_alloc | apply pw_below_drewN | apply below_drew1) | exact HB.out)) hb); clear HB; have HB := n0_; clear n0_; (try clear hb); (try clear hb2); (try clear hk); (try clear hi)) | (go_at_call 34; (with_reducible refine (impl_TurnsOf.calls kj9 t418 t443 false _ A34.out).mono ?_); rintro e w69 ⟨v445, rfl, ho0, hb⟩; have n0_ := Aside0.mk (Kd.R_lower ho0 (below_size (by repeat (first | (with_reducible first | exact HB.out | apply below_alloc | apply pw_below_drewN | apply below_drew1) | exact HB.out)))); have n1_ := Aside0.mk (below_step (by repeat (first | (with_reducible first | exact HB.out | apply below_alloc | apply pw_below_drewN | apply below_drew1) | exact HB.out)) hb); clear HB; have HO446 := n0_; have HB := n1_; clear n0_ n1_; (try clear hb); (try clear hb2); (try clear hk); (try clear hi); (try clear ho0))); try go_wp2_with (first | (go_at_call 15; (with_reducible refine (impl_CountsOf.calls t418 t430 t431 true _ A28.out).mono ?_); rintro e w63 ⟨rfl, hb⟩; have n0_ := Aside0.mk (below_step (by repeat (first | (with_reducible first | exact HB.out | apply below_alloc | apply pw_below_drewN | apply below_drew1) | exact HB.out)) hb); clear HB; have HB := n0_; clear n0_; (try clear hb); (try clear hb2); (try clear hk); (try clear hi)) | (go_at_call 38; (with_reducible refine (impl_ChristoffelOf.calls kj9 t430 t431 t433 true _ A29.out).mono ?_); rintro e w64 ⟨rfl, hb⟩; have n0_ := Aside0.mk (below_step (by repeat (first | (with_reducible first | exact HB.out | apply below_alloc | apply pw_below_drewN | apply below_drew1) | exact HB.out)) hb); clear HB; have HB := n0_; clear n0_; (try clear hb); (try clear hb2); (try clear hk); (try clear hi)) | (go_at_call 27; (with_reducible refine (impl_LeastTurn.calls kj9 t418 t435 true _ A30.out).mono ?_); rintro e w65 ⟨rfl, hb⟩; have n0_ := Aside0.mk (below_step (by repeat (first | (with_reducible first | exact HB.out | apply below_alloc | apply pw_below_drewN | apply below_drew1) | exact HB.out)) hb); clear HB; have HB := n0_; clear n0_; (try clear hb); (try clear hb2); (try clear hk); (try clear hi)) | (go_at_call 17; (with_reducible refine (impl_IsBalanced.calls kj9 t418 true true _ A31.out).mono ?_); rintro e w66 ⟨rfl, hb⟩; have n0_ := Aside0.mk (below_step (by repeat (first | (with_reducible first | exact HB.out | apply below_alloc | apply pw_below_drewN | apply below_drew1) | exact HB.out)) hb); clear HB; have HB := n0_; clear n0_; (try clear hb); (try clear hb2); (try clear hk); (try clear hi)) | (go_at_call 39; (with_reducible refine (impl_MirrorWord.calls t418 t439 true _ A32.out).mono ?_); rintro e w67 ⟨rfl, hb⟩; have n0_ := Aside0.mk (below_step (by repeat (first | (with_reducible first | exact HB.out | apply below_alloc | apply pw_below_drewN | apply below_drew1) | exact HB.out)) hb); clear HB; have HB := n0_; clear n0_; (try clear hb); (try clear hb2); (try clear hk); (try clear hi)) | (go_at_call 19; (with_reducible refine (impl_IsChristoffel.calls kj9 t439 true true _ A33.out).mono ?_); rintro e w68 ⟨rfl, hb⟩; have n0_ := Aside0.mk (below_step (by repeat (first | (with_reducible first | exact HB.out | apply below_alloc | apply pw_below_drewN | apply below_drew1) | exact HB.out)) hb); clear HB; have HB := n0_; clear n0_; (try clear hb); (try clear hb2); (try clear hk); (try clear hi)) | (go_at_call 34; (with_reducible refine (impl_TurnsOf.calls kj9 t418 t443 false _ A34.out).mono ?_); rintro e w69 ⟨v445, rfl, ho0, hb⟩; have n0_ := Aside0.mk (Kd.R_lower ho0 (below_size (by repeat (first | (with_reducible first | exact HB.out | apply below_alloc | apply pw_below_drewN | apply below_drew1) | exact HB.out)))); have n1_ := Aside0.mk (below_step (by repeat (first | (with_reducible first | exact HB.out | apply below_alloc | apply pw_below_drewN | apply below_drew1) | exact HB.out)) hb); clear HB; have HO446 := n0_; have HB := n1_; clear n0_ n1_; (try clear hb); (try clear hb2); (try clear hk); (try clear hi); (try clear ho0))))
                  go_ret
                  exact ⟨by first | rfl | (simp [errW_none, errW_some] <;> rfl) | (simp [*, errW_none, errW_some] <;> rfl), by repeat (first | (with_reducible first | exact HB.out | apply below_alloc | apply pw_below_drewN | apply below_drew1) | exact HB.out)⟩
                ·replace c44 := Bool.eq_false_iff.mpr c44
                 subst c44
                 have H1 : (some false) = some r := by rw [if_neg (show ¬ (false = true) by decide)] at H; exact H
                 clear H; have H := H1; clear H1
                 obtain rfl := Option.some.inj H
                 go_wp2_with (first | (go_at_call 15; (with_reducible refine (impl_CountsOf.calls t418 t430 t431 true _ A28.out).mono ?_); rintro e w70 ⟨rfl, hb⟩; have n0_ := Aside0.mk (below_step (by repeat (first | (with_reducible first | exact HB.out | apply below_alloc | apply pw_below_drewN | apply below_drew1) | exact HB.out)) hb); clear HB; have HB := n0_; clear n0_; (try clear hb); (try clear hb2); (try clear hk); (try clear hi)) | (go_at_call 38; (with_reducible refine (impl_ChristoffelOf.calls kj9 t430 t431 t433 true _ A29.out).mono ?_); rintro e w71 ⟨rfl, hb⟩; have n0_ := Aside0.mk (below_step (by repeat (first | (with_reducible first | exact HB.out | apply below_alloc | apply pw_below_drewN | apply below_drew1) | exact HB.out)) hb); clear HB; have HB := n0_; clear n0_; (try clear hb); (try clear hb2); (try clear hk); (try clear hi)) | (go_at_call 27; (with_reducible refine (impl_LeastTurn.calls kj9 t418 t435 true _ A30.out).mono ?_); rintro e w72 ⟨rfl, hb⟩; have n0_ := Aside0.mk (below_step (by repeat (first | (with_reducible first | exact HB.out | apply below_alloc | apply pw_below_drewN | apply below_drew1) | exact HB.out)) hb); clear HB; have HB := n0_; clear n0_; (try clear hb); (try clear hb2); (try clear hk); (try clear hi)) | (go_at_call 17; (with_reducible refine (impl_IsBalanced.calls kj9 t418 true true _ A31.out).mono ?_); rintro e w73 ⟨rfl, hb⟩; have n0_ := Aside0.mk (below_step (by repeat (first | (with_reducible first | exact HB.out | apply below_alloc | apply pw_below_drewN | apply below_drew1) | exact HB.out)) hb); clear HB; have HB := n0_; clear n0_; (try clear hb); (try clear hb2); (try clear hk); (try clear hi)) | (go_at_call 39; (with_reducible refine (impl_MirrorWord.calls t418 t439 true _ A32.out).mono ?_); rintro e w74 ⟨rfl, hb⟩; have n0_ := Aside0.mk (below_step (by repeat (first | (with_reducible first | exact HB.out | apply below_alloc | apply pw_below_drewN | apply below_drew1) | exact HB.out)) hb); clear HB; have HB := n0_; clear n0_; (try clear hb); (try clear hb2); (try clear hk); (try clear hi)) | (go_at_call 19; (with_reducible refine (impl_IsChristoffel.calls kj9 t439 false true _ A33.out).mono ?_); rintro e w75 ⟨rfl, hb⟩; have n0_ := Aside0.mk (below_step (by repeat (first | (with_reducible first | exact HB.out | apply below_alloc | apply pw_below_drewN | apply below_drew1) | exact HB.out)) hb); clear HB; have HB := n0_; clear n0_; (try clear hb); (try clear hb2); (try clear hk); (try clear hi)) | (go_at_call 34; (with_reducible refine (impl_TurnsOf.calls kj9 t418 t443 t444 _ A34.out).mono ?_); rintro e w76 ⟨v445, rfl, ho0, hb⟩; have n0_ := Aside0.mk (Kd.R_lower ho0 (below_size (by repeat (first | (with_reducible first | exact HB.out | apply below_alloc | apply pw_below_drewN | apply below_drew1) | exact HB.out)))); have n1_ := Aside0.mk (below_step (by repeat (first | (with_reducible first | exact HB.out | apply below_alloc | apply pw_below_drewN | apply below_drew1) | exact HB.out)) hb); clear HB; have HO446 := n0_; have HB := n1_; clear n0_ n1_; (try clear hb); (try clear hb2); (try clear hk); (try clear hi); (try clear ho0)))
                 repeat (go_quiet (first | (go_at_call 15; (with_reducible refine (impl_CountsOf.calls t418 t430 t431 true _ A28.out).mono ?_); rintro e w70 ⟨rfl, hb⟩; have n0_ := Aside0.mk (below_step (by repeat (first | (with_reducible first | exact HB.out | apply below_alloc | apply pw_below_drewN | apply below_drew1) | exact HB.out)) hb); clear HB; have HB := n0_; clear n0_; (try clear hb); (try clear hb2); (try clear hk); (try clear hi)) | (go_at_call 38; (with_reducible refine (impl_ChristoffelOf.calls kj9 t430 t431 t433 true _ A29.out).mono ?_); rintro e w71 ⟨rfl, hb⟩; have n0_ := Aside0.mk (below_step (by repeat (first | (with_reducible first | exact HB.out | apply below_alloc | apply pw_below_drewN | apply below_drew1) | exact HB.out)) hb); clear HB; have HB := n0_; clear n0_; (try clear hb); (try clear hb2); (try clear hk); (try clear hi)) | (go_at_call 27; (with_reducible refine (impl_LeastTurn.calls kj9 t418 t435 true _ A30.out).mono ?_); rintro e w72 ⟨rfl, hb⟩; have n0_ := Aside0.mk (below_step (by repeat (first | (with_reducible first | exact HB.out | apply below_alloc | apply pw_below_drewN | apply below_drew1) | exact HB.out)) hb); clear HB; have HB := n0_; clear n0_; (try clear hb); (try clear hb2); (try clear hk); (try clear hi)) | (go_at_call 17; (with_reducible refine (impl_IsBalanced.calls kj9 t418 true true _ A31.out).mono ?_); rintro e w73 ⟨rfl, hb⟩; have n0_ := Aside0.mk (below_step (by repeat (first | (with_reducible first | exact HB.out | apply below_alloc | apply pw_below_drewN | apply below_drew1) | exact HB.out)) hb); clear HB; have HB := n0_; clear n0_; (try clear hb); (try clear hb2); (try clear hk); (try clear hi)) | (go_at_call 39; (with_reducible refine (impl_MirrorWord.calls t418 t439 true _ A32.out).mono ?_); rintro e w74 ⟨rfl, hb⟩; have n0_ := Aside0.mk (below_step (by repeat (first | (with_reducible first | exact HB.out | apply below_alloc | apply pw_below_drewN | apply below_drew1) | exact HB.out)) hb); clear HB; have HB := n0_; clear n0_; (try clear hb); (try clear hb2); (try clear hk); (try clear hi)) | (go_at_call 19; (with_reducible refine (impl_IsChristoffel.calls kj9 t439 false true _ A33.out).mono ?_); rintro e w75 ⟨rfl, hb⟩; have n0_ := Aside0.mk (below_step (by repeat (first | (with_reducible first | exact HB.out | apply below_alloc | apply pw_below_drewN | apply below_drew1) | exact HB.out)) hb); clear HB; have HB := n0_; clear n0_; (try clear hb); (try clear hb2); (try clear hk); (try clear hi)) | (go_at_call 34; (with_reducible refine (impl_TurnsOf.calls kj9 t418 t443 t444 _ A34.out).mono ?_); rintro e w76 ⟨v445, rfl, ho0, hb⟩; have n0_ := Aside0.mk (Kd.R_lower ho0 (below_size (by repeat (first | (with_reducible first | exact HB.out | apply below_alloc | apply pw_below_drewN | apply below_drew1) | exact HB.out)))); have n1_ := Aside0.mk (below_step (by repeat (first | (with_reducible first | exact HB.out | apply below_alloc | apply pw_below_drewN | apply below_drew1) | exact HB.out)) hb); clear HB; have HO446 := n0_; have HB := n1_; clear n0_ n1_; (try clear hb); (try clear hb2); (try clear hk); (try clear hi); (try clear ho0))); try go_wp2_with (first | (go_at_call 15; (with_reducible refine (impl_CountsOf.calls t418 t430 t431 true _ A28.out).mono ?_); rintro e w70 ⟨rfl, hb⟩; have n0_ := Aside0.mk (below_step (by repeat (first | (with_reducible first | exact HB.out | apply below_alloc | apply pw_below_drewN | apply below_drew1) | exact HB.out)) hb); clear HB; have HB := n0_; clear n0_; (try clear hb); (try clear hb2); (try clear hk); (try clear hi)) | (go_at_call 38; (with_reducible refine (impl_ChristoffelOf.calls kj9 t430 t431 t433 true _ A29.out).mono ?_); rintro e w71 ⟨rfl, hb⟩; have n0_ := Aside0.mk (below_step (by repeat (first | (with_reducible first | exact HB.out | apply below_alloc | apply pw_below_drewN | apply below_drew1) | exact HB.out)) hb); clear HB; have HB := n0_; clear n0_; (try clear hb); (try clear hb2); (try clear hk); (try clear hi)) | (go_at_call 27; (with_reducible refine (impl_LeastTurn.calls kj9 t418 t435 true _ A30.out).mono ?_); rintro e w72 ⟨rfl, hb⟩; have n0_ := Aside0.mk (below_step (by repeat (first | (with_reducible first | exact HB.out | apply below_alloc | apply pw_below_drewN | apply below_drew1) | exact HB.out)) hb); clear HB; have HB := n0_; clear n0_; (try clear hb); (try clear hb2); (try clear hk); (try clear hi)) | (go_at_call 17; (with_reducible refine (impl_IsBalanced.calls kj9 t418 true true _ A31.out).mono ?_); rintro e w73 ⟨rfl, hb⟩; have n0_ := Aside0.mk (below_step (by repeat (first | (with_reducible first | exact HB.out | apply below_alloc | apply pw_below_drewN | apply below_drew1) | exact HB.out)) hb); clear HB; have HB := n0_; clear n0_; (try clear hb); (try clear hb2); (try clear hk); (try clear hi)) | (go_at_call 39; (with_reducible refine (impl_MirrorWord.calls t418 t439 true _ A32.out).mono ?_); rintro e w74 ⟨rfl, hb⟩; have n0_ := Aside0.mk (below_step (by repeat (first | (with_reducible first | exact HB.out | apply below_alloc | apply pw_below_drewN | apply below_drew1) | exact HB.out)) hb); clear HB; have HB := n0_; clear n0_; (try clear hb); (try clear hb2); (try clear hk); (try clear hi)) | (go_at_call 19; (with_reducible refine (impl_IsChristoffel.calls kj9 t439 false true _ A33.out).mono ?_); rintro e w75 ⟨rfl, hb⟩; have n0_ := Aside0.mk (below_step (by repeat (first | (with_reducible first | exact HB.out | apply below_alloc | apply pw_below_drewN | apply below_drew1) | exact HB.out)) hb); clear HB; have HB := n0_; clear n0_; (try clear hb); (try clear hb2); (try clear hk); (try clear hi)) | (go_at_call 34; (with_reducible refine (impl_TurnsOf.calls kj9 t418 t443 t444 _ A34.out).mono ?_); rintro e w76 ⟨v445, rfl, ho0, hb⟩; have n0_ := Aside0.mk (Kd.R_lower ho0 (below_size (by repeat (first | (with_reducible first | exact HB.out | apply below_alloc | apply pw_below_drewN | apply below_drew1) | exact HB.out)))); have n1_ := Aside0.mk (below_step (by repeat (first | (with_reducible first | exact HB.out | apply below_alloc | apply pw_below_drewN | apply below_drew1) | exact HB.out)) hb); clear HB; have HO446 := n0_; have HB := n1_; clear n0_ n1_; (try clear hb); (try clear hb2); (try clear hk); (try clear hi); (try clear ho0))))
                 go_ret
                 exact ⟨by first | rfl | (simp [errW_none, errW_some] <;> rfl) | (simp [*, errW_none, errW_some] <;> rfl), by repeat (first | (with_reducible first | exact HB.out | apply below_alloc | apply pw_below_drewN | apply below_drew1) | exact HB.out)⟩
               ·replace c43 := Bool.eq_false_iff.mpr c43
                subst c43
                have H1 : (some false) = some r := by rw [if_neg (show ¬ (false = true) by decide)] at H; exact H
                clear H; have H := H1; clear H1
                obtain rfl := Option.some.inj H
                go_wp2_with (first | (go_at_call 15; (with_reducible refine (impl_CountsOf.calls t418 t430 t431 true _ A28.out).mono ?_); rintro e w77 ⟨rfl, hb⟩; have n0_ := Aside0.mk (below_step (by repeat (first | (with_reducible first | exact HB.out | apply below_alloc | apply pw_below_drewN | apply below_drew1) | exact HB.out)) hb); clear HB; have HB := n0_; clear n0_; (try clear hb); (try clear hb2); (try clear hk); (try clear hi)) | (go_at_call 38; (with_reducible refine (impl_ChristoffelOf.calls kj9 t430 t431 t433 true _ A29.out).mono ?_); rintro e w78 ⟨rfl, hb⟩; have n0_ := Aside0.mk (below_step (by repeat (first | (with_reducible first | exact HB.out | apply below_alloc | apply pw_below_drewN | apply below_drew1) | exact HB.out)) hb); clear HB; have HB := n0_; clear n0_; (try clear hb); (try clear hb2); (try clear hk); (try clear hi)) | (go_at_call 27; (with_reducible refine (impl_LeastTurn.calls kj9 t418 t435 true _ A30.out).mono ?_); rintro e w79 ⟨rfl, hb⟩; have n0_ := Aside0.mk (below_step (by repeat (first | (with_reducible first | exact HB.out | apply below_alloc | apply pw_below_drewN | apply below_drew1) | exact HB.out)) hb); clear HB; have HB := n0_; clear n0_; (try clear hb); (try clear hb2); (try clear hk); (try clear hi)) | (go_at_call 17; (with_reducible refine (impl_IsBalanced.calls kj9 t418 true true _ A31.out).mono ?_); rintro e w80 ⟨rfl, hb⟩; have n0_ := Aside0.mk (below_step (by repeat (first | (with_reducible first | exact HB.out | apply below_alloc | apply pw_below_drewN | apply below_drew1) | exact HB.out)) hb); clear HB; have HB := n0_; clear n0_; (try clear hb); (try clear hb2); (try clear hk); (try clear hi)) | (go_at_call 39; (with_reducible refine (impl_MirrorWord.calls t418 t439 true _ A32.out).mono ?_); rintro e w81 ⟨rfl, hb⟩; have n0_ := Aside0.mk (below_step (by repeat (first | (with_reducible first | exact HB.out | apply below_alloc | apply pw_below_drewN | apply below_drew1) | exact HB.out)) hb); clear HB; have HB := n0_; clear n0_; (try clear hb); (try clear hb2); (try clear hk); (try clear hi)) | (go_at_call 19; (with_reducible refine (impl_IsChristoffel.calls kj9 t439 t441 false _ A33.out).mono ?_); rintro e w82 ⟨rfl, hb⟩; have n0_ := Aside0.mk (below_step (by repeat (first | (with_reducible first | exact HB.out | apply below_alloc | apply pw_below_drewN | apply below_drew1) | exact HB.out)) hb); clear HB; have HB := n0_; clear n0_; (try clear hb); (try clear hb2); (try clear hk); (try clear hi)) | (go_at_call 34; (with_reducible refine (impl_TurnsOf.calls kj9 t418 t443 t444 _ A34.out).mono ?_); rintro e w83 ⟨v445, rfl, ho0, hb⟩; have n0_ := Aside0.mk (Kd.R_lower ho0 (below_size (by repeat (first | (with_reducible first | exact HB.out | apply below_alloc | apply pw_below_drewN | apply below_drew1) | exact HB.out)))); have n1_ := Aside0.mk (below_step (by repeat (first | (with_reducible first | exact HB.out | apply below_alloc | apply pw_below_drewN | apply below_drew1) | exact HB.out)) hb); clear HB; have HO446 := n0_; have HB := n1_; clear n0_ n1_; (try clear hb); (try clear hb2); (try clear hk); (try clear hi); (try clear ho0)))
                repeat (go_quiet (first | (go_at_call 15; (with_reducible refine (impl_CountsOf.calls t418 t430 t431 true _ A28.out).mono ?_); rintro e w77 ⟨rfl, hb⟩; have n0_ := Aside0.mk (below_step (by repeat (first | (with_reducible first | exact HB.out | apply below_alloc | apply pw_below_drewN | apply below_drew1) | exact HB.out)) hb); clear HB; have HB := n0_; clear n0_; (try clear hb); (try clear hb2); (try clear hk); (try clear hi)) | (go_at_call 38; (with_reducible refine (impl_ChristoffelOf.calls kj9 t430 t431 t433 true _ A29.out).mono ?_); rintro e w78 ⟨rfl, hb⟩; have n0_ := Aside0.mk (below_step (by repeat (first | (with_reducible first | exact HB.out | apply below_alloc | apply pw_below_drewN | apply below_drew1) | exact HB.out)) hb); clear HB; have HB := n0_; clear n0_; (try clear hb); (try clear hb2); (try clear hk); (try clear hi)) | (go_at_call 27; (with_reducible refine (impl_LeastTurn.calls kj9 t418 t435 true _ A30.out).mono ?_); rintro e w79 ⟨rfl, hb⟩; have n0_ := Aside0.mk (below_step (by repeat (first | (with_reducible first | exact HB.out | apply below_alloc | apply pw_below_drewN | apply below_drew1) | exact HB.out)) hb); clear HB; have HB := n0_; clear n0_; (try clear hb); (try clear hb2); (try clear hk); (try clear hi)) | (go_at_call 17; (with_reducible refine (impl_IsBalanced.calls kj9 t418 true true _ A31.out).mono ?_); rintro e w80 ⟨rfl, hb⟩; have n0_ := Aside0.mk (below_step (by repeat (first | (with_reducible first | exact HB.out | apply below_alloc | apply pw_below_drewN | apply below_drew1) | exact HB.out)) hb); clear HB; have HB := n0_; clear n0_; (try clear hb); (try clear hb2); (try clear hk); (try clear hi)) | (go_at_call 39; (with_reducible refine (impl_MirrorWord.calls t418 t439 true _ A32.out).mono ?_); rintro e w81 ⟨rfl, hb⟩; have n0_ := Aside0.mk (below_step (by repeat (first | (with_reducible first | exact HB.out | apply below_alloc | apply pw_below_drewN | apply below_drew1) | exact HB.out)) hb); clear HB; have HB := n0_; clear n0_; (try clear hb); (try clear hb2); (try clear hk); (try clear hi)) | (go_at_call 19; (with_reducible refine (impl_IsChristoffel.calls kj9 t439 t441 false _ A33.out).mono ?_); rintro e w82 ⟨rfl, hb⟩; have n0_ := Aside0.mk (below_step (by repeat (first | (with_reducible first | exact HB.out | apply below_alloc | apply pw_below_drewN | apply below_drew1) | exact HB.out)) hb); clear HB; have HB := n0_; clear n0_; (try clear hb); (try clear hb2); (try clear hk); (try clear hi)) | (go_at_call 34; (with_reducible refine (impl_TurnsOf.calls kj9 t418 t443 t444 _ A34.out).mono ?_); rintro e w83 ⟨v445, rfl, ho0, hb⟩; have n0_ := Aside0.mk (Kd.R_lower ho0 (below_size (by repeat (first | (with_reducible first | exact HB.out | apply below_alloc | apply pw_below_drewN | apply below_drew1) | exact HB.out)))); have n1_ := Aside0.mk (below_step (by repeat (first | (with_reducible first | exact HB.out | apply below_alloc | apply pw_below_drewN | apply below_drew1) | exact HB.out)) hb); clear HB; have HO446 := n0_; have HB := n1_; clear n0_ n1_; (try clear hb); (try clear hb2); (try clear hk); (try clear hi); (try clear ho0))); try go_wp2_with (first | (go_at_call 15; (with_reducible refine (impl_CountsOf.calls t418 t430 t431 true _ A28.out).mono ?_); rintro e w77 ⟨rfl, hb⟩; have n0_ := Aside0.mk (below_step (by repeat (first | (with_reducible first | exact HB.out | apply below_alloc | apply pw_below_drewN | apply below_drew1) | exact HB.out)) hb); clear HB; have HB := n0_; clear n0_; (try clear hb); (try clear hb2); (try clear hk); (try clear hi)) | (go_at_call 38; (with_reducible refine (impl_ChristoffelOf.calls kj9 t430 t431 t433 true _ A29.out).mono ?_); rintro e w78 ⟨rfl, hb⟩; have n0_ := Aside0.mk (below_step (by repeat (first | (with_reducible first | exact HB.out | apply below_alloc | apply pw_below_drewN | apply below_drew1) | exact HB.out)) hb); clear HB; have HB := n0_; clear n0_; (try clear hb); (try clear hb2); (try clear hk); (try clear hi)) | (go_at_call 27; (with_reducible refine (impl_LeastTurn.calls kj9 t418 t435 true _ A30.out).mono ?_); rintro e w79 ⟨rfl, hb⟩; have n0_ := Aside0.mk (below_step (by repeat (first | (with_reducible first | exact HB.out | apply below_alloc | apply pw_below_drewN | apply below_drew1) | exact HB.out)) hb); clear HB; have HB := n0_; clear n0_; (try clear hb); (try clear hb2); (try clear hk); (try clear hi)) | (go_at_call 17; (with_reducible refine (impl_IsBalanced.calls kj9 t418 true true _ A31.out).mono ?_); rintro e w80 ⟨rfl, hb⟩; have n0_ := Aside0.mk (below_step (by repeat (first | (with_reducible first | exact HB.out | apply below_alloc | apply pw_below_drewN | apply below_drew1) | exact HB.out)) hb); clear HB; have HB := n0_; clear n0_; (try clear hb); (try clear hb2); (try clear hk); (try clear hi)) | (go_at_call 39; (with_reducible refine (impl_MirrorWord.calls t418 t439 true _ A32.out).mono ?_); rintro e w81 ⟨rfl, hb⟩; have n0_ := Aside0.mk (below_step (by repeat (first | (with_reducible first | exact HB.out | apply below_alloc | apply pw_below_drewN | apply below_drew1) | exact HB.out)) hb); clear HB; have HB := n0_; clear n0_; (try clear hb); (try clear hb2); (try clear hk); (try clear hi)) | (go_at_call 19; (with_reducible refine (impl_IsChristoffel.calls kj9 t439 t441 false _ A33.out).mono ?_); rintro e w82 ⟨rfl, hb⟩; have n0_ := Aside0.mk (below_step (by repeat (first | (with_reducible first | exact HB.out | apply below_alloc | apply pw_below_drewN | apply below_drew1) | exact HB.out)) hb); clear HB; have HB := n0_; clear n0_; (try clear hb); (try clear hb2); (try clear hk); (try clear hi)) | (go_at_call 34; (with_reducible refine (impl_TurnsOf.calls kj9 t418 t443 t444 _ A34.out).mono ?_); rintro e w83 ⟨v445, rfl, ho0, hb⟩; have n0_ := Aside0.mk (Kd.R_lower ho0 (below_size (by repeat (first | (with_reducible first | exact HB.out | apply below_alloc | apply pw_below_drewN | apply below_drew1) | exact HB.out)))); have n1_ := Aside0.mk (below_step (by repeat (first | (with_reducible first | exact HB.out | apply below_alloc | apply pw_below_drewN | apply below_drew1) | exact HB.out)) hb); clear HB; have HO446 := n0_; have HB := n1_; clear n0_ n1_; (try clear hb); (try clear hb2); (try clear hk); (try clear hi); (try clear ho0))))
                go_ret
                exact ⟨by first | rfl | (simp [errW_none, errW_some] <;> rfl) | (simp [*, errW_none, errW_some] <;> rfl), by repeat (first | (with_reducible first | exact HB.out | apply below_alloc | apply pw_below_drewN | apply below_drew1) | exact HB.out)⟩
              ·replace c42 := Bool.eq_false_iff.mpr c42
               subst c42
               have H1 : (some false) = some r := by rw [if_neg (show ¬ (false = true) by decide)] at H; exact H
               clear H; have H := H1; clear H1
               obtain rfl := Option.some.inj H
               go_wp2_with (first | (go_at_call 15; (with_reducible refine (impl_CountsOf.calls t418 t430 t431 true _ A28.out).mono ?_); rintro e w84 ⟨rfl, hb⟩; have n0_ := Aside0.mk (below_step (by repeat (first | (with_reducible first | exact HB.out | apply below_alloc | apply pw_below_drewN | apply below_drew1) | exact HB.out)) hb); clear HB; have HB := n0_; clear n0_; (try clear hb); (try clear hb2); (try clear hk); (try clear hi)) | (go_at_call 38; (with_reducible refine (impl_ChristoffelOf.calls kj9 t430 t431 t433 true _ A29.out).mono ?_); rintro e w85 ⟨rfl, hb⟩; have n0_ := Aside0.mk (below_step (by repeat (first | (with_reducible first | exact HB.out | apply below_alloc | apply pw_below_drewN | apply below_drew1) | exact HB.out)) hb); clear HB; have HB := n0_; clear n0_; (try clear hb); (try clear hb2); (try clear hk); (try clear hi)) | (go_at_call 27; (with_reducible refine (impl_LeastTurn.calls kj9 t418 t435 true _ A30.out).mono ?_); rintro e w86 ⟨rfl, hb⟩; have n0_ := Aside0.mk (below_step (by repeat (first | (with_reducible first | exact HB.out | apply below_alloc | apply pw_below_drewN | apply below_drew1) | exact HB.out)) hb); clear HB; have HB := n0_; clear n0_; (try clear hb); (try clear hb2); (try clear hk); (try clear hi)) | (go_at_call 17; (with_reducible refine (impl_IsBalanced.calls kj9 t418 true true _ A31.out).mono ?_); rintro e w87 ⟨rfl, hb⟩; have n0_ := Aside0.mk (below_step (by repeat (first | (with_reducible first | exact HB.out | apply below_alloc | apply pw_below_drewN | apply below_drew1) | exact HB.out)) hb); clear HB; have HB := n0_; clear n0_; (try clear hb); (try clear hb2); (try clear hk); (try clear hi)) | (go_at_call 39; (with_reducible refine (impl_MirrorWord.calls t418 t439 false _ A32.out).mono ?_); rintro e w88 ⟨rfl, hb⟩; have n0_ := Aside0.mk (below_step (by repeat (first | (with_reducible first | exact HB.out | apply below_alloc | apply pw_below_drewN | apply below_drew1) | exact HB.out)) hb); clear HB; have HB := n0_; clear n0_; (try clear hb); (try clear hb2); (try clear hk); (try clear hi)) | (go_at_call 19; (with_reducible refine (impl_IsChristoffel.calls kj9 t439 t441 t442 _ A33.out).mono ?_); rintro e w89 ⟨rfl, hb⟩; have n0_ := Aside0.mk (below_step (by repeat (first | (with_reducible first | exact HB.out | apply below_alloc | apply pw_below_drewN | apply below_drew1) | exact HB.out)) hb); clear HB; have HB := n0_; clear n0_; (try clear hb); (try clear hb2); (try clear hk); (try clear hi)) | (go_at_call 34; (with_reducible refine (impl_TurnsOf.calls kj9 t418 t443 t444 _ A34.out).mono ?_); rintro e w90 ⟨v445, rfl, ho0, hb⟩; have n0_ := Aside0.mk (Kd.R_lower ho0 (below_size (by repeat (first | (with_reducible first | exact HB.out | apply below_alloc | apply pw_below_drewN | apply below_drew1) | exact HB.out)))); have n1_ := Aside0.mk (below_step (by repeat (first | (with_reducible first | exact HB.out | apply below_alloc | apply pw_below_drewN | apply below_drew1) | exact HB.out)) hb); clear HB; have HO446 := n0_; have HB := n1_; clear n0_ n1_; (try clear hb); (try clear hb2); (try clear hk); (try clear hi); (try clear ho0)))
               repeat (go_quiet (first | (go_at_call 15; (with_reducible refine (impl_CountsOf.calls t418 t430 t431 true _ A28.out).mono ?_); rintro e w84 ⟨rfl, hb⟩; have n0_ := Aside0.mk (below_step (by repeat (first | (with_reducible first | exact HB.out | apply below_alloc | apply pw_below_drewN | apply below_drew1) | exact HB.out)) hb); clear HB; have HB := n0_; clear n0_; (try clear hb); (try clear hb2); (try clear hk); (try clear hi)) | (go_at_call 38; (with_reducible refine (impl_ChristoffelOf.calls kj9 t430 t431 t433 true _ A29.out).mono ?_); rintro e w85 ⟨rfl, hb⟩; have n0_ := Aside0.mk (below_step (by repeat (first | (with_reducible first | exact HB.out | apply below_alloc | apply pw_below_drewN | apply below_drew1) | exact HB.out)) hb); clear HB; have HB := n0_; clear n0_; (try clear hb); (try clear hb2); (try clear hk); (try clear hi)) | (go_at_call 27; (with_reducible refine (impl_LeastTurn.calls kj9 t418 t435 true _ A30.out).mono ?_); rintro e w86 ⟨rfl, hb⟩; have n0_ := Aside0.mk (below_step (by repeat (first | (with_reducible first | exact HB.out | apply below_alloc | apply pw_below_drewN | apply below_drew1) | exact HB.out)) hb); clear HB; have HB := n0_; clear n0_; (try clear hb); (try clear hb2); (try clear hk); (try clear hi)) | (go_at_call 17; (with_reducible refine (impl_IsBalanced.calls kj9 t418 true true _ A31.out).mono ?_); rintro e w87 ⟨rfl, hb⟩; have n0_ := Aside0.mk (below_step (by repeat (first | (with_reducible first | exact HB.out | apply below_alloc | apply pw_below_drewN | apply below_drew1) | exact HB.out)) hb); clear HB; have HB := n0_; clear n0_; (try clear hb); (try clear hb2); (try clear hk); (try clear hi)) | (go_at_call 39; (with_reducible refine (impl_MirrorWord.calls t418 t439 false _ A32.out).mono ?_); rintro e w88 ⟨rfl, hb⟩; have n0_ := Aside0.mk (below_step (by repeat (first | (with_reducible first | exact HB.out | apply below_alloc | apply pw_below_drewN | apply below_drew1) | exact HB.out)) hb); clear HB; have HB := n0_; clear n0_; (try clear hb); (try clear hb2); (try clear hk); (try clear hi)) | (go_at_call 19; (with_reducible refine (impl_IsChristoffel.calls kj9 t439 t441 t442 _ A33.out).mono ?_); rintro e w89 ⟨rfl, hb⟩; have n0_ := Aside0.mk (below_step (by repeat (first | (with_reducible first | exact HB.out | apply below_alloc | apply pw_below_drewN | apply below_drew1) | exact HB.out)) hb); clear HB; have HB := n0_; clear n0_; (try clear hb); (try clear hb2); (try clear hk); (try clear hi)) | (go_at_call 34; (with_reducible refine (impl_TurnsOf.calls kj9 t418 t443 t444 _ A34.out).mono ?_); rintro e w90 ⟨v445, rfl, ho0, hb⟩; have n0_ := Aside0.mk (Kd.R_lower ho0 (below_size (by repeat (first | (with_reducible first | exact HB.out | apply below_alloc | apply pw_below_drewN | apply below_drew1) | exact HB.out)))); have n1_ := Aside0.mk (below_step (by repeat (first | (with_reducible first | exact HB.out | apply below_alloc | apply pw_below_drewN | apply below_drew1) | exact HB.out)) hb); clear HB; have HO446 := n0_; have HB := n1_; clear n0_ n1_; (try clear hb); (try clear hb2); (try clear hk); (try clear hi); (try clear ho0))); try go_wp2_with (first | (go_at_call 15; (with_reducible refine (impl_CountsOf.calls t418 t430 t431 true _ A28.out).mono ?_); rintro e w84 ⟨rfl, hb⟩; have n0_ := Aside0.mk (below_step (by repeat (first | (with_reducible first | exact HB.out | apply below_alloc | apply pw_below_drewN | apply below_drew1) | exact HB.out)) hb); clear HB; have HB := n0_; clear n0_; (try clear hb); (try clear hb2); (try clear hk); (try clear hi)) | (go_at_call 38; (with_reducible refine (impl_ChristoffelOf.calls kj9 t430 t431 t433 true _ A29.out).mono ?_); rintro e w85 ⟨rfl, hb⟩; have n0_ := Aside0.mk (below_step (by repeat (first | (with_reducible first | exact HB.out | apply below_alloc | apply pw_below_drewN | apply below_drew1) | exact HB.out)) hb); clear HB; have HB := n0_; clear n0_; (try clear hb); (try clear hb2); (try clear hk); (try clear hi)) | (go_at_call 27; (with_reducible refine (impl_LeastTurn.calls kj9 t418 t435 true _ A30.out).mono ?_); rintro e w86 ⟨rfl, hb⟩; have n0_ := Aside0.mk (below_step (by repeat (first | (with_reducible first | exact HB.out | apply below_alloc | apply pw_below_drewN | apply below_drew1) | exact HB.out)) hb); clear HB; have HB := n0_; clear n0_; (try clear hb); (try clear hb2); (try clear hk); (try clear hi)) | (go_at_call 17; (with_reducible refine (impl_IsBalanced.calls kj9 t418 true true _ A31.out).mono ?_); rintro e w87 ⟨rfl, hb⟩; have n0_ := Aside0.mk (below_step (by repeat (first | (with_reducible first | exact HB.out | apply below_alloc | apply pw_below_drewN | apply below_drew1) | exact HB.out)) hb); clear HB; have HB := n0_; clear n0_; (try clear hb); (try clear hb2); (try clear hk); (try clear hi)) | (go_at_call 39; (with_reducible refine (impl_MirrorWord.calls t418 t439 false _ A32.out).mono ?_); rintro e w88 ⟨rfl, hb⟩; have n0_ := Aside0.mk (below_step (by repeat (first | (with_reducible first | exact HB.out | apply below_alloc | apply pw_below_drewN | apply below_drew1) | exact HB.out)) hb); clear HB; have HB := n0_; clear n0_; (try clear hb); (try clear hb2); (try clear hk); (try clear hi)) | (go_at_call 19; (with_reducible refine (impl_IsChristoffel.calls kj9 t439 t441 t442 _ A33.out).mono ?_); rintro e w89 ⟨rfl, hb⟩; have n0_ := Aside0.mk (below_step (by repeat (first | (with_reducible first | exact HB.out | apply below_alloc | apply pw_below_drewN | apply below_drew1) | exact HB.out)) hb); clear HB; have HB := n0_; clear n0_; (try clear hb); (try clear hb2); (try clear hk); (try clear hi)) | (go_at_call 34; (with_reducible refine (impl_TurnsOf.calls kj9 t418 t443 t444 _ A34.out).mono ?_); rintro e w90 ⟨v445, rfl, ho0, hb⟩; have n0_ := Aside0.mk (Kd.R_lower ho0 (below_size (by repeat (first | (with_reducible first | exact HB.out | apply below_alloc | apply pw_below_drewN | apply below_drew1) | exact HB.out)))); have n1_ := Aside0.mk (below_step (by repeat (first | (with_reducible first | exact HB.out | apply below_alloc | apply pw_below_drewN | apply below_drew1) | exact HB.out)) hb); clear HB; have HO446 := n0_; have HB := n1_; clear n0_ n1_; (try clear hb); (try clear hb2); (try clear hk); (try clear hi); (try clear ho0))))
               go_ret
               exact ⟨by first | rfl | (simp [errW_none, errW_some] <;> rfl) | (simp [*, errW_none, errW_some] <;> rfl), by repeat (first | (with_reducible first | exact HB.out | apply below_alloc | apply pw_below_drewN | apply below_drew1) | exact HB.out)⟩
             ·replace c41 := Bool.eq_false_iff.mpr c41
              subst c41
              have H1 : (some false) = some r := by rw [if_neg (show ¬ (false = true) by decide)] at H; exact H
              clear H; have H := H1; clear H1
              obtain rfl := Option.some.inj H
              go_wp2_with (first | (go_at_call 15; (with_reducible refine (impl_CountsOf.calls t418 t430 t431 true _ A28.out).mono ?_); rintro e w91 ⟨rfl, hb⟩; have n0_ := Aside0.mk (below_step (by repeat (first | (with_reducible first | exact HB.out | apply below_alloc | apply pw_below_drewN | apply below_drew1) | exact HB.out)) hb); clear HB; have HB := n0_; clear n0_; (try clear hb); (try clear hb2); (try clear hk); (try clear hi)) | (go_at_call 38; (with_reducible refine (impl_ChristoffelOf.calls kj9 t430 t431 t433 true _ A29.out).mono ?_); rintro e w92 ⟨rfl, hb⟩; have n0_ := Aside0.mk (below_step (by repeat (first | (with_reducible first | exact HB.out | apply below_alloc | apply pw_below_drewN | apply below_drew1) | exact HB.out)) hb); clear HB; have HB := n0_; clear n0_; (try clear hb); (try clear hb2); (try clear hk); (try clear hi)) | (go_at_call 27; (with_reducible refine (impl_LeastTurn.calls kj9 t418 t435 true _ A30.out).mono ?_); rintro e w93 ⟨rfl, hb⟩; have n0_ := Aside0.mk (below_step (by repeat (first | (with_reducible first | exact HB.out | apply below_alloc | apply pw_below_drewN | apply below_drew1) | exact HB.out)) hb); clear HB; have HB := n0_; clear n0_; (try clear hb); (try clear hb2); (try clear hk); (try clear hi)) | (go_at_call 17; (with_reducible refine (impl_IsBalanced.calls kj9 t418 false true _ A31.out).mono ?_); rintro e w94 ⟨rfl, hb⟩; have n0_ := Aside0.mk (below_step (by repeat (first | (with_reducible first | exact HB.out | apply below_alloc | apply pw_below_drewN | apply below_drew1) | exact HB.out)) hb); clear HB; have HB := n0_; clear n0_; (try clear hb); (try clear hb2); (try clear hk); (try clear hi)) | (go_at_call 39; (with_reducible refine (impl_MirrorWord.calls t418 t439 t440 _ A32.out).mono ?_); rintro e w95 ⟨rfl, hb⟩; have n0_ := Aside0.mk (below_step (by repeat (first | (with_reducible first | exact HB.out | apply below_alloc | apply pw_below_drewN | apply below_drew1) | exact HB.out)) hb); clear HB; have HB := n0_; clear n0_; (try clear hb); (try clear hb2); (try clear hk); (try clear hi)) | (go_at_call 19; (with_reducible refine (impl_IsChristoffel.calls kj9 t439 t441 t442 _ A33.out).mono ?_); rintro e w96 ⟨rfl, hb⟩; have n0_ := Aside0.mk (below_step (by repeat (first | (with_reducible first | exact HB.out | apply below_alloc | apply pw_below_drewN | apply below_drew1) | exact HB.out)) hb); clear HB; have HB := n0_; clear n0_; (try clear hb); (try clear hb2); (try clear hk); (try clear hi)) | (go_at_call 34; (with_reducible refine (impl_TurnsOf.calls kj9 t418 t443 t444 _ A34.out).mono ?_); rintro e w97 ⟨v445, rfl, ho0, hb⟩; have n0_ := Aside0.mk (Kd.R_lower ho0 (below_size (by repeat (first | (with_reducible first | exact HB.out | apply below_alloc | apply pw_below_drewN | apply below_drew1) | exact HB.out)))); have n1_ := Aside0.mk (below_step (by repeat (first | (with_reducible first | exact HB.out | apply below_alloc | apply pw_below_drewN | apply below_drew1) | exact HB.out)) hb); clear HB; have HO446 := n0_; have HB := n1_; clear n0_ n1_; (try clear hb); (try clear hb2); (try clear hk); (try clear hi); (try clear ho0)))
              repeat (go_quiet (first | (go_at_call 15; (with_reducible refine (impl_CountsOf.calls t418 t430 t431 true _ A28.out).mono ?_); rintro e w91 ⟨rfl, hb⟩; have n0_ := Aside0.mk (below_step (by repeat (first | (with_reducible first | exact HB.out | apply below_alloc | apply pw_below_drewN | apply below_drew1) | exact HB.out)) hb); clear HB; have HB := n0_; clear n0_; (try clear hb); (try clear hb2); (try clear hk); (try clear hi)) | (go_at_call 38; (with_reducible refine (impl_ChristoffelOf.calls kj9 t430 t431 t433 true _ A29.out).mono ?_); rintro e w92 ⟨rfl, hb⟩; have n0_ := Aside0.mk (below_step (by repeat (first | (with_reducible first | exact HB.out | apply below_alloc | apply pw_below_drewN | apply below_drew1) | exact HB.out)) hb); clear HB; have HB := n0_; clear n0_; (try clear hb); (try clear hb2); (try clear hk); (try clear hi)) | (go_at_call 27; (with_reducible refine (impl_LeastTurn.calls kj9 t418 t435 true _ A30.out).mono ?_); rintro e w93 ⟨rfl, hb⟩; have n0_ := Aside0.mk (below_step (by repeat (first | (with_reducible first | exact HB.out | apply below_alloc | apply pw_below_drewN | apply below_drew1) | exact HB.out)) hb); clear HB; have HB := n0_; clear n0_; (try clear hb); (try clear hb2); (try clear hk); (try clear hi)) | (go_at_call 17; (with_reducible refine (impl_IsBalanced.calls kj9 t418 false true _ A31.out).mono ?_); rintro e w94 ⟨rfl, hb⟩; have n0_ := Aside0.mk (below_step (by repeat (first | (with_reducible first | exact HB.out | apply below_alloc | apply pw_below_drewN | apply below_drew1) | exact HB.out)) hb); clear HB; have HB := n0_; clear n0_; (try clear hb); (try clear hb2); (try clear hk); (try clear hi)) | (go_at_call 39; (with_reducible refine (impl_MirrorWord.calls t418 t439 t440 _ A32.out).mono ?_); rintro e w95 ⟨rfl, hb⟩; have n0_ := Aside0.mk (below_step (by repeat (first | (with_reducible first | exact HB.out | apply below_alloc | apply pw_below_drewN | apply below_drew1) | exact HB.out)) hb); clear HB; have HB := n0_; clear n0_; (try clear hb); (try clear hb2); (try clear hk); (try clear hi)) | (go_at_call 19; (with_reducible refine (impl_IsChristoffel.calls kj9 t439 t441 t442 _ A33.out).mono ?_); rintro e w96 ⟨rfl, hb⟩; have n0_ := Aside0.mk (below_step (by repeat (first | (with_reducible first | exact HB.out | apply below_alloc | apply pw_below_drewN | apply below_drew1) | exact HB.out)) hb); clear HB; have HB := n0_; clear n0_; (try clear hb); (try clear hb2); (try clear hk); (try clear hi)) | (go_at_call 34; (with_reducible refine (impl_TurnsOf.calls kj9 t418 t443 t444 _ A34.out).mono ?_); rintro e w97 ⟨v445, rfl, ho0, hb⟩; have n0_ := Aside0.mk (Kd.R_lower ho0 (below_size (by repeat (first | (with_reducible first | exact HB.out | apply below_alloc | apply pw_below_drewN | apply below_drew1) | exact HB.out)))); have n1_ := Aside0.mk (below_step (by repeat (first | (with_reducible first | exact HB.out | apply below_alloc | apply pw_below_drewN | apply below_drew1) | exact HB.out)) hb); clear HB; have HO446 := n0_; have HB := n1_; clear n0_ n1_; (try clear hb); (try clear hb2); (try clear hk); (try clear hi); (try clear ho0))); try go_wp2_with (first | (go_at_call 15; (with_reducible refine (impl_CountsOf.calls t418 t430 t431 true _ A28.out).mono ?_); rintro e w91 ⟨rfl, hb⟩; have n0_ := Aside0.mk (below_step (by repeat (first | (with_reducible first | exact HB.out | apply below_alloc | apply pw_below_drewN | apply below_drew1) | exact HB.out)) hb); clear HB; have HB := n0_; clear n0_; (try clear hb); (try clear hb2); (try clear hk); (try clear hi)) | (go_at_call 38; (with_reducible refine (impl_ChristoffelOf.calls kj9 t430 t431 t433 true _ A29.out).mono ?_); rintro e w92 ⟨rfl, hb⟩; have n0_ := Aside0.mk (below_step (by repeat (first | (with_reducible first | exact HB.out | apply below_alloc | apply pw_below_drewN | apply below_drew1) | exact HB.out)) hb); clear HB; have HB := n0_; clear n0_; (try clear hb); (try clear hb2); (try clear hk); (try clear hi)) | (go_at_call 27; (with_reducible refine (impl_LeastTurn.calls kj9 t418 t435 true _ A30.out).mono ?_); rintro e w93 ⟨rfl, hb⟩; have n0_ := Aside0.mk (below_step (by repeat (first | (with_reducible first | exact HB.out | apply below_alloc | apply pw_below_drewN | apply below_drew1) | exact HB.out)) hb); clear HB; have HB := n0_; clear n0_; (try clear hb); (try clear hb2); (try clear hk); (try clear hi)) | (go_at_call 17; (with_reducible refine (impl_IsBalanced.calls kj9 t418 false true _ A31.out).mono ?_); rintro e w94 ⟨rfl, hb⟩; have n0_ := Aside0.mk (below_step (by repeat (first | (with_reducible first | exact HB.out | apply below_alloc | apply pw_below_drewN | apply below_drew1) | exact HB.out)) hb); clear HB; have HB := n0_; clear n0_; (try clear hb); (try clear hb2); (try clear hk); (try clear hi)) | (go_at_call 39; (with_reducible refine (impl_MirrorWord.calls t418 t439 t440 _ A32.out).mono ?_); rintro e w95 ⟨rfl, hb⟩; have n0_ := Aside0.mk (below_step (by repeat (first | (with_reducible first | exact HB.out | apply below_alloc | apply pw_below_drewN | apply below_drew1) | exact HB.out)) hb); clear HB; have HB := n0_; clear n0_; (try clear hb); (try clear hb2); (try clear hk); (try clear hi)) | (go_at_call 19; (with_reducible refine (impl_IsChristoffel.calls kj9 t439 t441 t442 _ A33.out).mono ?_); rintro e w96 ⟨rfl, hb⟩; have n0_ := Aside0.mk (below_step (by repeat (first | (with_reducible first | exact HB.out | apply below_alloc | apply pw_below_drewN | apply below_drew1) | exact HB.out)) hb); clear HB; have HB := n0_; clear n0_; (try clear hb); (try clear hb2); (try clear hk); (try clear hi)) | (go_at_call 34; (with_reducible refine (impl_TurnsOf.calls kj9 t418 t443 t444 _ A34.out).mono ?_); rintro e w97 ⟨v445, rfl, ho0, hb⟩; have n0_ := Aside0.mk (Kd.R_lower ho0 (below_size (by repeat (first | (with_reducible first | exact HB.out | apply below_alloc | apply pw_below_drewN | apply below_drew1) | exact HB.out)))); have n1_ := Aside0.mk (below_step (by repeat (first | (with_reducible first | exact HB.out | apply below_alloc | apply pw_below_drewN | apply below_drew1) | exact HB.out)) hb); clear HB; have HO446 := n0_; have HB := n1_; clear n0_ n1_; (try clear hb); (try clear hb2); (try clear hk); (try clear hi); (try clear ho0))))
              go_ret
              exact ⟨by first | rfl | (simp [errW_none, errW_some] <;> rfl) | (simp [*, errW_none, errW_some] <;> rfl), by repeat (first | (with_reducible first | exact HB.out | apply below_alloc | apply pw_below_drewN | apply below_drew1) | exact HB.out)⟩
            ·replace c40 := Bool.eq_false_iff.mpr c40
             subst c40
             have H1 : (some false) = some r := by rw [if_neg (show ¬ (false = true) by decide)] at H; exact H
             clear H; have H := H1; clear H1
             obtain rfl := Option.some.inj H
             go_wp2_with (first | (go_at_call 15; (with_reducible refine (impl_CountsOf.calls t418 t430 t431 true _ A28.out).mono ?_); rintro e w98 ⟨rfl, hb⟩; have n0_ := Aside0.mk (below_step (by repeat (first | (with_reducible first | exact HB.out | apply below_alloc | apply pw_below_drewN | apply below_drew1) | exact HB.out)) hb); clear HB; have HB := n0_; clear n0_; (try clear hb); (try clear hb2); (try clear hk); (try clear hi)) | (go_at_call 38; (with_reducible refine (impl_ChristoffelOf.calls kj9 t430 t431 t433 true _ A29.out).mono ?_); rintro e w99 ⟨rfl, hb⟩; have n0_ := Aside0.mk (below_step (by repeat (first | (with_reducible first | exact HB.out | apply below_alloc | apply pw_below_drewN | apply below_drew1) | exact HB.out)) hb); clear HB; have HB := n0_; clear n0_; (try clear hb); (try clear hb2); (try clear hk); (try clear hi)) | (go_at_call 27; (with_reducible refine (impl_LeastTurn.calls kj9 t418 t435 true _ A30.out).mono ?_); rintro e w100 ⟨rfl, hb⟩; have n0_ := Aside0.mk (below_step (by repeat (first | (with_reducible first | exact HB.out | apply below_alloc | apply pw_below_drewN | apply below_drew1) | exact HB.out)) hb); clear HB; have HB := n0_; clear n0_; (try clear hb); (try clear hb2); (try clear hk); (try clear hi)) | (go_at_call 17; (with_reducible refine (impl_IsBalanced.calls kj9 t418 t437 false _ A31.out).mono ?_); rintro e w101 ⟨rfl, hb⟩; have n0_ := Aside0.mk (below_step (by repeat (first | (with_reducible first | exact HB.out | apply below_alloc | apply pw_below_drewN | apply below_drew1) | exact HB.out)) hb); clear HB; have HB := n0_; clear n0_; (try clear hb); (try clear hb2); (try clear hk); (try clear hi)) | (go_at_call 39; (with_reducible refine (impl_MirrorWord.calls t418 t439 t440 _ A32.out).mono ?_); rintro e w102 ⟨rfl, hb⟩; have n0_ := Aside0.mk (below_step (by repeat (first | (with_reducible first | exact HB.out | apply below_alloc | apply pw_below_drewN | apply below_drew1) | exact HB.out)) hb); clear HB; have HB := n0_; clear n0_; (try clear hb); (try clear hb2); (try clear hk); (try clear hi)) | (go_at_call 19; (with_reducible refine (impl_IsChristoffel.calls kj9 t439 t441 t442 _ A33.out).mono ?_); rintro e w103 ⟨rfl, hb⟩; have n0_ := Aside0.mk (below_step (by repeat (first | (with_reducible first | exact HB.out | apply below_alloc | apply pw_below_drewN | apply below_drew1) | exact HB.out)) hb); clear HB; have HB := n0_; clear n0_; (try clear hb); (try clear hb2); (try clear hk); (try clear hi)) | (go_at_call 34; (with_reducible refine (impl_TurnsOf.calls kj9 t418 t443 t444 _ A34.out).mono ?_); rintro e w104 ⟨v445, rfl, ho0, hb⟩; have n0_ := Aside0.mk (Kd.R_lower ho0 (below_size (by repeat (first | (with_reducible first | exact HB.out | apply below_alloc | apply pw_below_drewN | apply below_drew1) | exact HB.out)))); have n1_ := Aside0.mk (below_step (by repeat (first | (with_reducible first | exact HB.out | apply below_alloc | apply pw_below_drewN | apply below_drew1) | exact HB.out)) hb); clear HB; have HO446 := n0_; have HB := n1_; clear n0_ n1_; (try clear hb); (try clear hb2); (try clear hk); (try clear hi); (try clear ho0)))
             repeat (go_quiet (first | (go_at_call 15; (with_reducible refine (impl_CountsOf.calls t418 t430 t431 true _ A28.out).mono ?_); rintro e w98 ⟨rfl, hb⟩; have n0_ := Aside0.mk (below_step (by repeat (first | (with_reducible first | exact HB.out | apply below_alloc | apply pw_below_drewN | apply below_drew1) | exact HB.out)) hb); clear HB; have HB := n0_; clear n0_; (try clear hb); (try clear hb2); (try clear hk); (try clear hi)) | (go_at_call 38; (with_reducible refine (impl_ChristoffelOf.calls kj9 t430 t431 t433 true _ A29.out).mono ?_); rintro e w99 ⟨rfl, hb⟩; have n0_ := Aside0.mk (below_step (by repeat (first | (with_reducible first | exact HB.out | apply below_alloc | apply pw_below_drewN | apply below_drew1) | exact HB.out)) hb); clear HB; have HB := n0_; clear n0_; (try clear hb); (try clear hb2); (try clear hk); (try clear hi)) | (go_at_call 27; (with_reducible refine (impl_LeastTurn.calls kj9 t418 t435 true _ A30.out).mono ?_); rintro e w100 ⟨rfl, hb⟩; have n0_ := Aside0.mk (below_step (by repeat (first | (with_reducible first | exact HB.out | apply below_alloc | apply pw_below_drewN | apply below_drew1) | exact HB.out)) hb); clear HB; have HB := n0_; clear n0_; (try clear hb); (try clear hb2); (try clear hk); (try clear hi)) | (go_at_call 17; (with_reducible refine (impl_IsBalanced.calls kj9 t418 t437 false _ A31.out).mono ?_); rintro e w101 ⟨rfl, hb⟩; have n0_ := Aside0.mk (below_step (by repeat (first | (with_reducible first | exact HB.out | apply below_alloc | apply pw_below_drewN | apply below_drew1) | exact HB.out)) hb); clear HB; have HB := n0_; clear n0_; (try clear hb); (try clear hb2); (try clear hk); (try clear hi)) | (go_at_call 39; (with_reducible refine (impl_MirrorWord.calls t418 t439 t440 _ A32.out).mono ?_); rintro e w102 ⟨rfl, hb⟩; have n0_ := Aside0.mk (below_step (by repeat (first | (with_reducible first | exact HB.out | apply below_alloc | apply pw_below_drewN | apply below_drew1) | exact HB.out)) hb); clear HB; have HB := n0_; clear n0_; (try clear hb); (try clear hb2); (try clear hk); (try clear hi)) | (go_at_call 19; (with_reducible refine (impl_IsChristoffel.calls kj9 t439 t441 t442 _ A33.out).mono ?_); rintro e w103 ⟨rfl, hb⟩; have n0_ := Aside0.mk (below_step (by repeat (first | (with_reducible first | exact HB.out | apply below_alloc | apply pw_below_drewN | apply below_drew1) | exact HB.out)) hb); clear HB; have HB := n0_; clear n0_; (try clear hb); (try clear hb2); (try clear hk); (try clear hi)) | (go_at_call 34; (with_reducible refine (impl_TurnsOf.calls kj9 t418 t443 t444 _ A34.out).mono ?_); rintro e w104 ⟨v445, rfl, ho0, hb⟩; have n0_ := Aside0.mk (Kd.R_lower ho0 (below_size (by repeat (first | (with_reducible first | exact HB.out | apply below_alloc | apply pw_below_drewN | apply below_drew1) | exact HB.out)))); have n1_ := Aside0.mk (below_step (by repeat (first | (with_reducible first | exact HB.out | apply below_alloc | apply pw_below_drewN | apply below_drew1) | exact HB.out)) hb); clear HB; have HO446 := n0_; have HB := n1_; clear n0_ n1_; (try clear hb); (try clear hb2); (try clear hk); (try clear hi); (try clear ho0))); try go_wp2_with (first | (go_at_call 15; (with_reducible refine (impl_CountsOf.calls t418 t430 t431 true _ A28.out).mono ?_); rintro e w98 ⟨rfl, hb⟩; have n0_ := Aside0.mk (below_step (by repeat (first | (with_reducible first | exact HB.out | apply below_alloc | apply pw_below_drewN | apply below_drew1) | exact HB.out)) hb); clear HB; have HB := n0_; clear n0_; (try clear hb); (try clear hb2); (try clear hk); (try clear hi)) | (go_at_call 38; (with_reducible refine (impl_ChristoffelOf.calls kj9 t430 t431 t433 true _ A29.out).mono ?_); rintro e w99 ⟨rfl, hb⟩; have n0_ := Aside0.mk (below_step (by repeat (first | (with_reducible first | exact HB.out | apply below_alloc | apply pw_below_drewN | apply below_drew1) | exact HB.out)) hb); clear HB; have HB := n0_; clear n0_; (try clear hb); (try clear hb2); (try clear hk); (try clear hi)) | (go_at_call 27; (with_reducible refine (impl_LeastTurn.calls kj9 t418 t435 true _ A30.out).mono ?_); rintro e w100 ⟨rfl, hb⟩; have n0_ := Aside0.mk (below_step (by repeat (first | (with_reducible first | exact HB.out | apply below_alloc | apply pw_below_drewN | apply below_drew1) | exact HB.out)) hb); clear HB; have HB := n0_; clear n0_; (try clear hb); (try clear hb2); (try clear hk); (try clear hi)) | (go_at_call 17; (with_reducible refine (impl_IsBalanced.calls kj9 t418 t437 false _ A31.out).mono ?_); rintro e w101 ⟨rfl, hb⟩; have n0_ := Aside0.mk (below_step (by repeat (first | (with_reducible first | exact HB.out | apply below_alloc | apply pw_below_drewN | apply below_drew1) | exact HB.out)) hb); clear HB; have HB := n0_; clear n0_; (try clear hb); (try clear hb2); (try clear hk); (try clear hi)) | (go_at_call 39; (with_reducible refine (impl_MirrorWord.calls t418 t439 t440 _ A32.out).mono ?_); rintro e w102 ⟨rfl, hb⟩; have n0_ := Aside0.mk (below_step (by repeat (first | (with_reducible first | exact HB.out | apply below_alloc | apply pw_below_drewN | apply below_drew1) | exact HB.out)) hb); clear HB; have HB := n0_; clear n0_; (try clear hb); (try clear hb2); (try clear hk); (try clear hi)) | (go_at_call 19; (with_reducible refine (impl_IsChristoffel.calls kj9 t439 t441 t442 _ A33.out).mono ?_); rintro e w103 ⟨rfl, hb⟩; have n0_ := Aside0.mk (below_step (by repeat (first | (with_reducible first | exact HB.out | apply below_alloc | apply pw_below_drewN | apply below_drew1) | exact HB.out)) hb); clear HB; have HB := n0_; clear n0_; (try clear hb); (try clear hb2); (try clear hk); (try clear hi)) | (go_at_call 34; (with_reducible refine (impl_TurnsOf.calls kj9 t418 t443 t444 _ A34.out).mono ?_); rintro e w104 ⟨v445, rfl, ho0, hb⟩; have n0_ := Aside0.mk (Kd.R_lower ho0 (below_size (by repeat (first | (with_reducible first | exact HB.out | apply below_alloc | apply pw_below_drewN | apply below_drew1) | exact HB.out)))); have n1_ := Aside0.mk (below_step (by repeat (first | (with_reducible first | exact HB.out | apply below_alloc | apply pw_below_drewN | apply below_drew1) | exact HB.out)) hb); clear HB; have HO446 := n0_; have HB := n1_; clear n0_ n1_; (try clear hb); (try clear hb2); (try clear hk); (try clear hi); (try clear ho0))))
             go_ret
             exact ⟨by first | rfl | (simp [errW_none, errW_some] <;> rfl) | (simp [*, errW_none, errW_some] <;> rfl), by repeat (first | (with_reducible first | exact HB.out | apply below_alloc | apply pw_below_drewN | apply below_drew1) | exact HB.out)⟩
           ·rw [if_neg c39] at H
            have c39b0 : (t435.toList == t418.toList) = false := beq_eq_false_iff_ne.mpr c39
            have c39b1 : (t435.toList != t418.toList) = true := bne_iff_ne.mpr c39
            obtain rfl := Option.some.inj H
            go_wp2_with (first | (go_at_call 15; (with_reducible refine (impl_CountsOf.calls t418 t430 t431 true _ A28.out).mono ?_); rintro e w105 ⟨rfl, hb⟩; have n0_ := Aside0.mk (below_step (by repeat (first | (with_reducible first | exact HB.out | apply below_alloc | apply pw_below_drewN | apply below_drew1) | exact HB.out)) hb); clear HB; have HB := n0_; clear n0_; (try clear hb); (try clear hb2); (try clear hk); (try clear hi)) | (go_at_call 38; (with_reducible refine (impl_ChristoffelOf.calls kj9 t430 t431 t433 true _ A29.out).mono ?_); rintro e w106 ⟨rfl, hb⟩; have n0_ := Aside0.mk (below_step (by repeat (first | (with_reducible first | exact HB.out | apply below_alloc | apply pw_below_drewN | apply below_drew1) | exact HB.out)) hb); clear HB; have HB := n0_; clear n0_; (try clear hb); (try clear hb2); (try clear hk); (try clear hi)) | (go_at_call 27; (with_reducible refine (impl_LeastTurn.calls kj9 t418 t435 true _ A30.out).mono ?_); rintro e w107 ⟨rfl, hb⟩; have n0_ := Aside0.mk (below_step (by repeat (first | (with_reducible first | exact HB.out | apply below_alloc | apply pw_below_drewN | apply below_drew1) | exact HB.out)) hb); clear HB; have HB := n0_; clear n0_; (try clear hb); (try clear hb2); (try clear hk); (try clear hi)) | (go_at_call 17; (with_reducible refine (impl_IsBalanced.calls kj9 t418 t437 t438 _ A31.out).mono ?_); rintro e w108 ⟨rfl, hb⟩; have n0_ := Aside0.mk (below_step (by repeat (first | (with_reducible first | exact HB.out | apply below_alloc | apply pw_below_drewN | apply below_drew1) | exact HB.out)) hb); clear HB; have HB := n0_; clear n0_; (try clear hb); (try clear hb2); (try clear hk); (try clear hi)) | (go_at_call 39; (with_reducible refine (impl_MirrorWord.calls t418 t439 t440 _ A32.out).mono ?_); rintro e w109 ⟨rfl, hb⟩; have n0_ := Aside0.mk (below_step (by repeat (first | (with_reducible first | exact HB.out | apply below_alloc | apply pw_below_drewN | apply below_drew1) | exact HB.out)) hb); clear HB; have HB := n0_; clear n0_; (try clear hb); (try clear hb2); (try clear hk); (try clear hi)) | (go_at_call 19; (with_reducible refine (impl_IsChristoffel.calls kj9 t439 t441 t442 _ A33.out).mono ?_); rintro e w110 ⟨rfl, hb⟩; have n0_ := Aside0.mk (below_step (by repeat (first | (with_reducible first | exact HB.out | apply below_alloc | apply pw_below_drewN | apply below_drew1) | exact HB.out)) hb); clear HB; have HB := n0_; clear n0_; (try clear hb); (try clear hb2); (try clear hk); (try clear hi)) | (go_at_call 34; (with_reducible refine (impl_TurnsOf.calls kj9 t418 t443 t444 _ A34.out).mono ?_); rintro e w111 ⟨v445, rfl, ho0, hb⟩; have n0_ := Aside0.mk (Kd.R_lower ho0 (below_size (by repeat (first | (with_reducible first | exact HB.out | apply below_alloc | apply pw_below_drewN | apply below_drew1) | exact HB.out)))); have n1_ := Aside0.mk (below_step (by repeat (first | (with_reducible first | exact HB.out | apply below_alloc | apply pw_below_drewN | apply below_drew1) | exact HB.out)) hb); clear HB; have HO446 := n0_; have HB := n1_; clear n0_ n1_; (try clear hb); (try clear hb2); (try clear hk); (try clear hi); (try clear ho0)))
            repeat (go_quiet (first | (go_at_call 15; (with_reducible refine (impl_CountsOf.calls t418 t430 t431 true _ A28.out).mono ?_); rintro e w105 ⟨rfl, hb⟩; have n0_ := Aside0.mk (below_step (by repeat (first | (with_reducible first | exact HB.out | apply below_alloc | apply pw_below_drewN | apply below_drew1) | exact HB.out)) hb); clear HB; have HB := n0_; clear n0_; (try clear hb); (try clear hb2); (try clear hk); (try clear hi)) | (go_at_call 38; (with_reducible refine (impl_ChristoffelOf.calls kj9 t430 t431 t433 true _ A29.out).mono ?_); rintro e w106 ⟨rfl, hb⟩; have n0_ := Aside0.mk (below_step (by repeat (first | (with_reducible first | exact HB.out | apply below_alloc | apply pw_below_drewN | apply below_drew1) | exact HB.out)) hb); clear HB; have HB := n0_; clear n0_; (try clear hb); (try clear hb2); (try clear hk); (try clear hi)) | (go_at_call 27; (with_reducible refine (impl_LeastTurn.calls kj9 t418 t435 true _ A30.out).mono ?_); rintro e w107 ⟨rfl, hb⟩; have n0_ := Aside0.mk (below_step (by repeat (first | (with_reducible first | exact HB.out | apply below_alloc | apply pw_below_drewN | apply below_drew1) | exact HB.out)) hb); clear HB; have HB := n0_; clear n0_; (try clear hb); (try clear hb2); (try clear hk); (try clear hi)) | (go_at_call 17; (with_reducible refine (impl_IsBalanced.calls kj9 t418 t437 t438 _ A31.out).mono ?_); rintro e w108 ⟨rfl, hb⟩; have n0_ := Aside0.mk (below_step (by repeat (first | (with_reducible first | exact HB.out | apply below_alloc | apply pw_below_drewN | apply below_drew1) | exact HB.out)) hb); clear HB; have HB := n0_; clear n0_; (try clear hb); (try clear hb2); (try clear hk); (try clear hi)) | (go_at_call 39; (with_reducible refine (impl_MirrorWord.calls t418 t439 t440 _ A32.out).mono ?_); rintro e w109 ⟨rfl, hb⟩; have n0_ := Aside0.mk (below_step (by repeat (first | (with_reducible first | exact HB.out | apply below_alloc | apply pw_below_drewN | apply below_drew1) | exact HB.out)) hb); clear HB; have HB := n0_; clear n0_; (try clear hb); (try clear hb2); (try clear hk); (try clear hi)) | (go_at_call 19; (with_reducible refine (impl_IsChristoffel.calls kj9 t439 t441 t442 _ A33.out).mono ?_); rintro e w110 ⟨rfl, hb⟩; have n0_ := Aside0.mk (below_step (by repeat (first | (with_reducible first | exact HB.out | apply below_alloc | apply pw_below_drewN | apply below_drew1) | exact HB.out)) hb); clear HB; have HB := n0_; clear n0_; (try clear hb); (try clear hb2); (try clear hk); (try clear hi)) | (go_at_call 34; (with_reducible refine (impl_TurnsOf.calls kj9 t418 t443 t444 _ A34.out).mono ?_); rintro e w111 ⟨v445, rfl, ho0, hb⟩; have n0_ := Aside0.mk (Kd.R_lower ho0 (below_size (by repeat (first | (with_reducible first | exact HB.out | apply below_alloc | apply pw_below_drewN | apply below_drew1) | exact HB.out)))); have n1_ := Aside0.mk (below_step (by repeat (first | (with_reducible first | exact HB.out | apply below_alloc | apply pw_below_drewN | apply below_drew1) | exact HB.out)) hb); clear HB; have HO446 := n0_; have HB := n1_; clear n0_ n1_; (try clear hb); (try clear hb2); (try clear hk); (try clear hi); (try clear ho0))); try go_wp2_with (first | (go_at_call 15; (with_reducible refine (impl_CountsOf.calls t418 t430 t431 true _ A28.out).mono ?_); rintro e w105 ⟨rfl, hb⟩; have n0_ := Aside0.mk (below_step (by repeat (first | (with_reducible first | exact HB.out | apply below_alloc | apply pw_below_drewN | apply below_drew1) | exact HB.out)) hb); clear HB; have HB := n0_; clear n0_; (try clear hb); (try clear hb2); (try clear hk); (try clear hi)) | (go_at_call 38; (with_reducible refine (impl_ChristoffelOf.calls kj9 t430 t431 t433 true _ A29.out).mono ?_); rintro e w106 ⟨rfl, hb⟩; have n0_ := Aside0.mk (below_step (by repeat (first | (with_reducible first | exact HB.out | apply below_alloc | apply pw_below_drewN | apply below_drew1) | exact HB.out)) hb); clear HB; have HB := n0_; clear n0_; (try clear hb); (try clear hb2); (try clear hk); (try clear hi)) | (go_at_call 27; (with_reducible refine (impl_LeastTurn.calls kj9 t418 t435 true _ A30.out).mono ?_); rintro e w107 ⟨rfl, hb⟩; have n0_ := Aside0.mk (below_step (by repeat (first | (with_reducible first | exact HB.out | apply below_alloc | apply pw_below_drewN | apply below_drew1) | exact HB.out)) hb); clear HB; have HB := n0_; clear n0_; (try clear hb); (try clear hb2); (try clear hk); (try clear hi)) | (go_at_call 17; (with_reducible refine (impl_IsBalanced.calls kj9 t418 t437 t438 _ A31.out).mono ?_); rintro e w108 ⟨rfl, hb⟩; have n0_ := Aside0.mk (below_step (by repeat (first | (with_reducible first | exact HB.out | apply below_alloc | apply pw_below_drewN | apply below_drew1) | exact HB.out)) hb); clear HB; have HB := n0_; clear n0_; (try clear hb); (try clear hb2); (try clear hk); (try clear hi)) | (go_at_call 39; (with_reducible refine (impl_MirrorWord.calls t418 t439 t440 _ A32.out).mono ?_); rintro e w109 ⟨rfl, hb⟩; have n0_ := Aside0.mk (below_step (by repeat (first | (with_reducible first | exact HB.out | apply below_alloc | apply pw_below_drewN | apply below_drew1) | exact HB.out)) hb); clear HB; have HB := n0_; clear n0_; (try clear hb); (try clear hb2); (try clear hk); (try clear hi)) | (go_at_call 19; (with_reducible refine (impl_IsChristoffel.calls kj9 t439 t441 t442 _ A33.out).mono ?_); rintro e w110 ⟨rfl, hb⟩; have n0_ := Aside0.mk (below_step (by repeat (first | (with_reducible first | exact HB.out | apply below_alloc | apply pw_below_drewN | apply below_drew1) | exact HB.out)) hb); clear HB; have HB := n0_; clear n0_; (try clear hb); (try clear hb2); (try clear hk); (try clear hi)) | (go_at_call 34; (with_reducible refine (impl_TurnsOf.calls kj9 t418 t443 t444 _ A34.out).mono ?_); rintro e w111 ⟨v445, rfl, ho0, hb⟩; have n0_ := Aside0.mk (Kd.R_lower ho0 (below_size (by repeat (first | (with_reducible first | exact HB.out | apply below_alloc | apply pw_below_drewN | apply below_drew1) | exact HB.out)))); have n1_ := Aside0.mk (below_step (by repeat (first | (with_reducible first | exact HB.out | apply below_alloc | apply pw_below_drewN | apply below_drew1) | exact HB.out)) hb); clear HB; have HO446 := n0_; have HB := n1_; clear n0_ n1_; (try clear hb); (try clear hb2); (try clear hk); (try clear hi); (try clear ho0))))
            go_ret
            exact ⟨by first | rfl | (simp [errW_none, errW_some] <;> rfl) | (simp [*, errW_none, errW_some] <;> rfl), by repeat (first | (with_reducible first | exact HB.out | apply below_alloc | apply pw_below_drewN | apply below_drew1) | exact HB.out)⟩
          ·replace c38 := Bool.eq_false_iff.mpr c38
           subst c38
           have H1 : (some false) = some r := by rw [if_neg (show ¬ (false = true) by decide)] at H; exact H
           clear H; have H := H1; clear H1
           obtain rfl := Option.some.inj H
           go_wp2_with (first | (go_at_call 15; (with_reducible refine (impl_CountsOf.calls t418 t430 t431 true _ A28.out).mono ?_); rintro e w112 ⟨rfl, hb⟩; have n0_ := Aside0.mk (below_step (by repeat (first | (with_reducible first | exact HB.out | apply below_alloc | apply pw_below_drewN | apply below_drew1) | exact HB.out)) hb); clear HB; have HB := n0_; clear n0_; (try clear hb); (try clear hb2); (try clear hk); (try clear hi)) | (go_at_call 38; (with_reducible refine (impl_ChristoffelOf.calls kj9 t430 t431 t433 true _ A29.out).mono ?_); rintro e w113 ⟨rfl, hb⟩; have n0_ := Aside0.mk (below_step (by repeat (first | (with_reducible first | exact HB.out | apply below_alloc | apply pw_below_drewN | apply below_drew1) | exact HB.out)) hb); clear HB; have HB := n0_; clear n0_; (try clear hb); (try clear hb2); (try clear hk); (try clear hi)) | (go_at_call 27; (with_reducible refine (impl_LeastTurn.calls kj9 t418 t435 false _ A30.out).mono ?_); rintro e w114 ⟨rfl, hb⟩; have n0_ := Aside0.mk (below_step (by repeat (first | (with_reducible first | exact HB.out | apply below_alloc | apply pw_below_drewN | apply below_drew1) | exact HB.out)) hb); clear HB; have HB := n0_; clear n0_; (try clear hb); (try clear hb2); (try clear hk); (try clear hi)) | (go_at_call 17; (with_reducible refine (impl_IsBalanced.calls kj9 t418 t437 t438 _ A31.out).mono ?_); rintro e w115 ⟨rfl, hb⟩; have n0_ := Aside0.mk (below_step (by repeat (first | (with_reducible first | exact HB.out | apply below_alloc | apply pw_below_drewN | apply below_drew1) | exact HB.out)) hb); clear HB; have HB := n0_; clear n0_; (try clear hb); (try clear hb2); (try clear hk); (try clear hi)) | (go_at_call 39; (with_reducible refine (impl_MirrorWord.calls t418 t439 t440 _ A32.out).mono ?_); rintro e w116 ⟨rfl, hb⟩; have n0_ := Aside0.mk (below_step (by repeat (first | (with_reducible first | exact HB.out | apply below_alloc | apply pw_below_drewN | apply below_drew1) | exact HB.out)) hb); clear HB; have HB := n0_; clear n0_; (try clear hb); (try clear hb2); (try clear hk); (try clear hi)) | (go_at_call 19; (with_reducible refine (impl_IsChristoffel.calls kj9 t439 t441 t442 _ A33.out).mono ?_); rintro e w117 ⟨rfl, hb⟩; have n0_ := Aside0.mk (below_step (by repeat (first | (with_reducible first | exact HB.out | apply below_alloc | apply pw_below_drewN | apply below_drew1) | exact HB.out)) hb); clear HB; have HB := n0_; clear n0_; (try clear hb); (try clear hb2); (try clear hk); (try clear hi)) | (go_at_call 34; (with_reducible refine (impl_TurnsOf.calls kj9 t418 t443 t444 _ A34.out).mono ?_); rintro e w118 ⟨v445, rfl, ho0, hb⟩; have n0_ := Aside0.mk (Kd.R_lower ho0 (below_size (by repeat (first | (with_reducible first | exact HB.out | apply below_alloc | apply pw_below_drewN | apply below_drew1) | exact HB.out)))); have n1_ := Aside0.mk (below_step (by repeat (first | (with_reducible first | exact HB.out | apply below_alloc | apply pw_below_drewN | apply below_drew1) | exact HB.out)) hb); clear HB; have HO446 := n0_; have HB := n1_; clear n0_ n1_; (try clear hb); (try clear hb2); (try clear hk); (try clear hi); (try clear ho0)))
           repeat (go_quiet (first | (go_at_call 15; (with_reducible refine (impl_CountsOf.calls t418 t430 t431 true _ A28.out).mono ?_); rintro e w112 ⟨rfl, hb⟩; have n0_ := Aside0.mk (below_step (by repeat (first | (with_reducible first | exact HB.out | apply below_alloc | apply pw_below_drewN | apply below_drew1) | exact HB.out)) hb); clear HB; have HB := n0_; clear n0_; (try clear hb); (try clear hb2); (try clear hk); (try clear hi)) | (go_at_call 38; (with_reducible refine (impl_ChristoffelOf.calls kj9 t430 t431 t433 true _ A29.out).mono ?_); rintro e w113 ⟨rfl, hb⟩; have n0_ := Aside0.mk (below_step (by repeat (first | (with_reducible first | exact HB.out | apply below_alloc | apply pw_below_drewN | apply below_drew1) | exact HB.out)) hb); clear HB; have HB := n0_; clear n0_; (try clear hb); (try clear hb2); (try clear hk); (try clear hi)) | (go_at_call 27; (with_reducible refine (impl_LeastTurn.calls kj9 t418 t435 false _ A30.out).mono ?_); rintro e w114 ⟨rfl, hb⟩; have n0_ := Aside0.mk (below_step (by repeat (first | (with_reducible first | exact HB.out | apply below_alloc | apply pw_below_drewN | apply below_drew1) | exact HB.out)) hb); clear HB; have HB := n0_; clear n0_; (try clear hb); (try clear hb2); (try clear hk); (try clear hi)) | (go_at_call 17; (with_reducible refine (impl_IsBalanced.calls kj9 t418 t437 t438 _ A31.out).mono ?_); rintro e w115 ⟨rfl, hb⟩; have n0_ := Aside0.mk (below_step (by repeat (first | (with_reducible first | exact HB.out | apply below_alloc | apply pw_below_drewN | apply below_drew1) | exact HB.out)) hb); clear HB; have HB := n0_; clear n0_; (try clear hb); (try clear hb2); (try clear hk); (try clear hi)) | (go_at_call 39; (with_reducible refine (impl_MirrorWord.calls t418 t439 t440 _ A32.out).mono ?_); rintro e w116 ⟨rfl, hb⟩; have n0_ := Aside0.mk (below_step (by repeat (first | (with_reducible first | exact HB.out | apply below_alloc | apply pw_below_drewN | apply below_drew1) | exact HB.out)) hb); clear HB; have HB := n0_; clear n0_; (try clear hb); (try clear hb2); (try clear hk); (try clear hi)) | (go_at_call 19; (with_reducible refine (impl_IsChristoffel.calls kj9 t439 t441 t442 _ A33.out).mono ?_); rintro e w117 ⟨rfl, hb⟩; have n0_ := Aside0.mk (below_step (by repeat (first | (with_reducible first | exact HB.out | apply below_alloc | apply pw_below_drewN | apply below_drew1) | exact HB.out)) hb); clear HB; have HB := n0_; clear n0_; (try clear hb); (try clear hb2); (try clear hk); (try clear hi)) | (go_at_call 34; (with_reducible refine (impl_TurnsOf.calls kj9 t418 t443 t444 _ A34.out).mono ?_); rintro e w118 ⟨v445, rfl, ho0, hb⟩; have n0_ := Aside0.mk (Kd.R_lower ho0 (below_size (by repeat (first | (with_reducible first | exact HB.out | apply below_alloc | apply pw_below_drewN | apply below_drew1) | exact HB.out)))); have n1_ := Aside0.mk (below_step (by repeat (first | (with_reducible first | exact HB.out | apply below_alloc | apply pw_below_drewN | apply below_drew1) | exact HB.out)) hb); clear HB; have HO446 := n0_; have HB := n1_; clear n0_ n1_; (try clear hb); (try clear hb2); (try clear hk); (try clear hi); (try clear ho0))); try go_wp2_with (first | (go_at_call 15; (with_reducible refine (impl_CountsOf.calls t418 t430 t431 true _ A28.out).mono ?_); rintro e w112 ⟨rfl, hb⟩; have n0_ := Aside0.mk (below_step (by repeat (first | (with_reducible first | exact HB.out | apply below_alloc | apply pw_below_drewN | apply below_drew1) | exact HB.out)) hb); clear HB; have HB := n0_; clear n0_; (try clear hb); (try clear hb2); (try clear hk); (try clear hi)) | (go_at_call 38; (with_reducible refine (impl_ChristoffelOf.calls kj9 t430 t431 t433 true _ A29.out).mono ?_); rintro e w113 ⟨rfl, hb⟩; have n0_ := Aside0.mk (below_step (by repeat (first | (with_reducible first | exact HB.out | apply below_alloc | apply pw_below_drewN | apply below_drew1) | exact HB.out)) hb); clear HB; have HB := n0_; clear n0_; (try clear hb); (try clear hb2); (try clear hk); (try clear hi)) | (go_at_call 27; (with_reducible refine (impl_LeastTurn.calls kj9 t418 t435 false _ A30.out).mono ?_); rintro e w114 ⟨rfl, hb⟩; have n0_ := Aside0.mk (below_step (by repeat (first | (with_reducible first | exact HB.out | apply below_alloc | apply pw_below_drewN | apply below_drew1) | exact HB.out)) hb); clear HB; have HB := n0_; clear n0_; (try clear hb); (try clear hb2); (try clear hk); (try clear hi)) | (go_at_call 17; (with_reducible refine (impl_IsBalanced.calls kj9 t418 t437 t438 _ A31.out).mono ?_); rintro e w115 ⟨rfl, hb⟩; have n0_ := Aside0.mk (below_step (by repeat (first | (with_reducible first | exact HB.out | apply below_alloc | apply pw_below_drewN | apply below_drew1) | exact HB.out)) hb); clear HB; have HB := n0_; clear n0_; (try clear hb); (try clear hb2); (try clear hk); (try clear hi)) | (go_at_call 39; (with_reducible refine (impl_MirrorWord.calls t418 t439 t440 _ A32.out).mono ?_); rintro e w116 ⟨rfl, hb⟩; have n0_ := Aside0.mk (below_step (by repeat (first | (with_reducible first | exact HB.out | apply below_alloc | apply pw_below_drewN | apply below_drew1) | exact HB.out)) hb); clear HB; have HB := n0_; clear n0_; (try clear hb); (try clear hb2); (try clear hk); (try clear hi)) | (go_at_call 19; (with_reducible refine (impl_IsChristoffel.calls kj9 t439 t441 t442 _ A33.out).mono ?_); rintro e w117 ⟨rfl, hb⟩; have n0_ := Aside0.mk (below_step (by repeat (first | (with_reducible first | exact HB.out | apply below_alloc | apply pw_below_drewN | apply below_drew1) | exact HB.out)) hb); clear HB; have HB := n0_; clear n0_; (try clear hb); (try clear hb2); (try clear hk); (try clear hi)) | (go_at_call 34; (with_reducible refine (impl_TurnsOf.calls kj9 t418 t443 t444 _ A34.out).mono ?_); rintro e w118 ⟨v445, rfl, ho0, hb⟩; have n0_ := Aside0.mk (Kd.R_lower ho0 (below_size (by repeat (first | (with_reducible first | exact HB.out | apply below_alloc | apply pw_below_drewN | apply below_drew1) | exact HB.out)))); have n1_ := Aside0.mk (below_step (by repeat (first | (with_reducible first | exact HB.out | apply below_alloc | apply pw_below_drewN | apply below_drew1) | exact HB.out)) hb); clear HB; have HO446 := n0_; have HB := n1_; clear n0_ n1_; (try clear hb); (try clear hb2); (try clear hk); (try clear hi); (try clear ho0))))
           go_ret
           exact ⟨by first | rfl | (simp [errW_none, errW_some] <;> rfl) | (simp [*, errW_none, errW_some] <;> rfl), by repeat (first | (with_reducible first | exact HB.out | apply below_alloc | apply pw_below_drewN | apply below_drew1) | exact HB.out)⟩
         ·rw [if_neg c37] at H
          have c37b0 : (t433.toList == t418.toList) = false := beq_eq_false_iff_ne.mpr c37
          have c37b1 : (t433.toList != t418.toList) = true := bne_iff_ne.mpr c37
          (first | rw [c37b0] | (simp only [i64_w, i32_w]; rw [c37b0]) | skip)
          obtain rfl := Option.some.inj H
          go_wp2_with (first | (go_at_call 15; (with_reducible refine (impl_CountsOf.calls t418 t430 t431 true _ A28.out).mono ?_); rintro e w119 ⟨rfl, hb⟩; have n0_ := Aside0.mk (below_step (by repeat (first | (with_reducible first | exact HB.out | apply below_alloc | apply pw_below_drewN | apply below_drew1) | exact HB.out)) hb); clear HB; have HB := n0_; clear n0_; (try clear hb); (try clear hb2); (try clear hk); (try clear hi)) | (go_at_call 38; (with_reducible refine (impl_ChristoffelOf.calls kj9 t430 t431 t433 true _ A29.out).mono ?_); rintro e w120 ⟨rfl, hb⟩; have n0_ := Aside0.mk (below_step (by repeat (first | (with_reducible first | exact HB.out | apply below_alloc | apply pw_below_drewN | apply below_drew1) | exact HB.out)) hb); clear HB; have HB := n0_; clear n0_; (try clear hb); (try clear hb2); (try clear hk); (try clear hi)) | (go_at_call 27; (with_reducible refine (impl_LeastTurn.calls kj9 t418 t435 t436 _ A30.out).mono ?_); rintro e w121 ⟨rfl, hb⟩; have n0_ := Aside0.mk (below_step (by repeat (first | (with_reducible first | exact HB.out | apply below_alloc | apply pw_below_drewN | apply below_drew1) | exact HB.out)) hb); clear HB; have HB := n0_; clear n0_; (try clear hb); (try clear hb2); (try clear hk); (try clear hi)) | (go_at_call 17; (with_reducible refine (impl_IsBalanced.calls kj9 t418 t437 t438 _ A31.out).mono ?_); rintro e w122 ⟨rfl, hb⟩; have n0_ := Aside0.mk (below_step (by repeat (first | (with_reducible first | exact HB.out | apply below_alloc | apply pw_below_drewN | apply below_drew1) | exact HB.out)) hb); clear HB; have HB := n0_; clear n0_; (try clear hb); (try clear hb2); (try clear hk); (try clear hi)) | (go_at_call 39; (with_reducible refine (impl_MirrorWord.calls t418 t439 t440 _ A32.out).mono ?_); rintro e w123 ⟨rfl, hb⟩; have n0_ := Aside0.mk (below_step (by repeat (first | (with_reducible first | exact HB.out | apply below_alloc | apply pw_below_drewN | apply below_drew1) | exact HB.out)) hb); clear HB; have HB := n0_; clear n0_; (try clear hb); (try clear hb2); (try clear hk); (try clear hi)) | (go_at_call 19; (with_reducible refine (impl_IsChristoffel.calls kj9 t439 t441 t442 _ A33.out).mono ?_); rintro e w124 ⟨rfl, hb⟩; have n0_ := Aside0.mk (below_step (by repeat (first | (with_reducible first | exact HB.out | apply below_alloc | apply pw_below_drewN | apply below_drew1) | exact HB.out)) hb); clear HB; have HB := n0_; clear n0_; (try clear hb); (try clear hb2); (try clear hk); (try clear hi)) | (go_at_call 34; (with_reducible refine (impl_TurnsOf.calls kj9 t418 t443 t444 _ A34.out).mono ?_); rintro e w125 ⟨v445, rfl, ho0, hb⟩; have n0_ := Aside0.mk (Kd.R_lower ho0 (below_size (by repeat (first | (with_reducible first | exact HB.out | apply below_alloc | apply pw_below_drewN | apply below_drew1) | exact HB.out)))); have n1_ := Aside0.mk (below_step (by repeat (first | (with_reducible first | exact HB.out | apply below_alloc | apply pw_below_drewN | apply below_drew1) | exact HB.out)) hb); clear HB; have HO446 := n0_; have HB := n1_; clear n0_ n1_; (try clear hb); (try clear hb2); (try clear hk); (try clear hi); (try clear ho0)))
          repeat (go_quiet (first | (go_at_call 15; (with_reducible refine (impl_CountsOf.calls t418 t430 t431 true _ A28.out).mono ?_); rintro e w119 ⟨rfl, hb⟩; have n0_ := Aside0.mk (below_step (by repeat (first | (with_reducible first | exact HB.out | apply below_alloc | apply pw_below_drewN | apply below_drew1) | exact HB.out)) hb); clear HB; have HB := n0_; clear n0_; (try clear hb); (try clear hb2); (try clear hk); (try clear hi)) | (go_at_call 38; (with_reducible refine (impl_ChristoffelOf.calls kj9 t430 t431 t433 true _ A29.out).mono ?_); rintro e w120 ⟨rfl, hb⟩; have n0_ := Aside0.mk (below_step (by repeat (first | (with_reducible first | exact HB.out | apply below_alloc | apply pw_below_drewN | apply below_drew1) | exact HB.out)) hb); clear HB; have HB := n0_; clear n0_; (try clear hb); (try clear hb2); (try clear hk); (try clear hi)) | (go_at_call 27; (with_reducible refine (impl_LeastTurn.calls kj9 t418 t435 t436 _ A30.out).mono ?_); rintro e w121 ⟨rfl, hb⟩; have n0_ := Aside0.mk (below_step (by repeat (first | (with_reducible first | exact HB.out | apply below_alloc | apply pw_below_drewN | apply below_drew1) | exact HB.out)) hb); clear HB; have HB := n0_; clear n0_; (try clear hb); (try clear hb2); (try clear hk); (try clear hi)) | (go_at_call 17; (with_reducible refine (impl_IsBalanced.calls kj9 t418 t437 t438 _ A31.out).mono ?_); rintro e w122 ⟨rfl, hb⟩; have n0_ := Aside0.mk (below_step (by repeat (first | (with_reducible first | exact HB.out | apply below_alloc | apply pw_below_drewN | apply below_drew1) | exact HB.out)) hb); clear HB; have HB := n0_; clear n0_; (try clear hb); (try clear hb2); (try clear hk); (try clear hi)) | (go_at_call 39; (with_reducible refine (impl_MirrorWord.calls t418 t439 t440 _ A32.out).mono ?_); rintro e w123 ⟨rfl, hb⟩; have n0_ := Aside0.mk (below_step (by repeat (first | (with_reducible first | exact HB.out | apply below_alloc | apply pw_below_drewN | apply below_drew1) | exact HB.out)) hb); clear HB; have HB := n0_; clear n0_; (try clear hb); (try clear hb2); (try clear hk); (try clear hi)) | (go_at_call 19; (with_reducible refine (impl_IsChristoffel.calls kj9 t439 t441 t442 _ A33.out).mono ?_); rintro e w124 ⟨rfl, hb⟩; have n0_ := Aside0.mk (below_step (by repeat (first | (with_reducible first | exact HB.out | apply below_alloc | apply pw_below_drewN | apply below_drew1) | exact HB.out)) hb); clear HB; have HB := n0_; clear n0_; (try clear hb); (try clear hb2); (try clear hk); (try clear hi)) | (go_at_call 34; (with_reducible refine (impl_TurnsOf.calls kj9 t418 t443 t444 _ A34.out).mono ?_); rintro e w125 ⟨v445, rfl, ho0, hb⟩; have n0_ := Aside0.mk (Kd.R_lower ho0 (below_size (by repeat (first | (with_reducible first | exact HB.out | apply below_alloc | apply pw_below_drewN | apply below_drew1) | exact HB.out)))); have n1_ := Aside0.mk (below_step (by repeat (first | (with_reducible first | exact HB.out | apply below_alloc | apply pw_below_drewN | apply below_drew1) | exact HB.out)) hb); clear HB; have HO446 := n0_; have HB := n1_; clear n0_ n1_; (try clear hb); (try clear hb2); (try clear hk); (try clear hi); (try clear ho0))); try go_wp2_with (first | (go_at_call 15; (with_reducible refine (impl_CountsOf.calls t418 t430 t431 true _ A28.out).mono ?_); rintro e w119 ⟨rfl, hb⟩; have n0_ := Aside0.mk (below_step (by repeat (first | (with_reducible first | exact HB.out | apply below_alloc | apply pw_below_drewN | apply below_drew1) | exact HB.out)) hb); clear HB; have HB := n0_; clear n0_; (try clear hb); (try clear hb2); (try clear hk); (try clear hi)) | (go_at_call 38; (with_reducible refine (impl_ChristoffelOf.calls kj9 t430 t431 t433 true _ A29.out).mono ?_); rintro e w120 ⟨rfl, hb⟩; have n0_ := Aside0.mk (below_step (by repeat (first | (with_reducible first | exact HB.out | apply below_alloc | apply pw_below_drewN | apply below_drew1) | exact HB.out)) hb); clear HB; have HB := n0_; clear n0_; (try clear hb); (try clear hb2); (try clear hk); (try clear hi)) | (go_at_call 27; (with_reducible refine (impl_LeastTurn.calls kj9 t418 t435 t436 _ A30.out).mono ?_); rintro e w121 ⟨rfl, hb⟩; have n0_ := Aside0.mk (below_step (by repeat (first | (with_reducible first | exact HB.out | apply below_alloc | apply pw_below_drewN | apply below_drew1) | exact HB.out)) hb); clear HB; have HB := n0_; clear n0_; (try clear hb); (try clear hb2); (try clear hk); (try clear hi)) | (go_at_call 17; (with_reducible refine (impl_IsBalanced.calls kj9 t418 t437 t438 _ A31.out).mono ?_); rintro e w122 ⟨rfl, hb⟩; have n0_ := Aside0.mk (below_step (by repeat (first | (with_reducible first | exact HB.out | apply below_alloc | apply pw_below_drewN | apply below_drew1) | exact HB.out)) hb); clear HB; have HB := n0_; clear n0_; (try clear hb); (try clear hb2); (try clear hk); (try clear hi)) | (go_at_call 39; (with_reducible refine (impl_MirrorWord.calls t418 t439 t440 _ A32.out).mono ?_); rintro e w123 ⟨rfl, hb⟩; have n0_ := Aside0.mk (below_step (by repeat (first | (with_reducible first | exact HB.out | apply below_alloc | apply pw_below_drewN | apply below_drew1) | exact HB.out)) hb); clear HB; have HB := n0_; clear n0_; (try clear hb); (try clear hb2); (try clear hk); (try clear hi)) | (go_at_call 19; (with_reducible refine (impl_IsChristoffel.calls kj9 t439 t441 t442 _ A33.out).mono ?_); rintro e w124 ⟨rfl, hb⟩; have n0_ := Aside0.mk (below_step (by repeat (first | (with_reducible first | exact HB.out | apply below_alloc | apply pw_below_drewN | apply below_drew1) | exact HB.out)) hb); clear HB; have HB := n0_; clear n0_; (try clear hb); (try clear hb2); (try clear hk); (try clear hi)) | (go_at_call 34; (with_reducible refine (impl_TurnsOf.calls kj9 t418 t443 t444 _ A34.out).mono ?_); rintro e w125 ⟨v445, rfl, ho0, hb⟩; have n0_ := Aside0.mk (Kd.R_lower ho0 (below_size (by repeat (first | (with_reducible first | exact HB.out | apply below_alloc | apply pw_below_drewN | apply below_drew1) | exact HB.out)))); have n1_ := Aside0.mk (below_step (by repeat (first | (with_reducible first | exact HB.out | apply below_alloc | apply pw_below_drewN | apply below_drew1) | exact HB.out)) hb); clear HB; have HO446 := n0_; have HB := n1_; clear n0_ n1_; (try clear hb); (try clear hb2); (try clear hk); (try clear hi); (try clear ho0))))
          go_ret
          exact ⟨by first | rfl | (simp [errW_none, errW_some] <;> rfl) | (simp [*, errW_none, errW_some] <;> rfl), by repeat (first | (with_reducible first | exact HB.out | apply below_alloc | apply pw_below_drewN | apply below_drew1) | exact HB.out)⟩
        ·replace c36 := Bool.eq_false_iff.mpr c36
         subst c36
         have H1 : (some false) = some r := by rw [if_neg (show ¬ (false = true) by decide)] at H; exact H
         clear H; have H := H1; clear H1
         obtain rfl := Option.some.inj H
         go_wp2_with (first | (go_at_call 15; (with_reducible refine (impl_CountsOf.calls t418 t430 t431 true _ A28.out).mono ?_); rintro e w126 ⟨rfl, hb⟩; have n0_ := Aside0.mk (below_step (by repeat (first | (with_reducible first | exact HB.out | apply below_alloc | apply pw_below_drewN | apply below_drew1) | exact HB.out)) hb); clear HB; have HB := n0_; clear n0_; (try clear hb); (try clear hb2); (try clear hk); (try clear hi)) | (go_at_call 38; (with_reducible refine (impl_ChristoffelOf.calls kj9 t430 t431 t433 false _ A29.out).mono ?_); rintro e w127 ⟨rfl, hb⟩; have n0_ := Aside0.mk (below_step (by repeat (first | (with_reducible first | exact HB.out | apply below_alloc | apply pw_below_drewN | apply below_drew1) | exact HB.out)) hb); clear HB; have HB := n0_; clear n0_; (try clear hb); (try clear hb2); (try clear hk); (try clear hi)) | (go_at_call 27; (with_reducible refine (impl_LeastTurn.calls kj9 t418 t435 t436 _ A30.out).mono ?_); rintro e w128 ⟨rfl, hb⟩; have n0_ := Aside0.mk (below_step (by repeat (first | (with_reducible first | exact HB.out | apply below_alloc | apply pw_below_drewN | apply below_drew1) | exact HB.out)) hb); clear HB; have HB := n0_; clear n0_; (try clear hb); (try clear hb2); (try clear hk); (try clear hi)) | (go_at_call 17; (with_reducible refine (impl_IsBalanced.calls kj9 t418 t437 t438 _ A31.out).mono ?_); rintro e w129 ⟨rfl, hb⟩; have n0_ := Aside0.mk (below_step (by repeat (first | (with_reducible first | exact HB.out | apply below_alloc | apply pw_below_drewN | apply below_drew1) | exact HB.out)) hb); clear HB; have HB := n0_; clear n0_; (try clear hb); (try clear hb2); (try clear hk); (try clear hi)) | (go_at_call 39; (with_reducible refine (impl_MirrorWord.calls t418 t439 t440 _ A32.out).mono ?_); rintro e w130 ⟨rfl, hb⟩; have n0_ := Aside0.mk (below_step (by repeat (first | (with_reducible first | exact HB.out | apply below_alloc | apply pw_below_drewN | apply below_drew1) | exact HB.out)) hb); clear HB; have HB := n0_; clear n0_; (try clear hb); (try clear hb2); (try clear hk); (try clear hi)) | (go_at_call 19; (with_reducible refine (impl_IsChristoffel.calls kj9 t439 t441 t442 _ A33.out).mono ?_); rintro e w131 ⟨rfl, hb⟩; have n0_ := Aside0.mk (below_step (by repeat (first | (with_reducible first | exact HB.out | apply below_alloc | apply pw_below_drewN | apply below_drew1) | exact HB.out)) hb); clear HB; have HB := n0_; clear n0_; (try clear hb); (try clear hb2); (try clear hk); (try clear hi)) | (go_at_call 34; (with_reducible refine (impl_TurnsOf.calls kj9 t418 t443 t444 _ A34.out).mono ?_); rintro e w132 ⟨v445, rfl, ho0, hb⟩; have n0_ := Aside0.mk (Kd.R_lower ho0 (below_size (by repeat (first | (with_reducible first | exact HB.out | apply below_alloc | apply pw_below_drewN | apply below_drew1) | exact HB.out)))); have n1_ := Aside0.mk (below_step (by repeat (first | (with_reducible first | exact HB.out | apply below_alloc | apply pw_below_drewN | apply below_drew1) | exact HB.out)) hb); clear HB; have HO446 := n0_; have HB := n1_; clear n0_ n1_; (try clear hb); (try clear hb2); (try clear hk); (try clear hi); (try clear ho0)))
         repeat (go_quiet (first | (go_at_call 15; (with_reducible refine (impl_CountsOf.calls t418 t430 t431 true _ A28.out).mono ?_); rintro e w126 ⟨rfl, hb⟩; have n0_ := Aside0.mk (below_step (by repeat (first | (with_reducible first | exact HB.out | apply below_alloc | apply pw_below_drewN | apply below_drew1) | exact HB.out)) hb); clear HB; have HB := n0_; clear n0_; (try clear hb); (try clear hb2); (try clear hk); (try clear hi)) | (go_at_call 38; (with_reducible refine (impl_ChristoffelOf.calls kj9 t430 t431 t433 false _ A29.out).mono ?_); rintro e w127 ⟨rfl, hb⟩; have n0_ := Aside0.mk (below_step (by repeat (first | (with_reducible first | exact HB.out | apply below_alloc | apply pw_below_drewN | apply below_drew1) | exact HB.out)) hb); clear HB; have HB := n0_; clear n0_; (try clear hb); (try clear hb2); (try clear hk); (try clear hi)) | (go_at_call 27; (with_reducible refine (impl_LeastTurn.calls kj9 t418 t435 t436 _ A30.out).mono ?_); rintro e w128 ⟨rfl, hb⟩; have n0_ := Aside0.mk (below_step (by repeat (first | (with_reducible first | exact HB.out | apply below_alloc | apply pw_below_drewN | apply below_drew1) | exact HB.out)) hb); clear HB; have HB := n0_; clear n0_; (try clear hb); (try clear hb2); (try clear hk); (try clear hi)) | (go_at_call 17; (with_reducible refine (impl_IsBalanced.calls kj9 t418 t437 t438 _ A31.out).mono ?_); rintro e w129 ⟨rfl, hb⟩; have n0_ := Aside0.mk (below_step (by repeat (first | (with_reducible first | exact HB.out | apply below_alloc | apply pw_below_drewN | apply below_drew1) | exact HB.out)) hb); clear HB; have HB := n0_; clear n0_; (try clear hb); (try clear hb2); (try clear hk); (try clear hi)) | (go_at_call 39; (with_reducible refine (impl_MirrorWord.calls t418 t439 t440 _ A32.out).mono ?_); rintro e w130 ⟨rfl, hb⟩; have n0_ := Aside0.mk (below_step (by repeat (first | (with_reducible first | exact HB.out | apply below_alloc | apply pw_below_drewN | apply below_drew1) | exact HB.out)) hb); clear HB; have HB := n0_; clear n0_; (try clear hb); (try clear hb2); (try clear hk); (try clear hi)) | (go_at_call 19; (with_reducible refine (impl_IsChristoffel.calls kj9 t439 t441 t442 _ A33.out).mono ?_); rintro e w131 ⟨rfl, hb⟩; have n0_ := Aside0.mk (below_step (by repeat (first | (with_reducible first | exact HB.out | apply below_alloc | apply pw_below_drewN | apply below_drew1) | exact HB.out)) hb); clear HB; have HB := n0_; clear n0_; (try clear hb); (try clear hb2); (try clear hk); (try clear hi)) | (go_at_call 34; (with_reducible refine (impl_TurnsOf.calls kj9 t418 t443 t444 _ A34.out).mono ?_); rintro e w132 ⟨v445, rfl, ho0, hb⟩; have n0_ := Aside0.mk (Kd.R_lower ho0 (below_size (by repeat (first | (with_reducible first | exact HB.out | apply below_alloc | apply pw_below_drewN | apply below_drew1) | exact HB.out)))); have n1_ := Aside0.mk (below_step (by repeat (first | (with_reducible first | exact HB.out | apply below_alloc | apply pw_below_drewN | apply below_drew1) | exact HB.out)) hb); clear HB; have HO446 := n0_; have HB := n1_; clear n0_ n1_; (try clear hb); (try clear hb2); (try clear hk); (try clear hi); (try clear ho0))); try go_wp2_with (first | (go_at_call 15; (with_reducible refine (impl_CountsOf.calls t418 t430 t431 true _ A28.out).mono ?_); rintro e w126 ⟨rfl, hb⟩; have n0_ := Aside0.mk (below_step (by repeat (first | (with_reducible first | exact HB.out | apply below_alloc | apply pw_below_drewN | apply below_drew1) | exact HB.out)) hb); clear HB; have HB := n0_; clear n0_; (try clear hb); (try clear hb2); (try clear hk); (try clear hi)) | (go_at_call 38; (with_reducible refine (impl_ChristoffelOf.calls kj9 t430 t431 t433 false _ A29.out).mono ?_); rintro e w127 ⟨rfl, hb⟩; have n0_ := Aside0.mk (below_step (by repeat (first | (with_reducible first | exact HB.out | apply below_alloc | apply pw_below_drewN | apply below_drew1) | exact HB.out)) hb); clear HB; have HB := n0_; clear n0_; (try clear hb); (try clear hb2); (try clear hk); (try clear hi)) | (go_at_call 27; (with_reducible refine (impl_LeastTurn.calls kj9 t418 t435 t436 _ A30.out).mono ?_); rintro e w128 ⟨rfl, hb⟩; have n0_ := Aside0.mk (below_step (by repeat (first | (with_reducible first | exact HB.out | apply below_alloc | apply pw_below_drewN | apply below_drew1) | exact HB.out)) hb); clear HB; have HB := n0_; clear n0_; (try clear hb); (try clear hb2); (try clear hk); (try clear hi)) | (go_at_call 17; (with_reducible refine (impl_IsBalanced.calls kj9 t418 t437 t438 _ A31.out).mono ?_); rintro e w129 ⟨rfl, hb⟩; have n0_ := Aside0.mk (below_step (by repeat (first | (with_reducible first | exact HB.out | apply below_alloc | apply pw_below_drewN | apply below_drew1) | exact HB.out)) hb); clear HB; have HB := n0_; clear n0_; (try clear hb); (try clear hb2); (try clear hk); (try clear hi)) | (go_at_call 39; (with_reducible refine (impl_MirrorWord.calls t418 t439 t440 _ A32.out).mono ?_); rintro e w130 ⟨rfl, hb⟩; have n0_ := Aside0.mk (below_step (by repeat (first | (with_reducible first | exact HB.out | apply below_alloc | apply pw_below_drewN | apply below_drew1) | exact HB.out)) hb); clear HB; have HB := n0_; clear n0_; (try clear hb); (try clear hb2); (try clear hk); (try clear hi)) | (go_at_call 19; (with_reducible refine (impl_IsChristoffel.calls kj9 t439 t441 t442 _ A33.out).mono ?_); rintro e w131 ⟨rfl, hb⟩; have n0_ := Aside0.mk (below_step (by repeat (first | (with_reducible first | exact HB.out | apply below_alloc | apply pw_below_drewN | apply below_drew1) | exact HB.out)) hb); clear HB; have HB := n0_; clear n0_; (try clear hb); (try clear hb2); (try clear hk); (try clear hi)) | (go_at_call 34; (with_reducible refine (impl_TurnsOf.calls kj9 t418 t443 t444 _ A34.out).mono ?_); rintro e w132 ⟨v445, rfl, ho0, hb⟩; have n0_ := Aside0.mk (Kd.R_lower ho0 (below_size (by repeat (first | (with_reducible first | exact HB.out | apply below_alloc | apply pw_below_drewN | apply below_drew1) | exact HB.out)))); have n1_ := Aside0.mk (below_step (by repeat (first | (with_reducible first | exact HB.out | apply below_alloc | apply pw_below_drewN | apply below_drew1) | exact HB.out)) hb); clear HB; have HO446 := n0_; have HB := n1_; clear n0_ n1_; (try clear hb); (try clear hb2); (try clear hk); (try clear hi); (try clear ho0))))
         go_ret
         exact ⟨by first | rfl | (simp [errW_none, errW_some] <;> rfl) | (simp [*, errW_none, errW_some] <;> rfl), by repeat (first | (with_reducible first | exact HB.out | apply below_alloc | apply pw_below_drewN | apply below_drew1) | exact HB.out)⟩
       ·replace c35 := Bool.eq_false_iff.mpr c35
        subst c35
        have H1 : (some false) = some r := by rw [if_neg (show ¬ (false = true) by decide)] at H; exact H
        clear H; have H := H1; clear H1
        obtain rfl := Option.some.inj H
        go_wp2_with (first | (go_at_call 15; (with_reducible refine (impl_CountsOf.calls t418 t430 t431 false _ A28.out).mono ?_); rintro e w133 ⟨rfl, hb⟩; have n0_ := Aside0.mk (below_step (by repeat (first | (with_reducible first | exact HB.out | apply below_alloc | apply pw_below_drewN | apply below_drew1) | exact HB.out)) hb); clear HB; have HB := n0_; clear n0_; (try clear hb); (try clear hb2); (try clear hk); (try clear hi)) | (go_at_call 38; (with_reducible refine (impl_ChristoffelOf.calls kj9 t430 t431 t433 t434 _ A29.out).mono ?_); rintro e w134 ⟨rfl, hb⟩; have n0_ := Aside0.mk (below_step (by repeat (first | (with_reducible first | exact HB.out | apply below_alloc | apply pw_below_drewN | apply below_drew1) | exact HB.out)) hb); clear HB; have HB := n0_; clear n0_; (try clear hb); (try clear hb2); (try clear hk); (try clear hi)) | (go_at_call 27; (with_reducible refine (impl_LeastTurn.calls kj9 t418 t435 t436 _ A30.out).mono ?_); rintro e w135 ⟨rfl, hb⟩; have n0_ := Aside0.mk (below_step (by repeat (first | (with_reducible first | exact HB.out | apply below_alloc | apply pw_below_drewN | apply below_drew1) | exact HB.out)) hb); clear HB; have HB := n0_; clear n0_; (try clear hb); (try clear hb2); (try clear hk); (try clear hi)) | (go_at_call 17; (with_reducible refine (impl_IsBalanced.calls kj9 t418 t437 t438 _ A31.out).mono ?_); rintro e w136 ⟨rfl, hb⟩; have n0_ := Aside0.mk (below_step (by repeat (first | (with_reducible first | exact HB.out | apply below_alloc | apply pw_below_drewN | apply below_drew1) | exact HB.out)) hb); clear HB; have HB := n0_; clear n0_; (try clear hb); (try clear hb2); (try clear hk); (try clear hi)) | (go_at_call 39; (with_reducible refine (impl_MirrorWord.calls t418 t439 t440 _ A32.out).mono ?_); rintro e w137 ⟨rfl, hb⟩; have n0_ := Aside0.mk (below_step (by repeat (first | (with_reducible first | exact HB.out | apply below_alloc | apply pw_below_drewN | apply below_drew1) | exact HB.out)) hb); clear HB; have HB := n0_; clear n0_; (try clear hb); (try clear hb2); (try clear hk); (try clear hi)) | (go_at_call 19; (with_reducible refine (impl_IsChristoffel.calls kj9 t439 t441 t442 _ A33.out).mono ?_); rintro e w138 ⟨rfl, hb⟩; have n0_ := Aside0.mk (below_step (by repeat (first | (with_reducible first | exact HB.out | apply below_alloc | apply pw_below_drewN | apply below_drew1) | exact HB.out)) hb); clear HB; have HB := n0_; clear n0_; (try clear hb); (try clear hb2); (try clear hk); (try clear hi)) | (go_at_call 34; (with_reducible refine (impl_TurnsOf.calls kj9 t418 t443 t444 _ A34.out).mono ?_); rintro e w139 ⟨v445, rfl, ho0, hb⟩; have n0_ := Aside0.mk (Kd.R_lower ho0 (below_size (by repeat (first | (with_reducible first | exact HB.out | apply below_alloc | apply pw_below_drewN | apply below_drew1) | exact HB.out)))); have n1_ := Aside0.mk (below_step (by repeat (first | (with_reducible first | exact HB.out | apply below_alloc | apply pw_below_drewN | apply below_drew1) | exact HB.out)) hb); clear HB; have HO446 := n0_; have HB := n1_; clear n0_ n1_; (try clear hb); (try clear hb2); (try clear hk); (try clear hi); (try clear ho0)))
        repeat (go_quiet (first | (go_at_call 15; (with_reducible refine (impl_CountsOf.calls t418 t430 t431 false _ A28.out).mono ?_); rintro e w133 ⟨rfl, hb⟩; have n0_ := Aside0.mk (below_step (by repeat (first | (with_reducible first | exact HB.out | apply below_alloc | apply pw_below_drewN | apply below_drew1) | exact HB.out)) hb); clear HB; have HB := n0_; clear n0_; (try clear hb); (try clear hb2); (try clear hk); (try clear hi)) | (go_at_call 38; (with_reducible refine (impl_ChristoffelOf.calls kj9 t430 t431 t433 t434 _ A29.out).mono ?_); rintro e w134 ⟨rfl, hb⟩; have n0_ := Aside0.mk (below_step (by repeat (first | (with_reducible first | exact HB.out | apply below_alloc | apply pw_below_drewN | apply below_drew1) | exact HB.out)) hb); clear HB; have HB := n0_; clear n0_; (try clear hb); (try clear hb2); (try clear hk); (try clear hi)) | (go_at_call 27; (with_reducible refine (impl_LeastTurn.calls kj9 t418 t435 t436 _ A30.out).mono ?_); rintro e w135 ⟨rfl, hb⟩; have n0_ := Aside0.mk (below_step (by repeat (first | (with_reducible first | exact HB.out | apply below_alloc | apply pw_below_drewN | apply below_drew1) | exact HB.out)) hb); clear HB; have HB := n0_; clear n0_; (try clear hb); (try clear hb2); (try clear hk); (try clear hi)) | (go_at_call 17; (with_reducible refine (impl_IsBalanced.calls kj9 t418 t437 t438 _ A31.out).mono ?_); rintro e w136 ⟨rfl, hb⟩; have n0_ := Aside0.mk (below_step (by repeat (first | (with_reducible first | exact HB.out | apply below_alloc | apply pw_below_drewN | apply below_drew1) | exact HB.out)) hb); clear HB; have HB := n0_; clear n0_; (try clear hb); (try clear hb2); (try clear hk); (try clear hi)) | (go_at_call 39; (with_reducible refine (impl_MirrorWord.calls t418 t439 t440 _ A32.out).mono ?_); rintro e w137 ⟨rfl, hb⟩; have n0_ := Aside0.mk (below_step (by repeat (first | (with_reducible first | exact HB.out | apply below_alloc | apply pw_below_drewN | apply below_drew1) | exact HB.out)) hb); clear HB; have HB := n0_; clear n0_; (try clear hb); (try clear hb2); (try clear hk); (try clear hi)) | (go_at_call 19; (with_reducible refine (impl_IsChristoffel.calls kj9 t439 t441 t442 _ A33.out).mono ?_); rintro e w138 ⟨rfl, hb⟩; have n0_ := Aside0.mk (below_step (by repeat (first | (with_reducible first | exact HB.out | apply below_alloc | apply pw_below_drewN | apply below_drew1) | exact HB.out)) hb); clear HB; have HB := n0_; clear n0_; (try clear hb); (try clear hb2); (try clear hk); (try clear hi)) | (go_at_call 34; (with_reducible refine (impl_TurnsOf.calls kj9 t418 t443 t444 _ A34.out).mono ?_); rintro e w139 ⟨v445, rfl, ho0, hb⟩; have n0_ := Aside0.mk (Kd.R_lower ho0 (below_size (by repeat (first | (with_reducible first | exact HB.out | apply below_alloc | apply pw_below_drewN | apply below_drew1) | exact HB.out)))); have n1_ := Aside0.mk (below_step (by repeat (first | (with_reducible first | exact HB.out | apply below_alloc | apply pw_below_drewN | apply below_drew1) | exact HB.out)) hb); clear HB; have HO446 := n0_; have HB := n1_; clear n0_ n1_; (try clear hb); (try clear hb2); (try clear hk); (try clear hi); (try clear ho0))); try go_wp2_with (first | (go_at_call 15; (with_reducible refine (impl_CountsOf.calls t418 t430 t431 false _ A28.out).mono ?_); rintro e w133 ⟨rfl, hb⟩; have n0_ := Aside0.mk (below_step (by repeat (first | (with_reducible first | exact HB.out | apply below_alloc | apply pw_below_drewN | apply below_drew1) | exact HB.out)) hb); clear HB; have HB := n0_; clear n0_; (try clear hb); (try clear hb2); (try clear hk); (try clear hi)) | (go_at_call 38; (with_reducible refine (impl_ChristoffelOf.calls kj9 t430 t431 t433 t434 _ A29.out).mono ?_); rintro e w134 ⟨rfl, hb⟩; have n0_ := Aside0.mk (below_step (by repeat (first | (with_reducible first | exact HB.out | apply below_alloc | apply pw_below_drewN | apply below_drew1) | exact HB.out)) hb); clear HB; have HB := n0_; clear n0_; (try clear hb); (try clear hb2); (try clear hk); (try clear hi)) | (go_at_call 27; (with_reducible refine (impl_LeastTurn.calls kj9 t418 t435 t436 _ A30.out).mono ?_); rintro e w135 ⟨rfl, hb⟩; have n0_ := Aside0.mk (below_step (by repeat (first | (with_reducible first | exact HB.out | apply below_alloc | apply pw_below_drewN | apply below_drew1) | exact HB.out)) hb); clear HB; have HB := n0_; clear n0_; (try clear hb); (try clear hb2); (try clear hk); (try clear hi)) | (go_at_call 17; (with_reducible refine (impl_IsBalanced.calls kj9 t418 t437 t438 _ A31.out).mono ?_); rintro e w136 ⟨rfl, hb⟩; have n0_ := Aside0.mk (below_step (by repeat (first | (with_reducible first | exact HB.out | apply below_alloc | apply pw_below_drewN | apply below_drew1) | exact HB.out)) hb); clear HB; have HB := n0_; clear n0_; (try clear hb); (try clear hb2); (try clear hk); (try clear hi)) | (go_at_call 39; (with_reducible refine (impl_MirrorWord.calls t418 t439 t440 _ A32.out).mono ?_); rintro e w137 ⟨rfl, hb⟩; have n0_ := Aside0.mk (below_step (by repeat (first | (with_reducible first | exact HB.out | apply below_alloc | apply pw_below_drewN | apply below_drew1) | exact HB.out)) hb); clear HB; have HB := n0_; clear n0_; (try clear hb); (try clear hb2); (try clear hk); (try clear hi)) | (go_at_call 19; (with_reducible refine (impl_IsChristoffel.calls kj9 t439 t441 t442 _ A33.out).mono ?_); rintro e w138 ⟨rfl, hb⟩; have n0_ := Aside0.mk (below_step (by repeat (first | (with_reducible first | exact HB.out | apply below_alloc | apply pw_below_drewN | apply below_drew1) | exact HB.out)) hb); clear HB; have HB := n0_; clear n0_; (try clear hb); (try clear hb2); (try clear hk); (try clear hi)) | (go_at_call 34; (with_reducible refine (impl_TurnsOf.calls kj9 t418 t443 t444 _ A34.out).mono ?_); rintro e w139 ⟨v445, rfl, ho0, hb⟩; have n0_ := Aside0.mk (Kd.R_lower ho0 (below_size (by repeat (first | (with_reducible first | exact HB.out | apply below_alloc | apply pw_below_drewN | apply below_drew1) | exact HB.out)))); have n1_ := Aside0.mk (below_step (by repeat (first | (with_reducible first | exact HB.out | apply below_alloc | apply pw_below_drewN | apply below_drew1) | exact HB.out)) hb); clear HB; have HO446 := n0_; have HB := n1_; clear n0_ n1_; (try clear hb); (try clear hb2); (try clear hk); (try clear hi); (try clear ho0))))
        go_ret
        exact ⟨by first | rfl | (simp [errW_none, errW_some] <;> rfl) | (simp [*, errW_none, errW_some] <;> rfl), by repeat (first | (with_reducible first | exact HB.out | apply below_alloc | apply pw_below_drewN | apply below_drew1) | exact HB.out)⟩
      ·replace c27 := Bool.eq_false_iff.mpr c27
       subst c27
       have H1 : (laws_FnChristoffelWords.j1 kj9 l1 t418 t419 t420 t421) = some r := by rw [if_neg (show ¬ (false = true) by decide)] at H; exact H
       clear H; have H := H1; clear H1
       have H' := Aside0.mk H
       clear H
       go_wp2
       repeat (go_quiet (fail); try go_wp2)
       go_meet
       case rel => exact ⟨_, H', ⟨by have := HJ9.out; first | omega | exact Nat.le_refl _⟩, ⟨by repeat (first | (with_reducible first | exact HB.out | apply below_alloc | apply pw_below_drewN | apply below_drew1) | exact HB.out)⟩⟩
     case rest => as_aux_lemma =>
      clear HC26
      try clear c1
      try clear c2
      try clear p2
      try clear c3
      try clear c4
      try clear c12
      try clear c14
      try clear c14b0
      try clear c14b1
      try clear c14b2
      try clear c15
      try clear c15b0
      try clear c15b1
      try clear c16
      try clear c16b0
      try clear c16b1
      try clear c17
      try clear c17b0
      try clear c17b1
      try clear c17b2
      try clear c18
      try clear c18b0
      try clear c18b1
      try clear c18b2
      try clear c20
      try clear c20b0
      try clear c20b1
      try clear c20b2
      try clear c22
      try clear c25
      try clear c27
      try clear c35
      try clear c36
      try clear c37
      try clear c37b0
      try clear c37b1
      try clear c38
      try clear c39
      try clear c39b0
      try clear c39b1
      try clear c40
      try clear c41
      try clear c42
      try clear c43
      try clear c44
      try clear c45
      try clear c46
      try clear c46b0
      try clear c46b1
      try clear c46b2
      try clear p2
      obtain ⟨kq, HA, HJ25, HB⟩ := hcut
      cases kq with
      | zero => exact absurd HA.out (by simp [laws_FnChristoffelWords.j1])
      | succ kj25 =>
       have H := HA.out; clear HA
       simp only [laws_FnChristoffelWords.j1] at H
       have HC140 := Aside0.mk H
       clear H
       go_upto_if 204 with (fail)
       repeat (go_quiet (fail); go_upto_if 204 with (fail))
       go_cut [] (fun wc => ∃ (kq : Nat), Aside0 (laws_FnChristoffelWords.j7 kq l1 = some r) ∧ Aside0 (kq ≤ kj25) ∧ Aside0 (Below w.heap.size w wc))
       case first => as_aux_lemma =>
        have H := HC140.out; clear HC140
        by_cases c141 : t421 = true
        ·as_aux_lemma =>
         subst c141
         have H1 : (laws_FnChristoffelWords.l0 kj25 l1 t418 t419 t420 0 1) = some r := by rw [if_pos rfl] at H; exact H
         clear H; have H := H1; clear H1
         have H' := Aside0.mk H
         clear H
         go_wp2
         repeat (go_quiet (fail); try go_wp2)
         go_loopg [31, 32] kj25 (fun kq v31 v32 w' => ∃ (x31_3 : Int) (x32_3 : Int), v31 = .int .i64 x31_3 ∧ v32 = .int .i64 x32_3 ∧ Aside0 (laws_FnChristoffelWords.l0 kq l1 t418 t419 t420 x31_3 x32_3 = some r) ∧ Aside0 (kq ≤ kj25) ∧ Aside0 (Below w.heap.size w w'))
         case atStart => exact ⟨(0), (1), (by first | rfl | (simp; done) | (simp [*]; done)), (by first | rfl | (simp; done) | (simp [*]; done)), H', ⟨Nat.le_refl _⟩, ⟨by repeat (first | (with_reducible first | exact HB.out | apply below_alloc | apply pw_below_drewN | apply below_drew1) | exact HB.out)⟩⟩
         case round => as_aux_lemma =>
          clear H'
          try clear c1
          try clear c2
          try clear p2
          try clear c3
          try clear c4
          try clear c12
          try clear c14
          try clear c14b0
          try clear c14b1
          try clear c14b2
          try clear c15
          try clear c15b0
          try clear c15b1
          try clear c16
          try clear c16b0
          try clear c16b1
          try clear c17
          try clear c17b0
          try clear c17b1
          try clear c17b2
          try clear c18
          try clear c18b0
          try clear c18b1
          try clear c18b2
          try clear c20
          try clear c20b0
          try clear c20b1
          try clear c20b2
          try clear c22
          try clear c25
          try clear c27
          try clear c35
          try clear c36
          try clear c37
          try clear c37b0
          try clear c37b1
          try clear c38
          try clear c39
          try clear c39b0
          try clear c39b1
          try clear c40
          try clear c41
          try clear c42
          try clear c43
          try clear c44
          try clear c45
          try clear c46
          try clear c46b0
          try clear c46b1
          try clear c46b2
          try clear c141
          try clear p2
          obtain ⟨x31_3, x32_3, rfl, rfl, HA, HK3, HB⟩ := hrel
          cases gk with
          | zero => exact absurd HA.out (by simp [laws_FnChristoffelWords.l0])
          | succ k3 =>
           have H := HA.out; clear HA
           simp only [laws_FnChristoffelWords.l0] at H
           by_cases c142 : x32_3 < (t418.size : Int)
           ·as_aux_lemma =>
            rw [if_pos c142] at H
            have c142b0 : decide (x32_3 < (t418.size : Int)) = true := decide_eq_true c142
            clear c142
            (first | rw [c142b0] | (simp only [i64_w, i32_w]; rw [c142b0]) | skip)
            by_cases c143 : 0 ≤ x32_3
            rotate_left
            ·rw [if_neg c143] at H
             exact absurd H (by simp)
            as_aux_lemma =>
            rw [if_pos c143] at H
            have c143b0 := eq_true c143
            have c143b1 : decide (0 ≤ x32_3) = true := decide_eq_true c143
            clear c143
            by_cases c144 : x32_3 ≤ (t418.size : Int)
            rotate_left
            ·rw [if_neg c144] at H
             exact absurd H (by simp)
            as_aux_lemma =>
            rw [if_pos c144] at H
            have c144b0 := eq_true c144
            have c144b1 : decide (x32_3 ≤ (t418.size : Int)) = true := decide_eq_true c144
            clear c144
            replace H := Option.bind_eq_some_iff.mp H
            obtain ⟨⟨t447, t448⟩, A1450, H⟩ := H
            replace H : ((impl_IsChristoffel.f k3 (t418.extract (x32_3 : Int).toNat t418.size)).bind fun bt449 => (if t448 = true then (laws_FnChristoffelWords.j3 k3 l1 t418 t419 t420 x31_3 x32_3 t447 bt449.1 (!bt449.2)) else (laws_FnChristoffelWords.j3 k3 l1 t418 t419 t420 x31_3 x32_3 t447 bt449.1 true))) = some r := H
            have A145 := Aside0.mk A1450
            clear A1450
            have c146b0 := eq_true (of_decide_eq_true (by first | (with_reducible assumption) | assumption) : 0 ≤ x32_3)
            have c147b0 := eq_true (of_decide_eq_true (by first | (with_reducible assumption) | assumption) : x32_3 ≤ (t418.size : Int))
            replace H := Option.bind_eq_some_iff.mp H
            obtain ⟨⟨t449, t450⟩, A1480, H⟩ := H
            replace H : (if t448 = true then (laws_FnChristoffelWords.j3 k3 l1 t418 t419 t420 x31_3 x32_3 t447 t449 (!t450)) else (laws_FnChristoffelWords.j3 k3 l1 t418 t419 t420 x31_3 x32_3 t447 t449 true)) = some r := H
            have A148 := Aside0.mk A1480
            clear A1480
            have HC149 := Aside0.mk H
            clear H
            go_upto_region 27 with (first | (go_at_call 19; (with_reducible refine (impl_IsChristoffel.calls k3 (t418.extract 0 (x32_3 : Int).toNat) t447 t448 _ A145.out).mono ?_); rintro e w150 ⟨rfl, hb⟩; have n0_ := Aside0.mk (below_step (by repeat (first | (with_reducible first | exact HB.out | apply below_alloc | apply pw_below_drewN | apply below_drew1) | exact HB.out)) hb); clear HB; have HB := n0_; clear n0_; (try clear hb); (try clear hb2); (try clear hk); (try clear hi)) | (go_at_call 19; (with_reducible refine (impl_IsChristoffel.calls k3 (t418.extract (x32_3 : Int).toNat t418.size) t449 t450 _ A148.out).mono ?_); rintro e w151 ⟨rfl, hb⟩; have n0_ := Aside0.mk (below_step (by repeat (first | (with_reducible first | exact HB.out | apply below_alloc | apply pw_below_drewN | apply below_drew1) | exact HB.out)) hb); clear HB; have HB := n0_; clear n0_; (try clear hb); (try clear hb2); (try clear hk); (try clear hi)))
            repeat (go_quiet (first | (go_at_call 19; (with_reducible refine (impl_IsChristoffel.calls k3 (t418.extract 0 (x32_3 : Int).toNat) t447 t448 _ A145.out).mono ?_); rintro e w150 ⟨rfl, hb⟩; have n0_ := Aside0.mk (below_step (by repeat (first | (with_reducible first | exact HB.out | apply below_alloc | apply pw_below_drewN | apply below_drew1) | exact HB.out)) hb); clear HB; have HB := n0_; clear n0_; (try clear hb); (try clear hb2); (try clear hk); (try clear hi)) | (go_at_call 19; (with_reducible refine (impl_IsChristoffel.calls k3 (t418.extract (x32_3 : Int).toNat t418.size) t449 t450 _ A148.out).mono ?_); rintro e w151 ⟨rfl, hb⟩; have n0_ := Aside0.mk (below_step (by repeat (first | (with_reducible first | exact HB.out | apply below_alloc | apply pw_below_drewN | apply below_drew1) | exact HB.out)) hb); clear HB; have HB := n0_; clear n0_; (try clear hb); (try clear hb2); (try clear hk); (try clear hi))); go_upto_region 27 with (first | (go_at_call 19; (with_reducible refine (impl_IsChristoffel.calls k3 (t418.extract 0 (x32_3 : Int).toNat) t447 t448 _ A145.out).mono ?_); rintro e w150 ⟨rfl, hb⟩; have n0_ := Aside0.mk (below_step (by repeat (first | (with_reducible first | exact HB.out | apply below_alloc | apply pw_below_drewN | apply below_drew1) | exact HB.out)) hb); clear HB; have HB := n0_; clear n0_; (try clear hb); (try clear hb2); (try clear hk); (try clear hi)) | (go_at_call 19; (with_reducible refine (impl_IsChristoffel.calls k3 (t418.extract (x32_3 : Int).toNat t418.size) t449 t450 _ A148.out).mono ?_); rintro e w151 ⟨rfl, hb⟩; have n0_ := Aside0.mk (below_step (by repeat (first | (with_reducible first | exact HB.out | apply below_alloc | apply pw_below_drewN | apply below_drew1) | exact HB.out)) hb); clear HB; have HB := n0_; clear n0_; (try clear hb); (try clear hb2); (try clear hk); (try clear hi))))
            (try simp only [Act.put, List.setIfInBounds_toArray, List.set_cons_zero, List.set_cons_succ])
            go_cut [230] (fun v230 wc => ∃ (kq : Nat) (x230_148 : Bool), v230 = .bool x230_148 ∧ Aside0 (laws_FnChristoffelWords.j3 kq l1 t418 t419 t420 x31_3 x32_3 t447 t449 x230_148 = some r) ∧ Aside0 (kq ≤ k3) ∧ Aside0 (Below w.heap.size w wc))
            case first => as_aux_lemma =>
             have H := HC149.out; clear HC149
             by_cases c152 : t448 = true
             ·subst c152
              have H1 : (laws_FnChristoffelWords.j3 k3 l1 t418 t419 t420 x31_3 x32_3 t447 t449 (!t450)) = some r := by rw [if_pos rfl] at H; exact H
              clear H; have H := H1; clear H1
              have H' := Aside0.mk H
              clear H
              go_wp2
              repeat (go_quiet (fail); try go_wp2)
              go_meet
              case rel => exact ⟨_, (!t450), (by first | rfl | (simp; done) | (simp [*]; done)), H', ⟨by have := HJ9.out; have := HJ25.out; have := HK3.out; first | omega | exact Nat.le_refl _⟩, ⟨by repeat (first | (with_reducible first | exact HB.out | apply below_alloc | apply pw_below_drewN | apply below_drew1) | exact HB.out)⟩⟩
             ·replace c152 := Bool.eq_false_iff.mpr c152
              subst c152
              have H1 : (laws_FnChristoffelWords.j3 k3 l1 t418 t419 t420 x31_3 x32_3 t447 t449 true) = some r := by rw [if_neg (show ¬ (false = true) by decide)] at H; exact H
              clear H; have H := H1; clear H1
              have H' := Aside0.mk H
              clear H
              go_wp2
              repeat (go_quiet (fail); try go_wp2)
              go_meet
              case rel => exact ⟨_, (true), (by first | rfl | (simp; done) | (simp [*]; done)), H', ⟨by have := HJ9.out; have := HJ25.out; have := HK3.out; first | omega | exact Nat.le_refl _⟩, ⟨by repeat (first | (with_reducible first | exact HB.out | apply below_alloc | apply pw_below_drewN | apply below_drew1) | exact HB.out)⟩⟩
            case rest => as_aux_lemma =>
             clear HC149
             try clear c1
             try clear c2
             try clear p2
             try clear c3
             try clear c4
             try clear c12
             try clear c14
             try clear c14b0
             try clear c14b1
             try clear c14b2
             try clear c15
             try clear c15b0
             try clear c15b1
             try clear c16
             try clear c16b0
             try clear c16b1
             try clear c17
             try clear c17b0
             try clear c17b1
             try clear c17b2
             try clear c18
             try clear c18b0
             try clear c18b1
             try clear c18b2
             try clear c20
             try clear c20b0
             try clear c20b1
             try clear c20b2
             try clear c22
             try clear c25
             try clear c27
             try clear c35
             try clear c36
             try clear c37
             try clear c37b0
             try clear c37b1
             try clear c38
             try clear c39
             try clear c39b0
             try clear c39b1
             try clear c40
             try clear c41
             try clear c42
             try clear c43
             try clear c44
             try clear c45
             try clear c46
             try clear c46b0
             try clear c46b1
             try clear c46b2
             try clear c141
             try clear c142
             try clear c142b0
             try clear c143
             try clear c143b0
             try clear c143b1
             try clear c144
             try clear c144b0
             try clear c144b1
             try clear c146
             try clear c146b0
             try clear c147
             try clear c147b0
             try clear c152
             try clear p2
             obtain ⟨kq, x230_148, rfl, HA, HJ148, HB⟩ := hcut
             cases kq with
             | zero => exact absurd HA.out (by simp [laws_FnChristoffelWords.j3])
             | succ kj148 =>
              have H := HA.out; clear HA
              simp only [laws_FnChristoffelWords.j3] at H
              by_cases c153 : x230_148 = true
              ·subst c153
               have H1 : (some false) = some r := by rw [if_pos rfl] at H; exact H
               clear H; have H := H1; clear H1
               obtain rfl := Option.some.inj H
               go_wp2
               repeat (go_quiet (fail); try go_wp2)
               go_ret
               exact ⟨by first | rfl | (simp [errW_none, errW_some] <;> rfl) | (simp [*, errW_none, errW_some] <;> rfl), by repeat (first | (with_reducible first | exact HB.out | apply below_alloc | apply pw_below_drewN | apply below_drew1) | exact HB.out)⟩
              ·as_aux_lemma =>
               replace c153 := Bool.eq_false_iff.mpr c153
               subst c153
               have H1 : (if t447 = true then (laws_FnChristoffelWords.j4 kj148 l1 t418 t419 t420 x31_3 x32_3 t449) else (laws_FnChristoffelWords.j4 kj148 l1 t418 t419 t420 x31_3 x32_3 false)) = some r := by rw [if_neg (show ¬ (false = true) by decide)] at H; exact H
               clear H; have H := H1; clear H1
               have HC154 := Aside0.mk H
               clear H
               go_upto_region 29 with (fail)
               repeat (go_quiet (fail); go_upto_region 29 with (fail))
               go_cut [234] (fun v234 wc => ∃ (kq : Nat) (x234_153 : Bool), v234 = .bool x234_153 ∧ Aside0 (laws_FnChristoffelWords.j4 kq l1 t418 t419 t420 x31_3 x32_3 x234_153 = some r) ∧ Aside0 (kq ≤ kj148) ∧ Aside0 (Below w.heap.size w wc))
               case first => as_aux_lemma =>
                have H := HC154.out; clear HC154
                by_cases c155 : t447 = true
                ·subst c155
                 have H1 : (laws_FnChristoffelWords.j4 kj148 l1 t418 t419 t420 x31_3 x32_3 t449) = some r := by rw [if_pos rfl] at H; exact H
                 clear H; have H := H1; clear H1
                 have H' := Aside0.mk H
                 clear H
                 go_wp2
                 repeat (go_quiet (fail); try go_wp2)
                 go_meet
                 case rel => exact ⟨_, (t449), (by first | rfl | (simp; done) | (simp [*]; done)), H', ⟨by have := HJ9.out; have := HJ25.out; have := HK3.out; have := HJ148.out; first | omega | exact Nat.le_refl _⟩, ⟨by repeat (first | (with_reducible first | exact HB.out | apply below_alloc | apply pw_below_drewN | apply below_drew1) | exact HB.out)⟩⟩
                ·replace c155 := Bool.eq_false_iff.mpr c155
                 subst c155
                 have H1 : (laws_FnChristoffelWords.j4 kj148 l1 t418 t419 t420 x31_3 x32_3 false) = some r := by rw [if_neg (show ¬ (false = true) by decide)] at H; exact H
                 clear H; have H := H1; clear H1
                 have H' := Aside0.mk H
                 clear H
                 go_wp2
                 repeat (go_quiet (fail); try go_wp2)
                 go_meet
                 case rel => exact ⟨_, (false), (by first | rfl | (simp; done) | (simp [*]; done)), H', ⟨by have := HJ9.out; have := HJ25.out; have := HK3.out; have := HJ148.out; first | omega | exact Nat.le_refl _⟩, ⟨by repeat (first | (with_reducible first | exact HB.out | apply below_alloc | apply pw_below_drewN | apply below_drew1) | exact HB.out)⟩⟩
               case rest => as_aux_lemma =>
                clear HC154
                try clear c1
                try clear c2
                try clear p2
                try clear c3
                try clear c4
                try clear c12
                try clear c14
                try clear c14b0
                try clear c14b1
                try clear c14b2
                try clear c15
                try clear c15b0
                try clear c15b1
                try clear c16
                try clear c16b0
                try clear c16b1
                try clear c17
                try clear c17b0
                try clear c17b1
                try clear c17b2
                try clear c18
                try clear c18b0
                try clear c18b1
                try clear c18b2
                try clear c20
                try clear c20b0
                try clear c20b1
                try clear c20b2
                try clear c22
                try clear c25
                try clear c27
                try clear c35
                try clear c36
                try clear c37
                try clear c37b0
                try clear c37b1
                try clear c38
                try clear c39
                try clear c39b0
                try clear c39b1
                try clear c40
                try clear c41
                try clear c42
                try clear c43
                try clear c44
                try clear c45
                try clear c46
                try clear c46b0
                try clear c46b1
                try clear c46b2
                try clear c141
                try clear c142
                try clear c142b0
                try clear c143
                try clear c143b0
                try clear c143b1
                try clear c144
                try clear c144b0
                try clear c144b1
                try clear c146
                try clear c146b0
                try clear c147
                try clear c147b0
                try clear c152
                try clear c153
                try clear c155
                try clear p2
                obtain ⟨kq, x234_153, rfl, HA, HJ153, HB⟩ := hcut
                cases kq with
                | zero => exact absurd HA.out (by simp [laws_FnChristoffelWords.j4])
                | succ kj153 =>
                 have H := HA.out; clear HA
                 simp only [laws_FnChristoffelWords.j4] at H
                 by_cases c156 : x234_153 = true
                 ·as_aux_lemma =>
                  subst c156
                  have H1 : (if 0 ≤ x32_3 then (if x32_3 ≤ (t418.size : Int) then (if (t418.extract 0 (x32_3 : Int).toNat).toList = t419.toList then (if (t418.extract (x32_3 : Int).toNat t418.size).toList = t420.toList then (laws_FnChristoffelWords.l0 kj153 l1 t418 t419 t420 (wrap64 (x31_3 + 1)) (wrap64 (x32_3 + 1))) else (some false)) else (some false)) else (none)) else (none)) = some r := by rw [if_pos rfl] at H; exact H
                  clear H; have H := H1; clear H1
                  by_cases c157 : 0 ≤ x32_3
                  rotate_left
                  ·rw [if_neg c157] at H
                   exact absurd H (by simp)
                  as_aux_lemma =>
                  rw [if_pos c157] at H
                  have c157b0 := eq_true c157
                  have c157b1 : decide (0 ≤ x32_3) = true := decide_eq_true c157
                  clear c157
                  by_cases c158 : x32_3 ≤ (t418.size : Int)
                  rotate_left
                  ·rw [if_neg c158] at H
                   exact absurd H (by simp)
                  as_aux_lemma =>
                  rw [if_pos c158] at H
                  have c158b0 := eq_true c158
                  have c158b1 : decide (x32_3 ≤ (t418.size : Int)) = true := decide_eq_true c158
                  clear c158
                  by_cases c159 : (t418.extract 0 (x32_3 : Int).toNat).toList = t419.toList
                  ·as_aux_lemma =>
                   rw [if_pos c159] at H
                   have c159b0 : ((t418.extract 0 (x32_3 : Int).toNat).toList == t419.toList) = true := beq_iff_eq.mpr c159
                   have c159b1 : ((t418.extract 0 (x32_3 : Int).toNat).toList != t419.toList) = false := bne_eq_false_iff_eq.mpr c159
                   clear c159
                   have c160b0 := eq_true (of_decide_eq_true (by first | (with_reducible assumption) | assumption) : 0 ≤ x32_3)
                   have c161b0 := eq_true (of_decide_eq_true (by first | (with_reducible assumption) | assumption) : x32_3 ≤ (t418.size : Int))
                   by_cases c162 : (t418.extract (x32_3 : Int).toNat t418.size).toList = t420.toList
                   ·rw [if_pos c162] at H
                    have c162b0 : ((t418.extract (x32_3 : Int).toNat t418.size).toList == t420.toList) = true := beq_iff_eq.mpr c162
                    have c162b1 : ((t418.extract (x32_3 : Int).toNat t418.size).toList != t420.toList) = false := bne_eq_false_iff_eq.mpr c162
                    clear c162
                    have H' := Aside0.mk H
                    clear H
                    go_wp2
                    repeat (go_quiet (fail); try go_wp2)
                    go_roundg kj153
                    case measure => have := HJ9.out; have := HJ25.out; have := HK3.out; have := HJ148.out; have := HJ153.out; omega
                    case rel => exact ⟨(wrap64 (x31_3 + 1)), (wrap64 (x32_3 + 1)), (by first | rfl | (simp; done) | (simp [*]; done)), (by first | rfl | (simp; done) | (simp [*]; done)), H', ⟨by have := HJ9.out; have := HJ25.out; have := HK3.out; have := HJ148.out; have := HJ153.out; omega⟩, ⟨by repeat (first | (with_reducible first | exact HB.out | apply below_alloc | apply pw_below_drewN | apply below_drew1) | exact HB.out)⟩⟩
                   ·rw [if_neg c162] at H
                    have c162b0 : ((t418.extract (x32_3 : Int).toNat t418.size).toList == t420.toList) = false := beq_eq_false_iff_ne.mpr c162
                    have c162b1 : ((t418.extract (x32_3 : Int).toNat t418.size).toList != t420.toList) = true := bne_iff_ne.mpr c162
                    obtain rfl := Option.some.inj H
                    go_wp2
                    repeat (go_quiet (fail); try go_wp2)
                    go_ret
                    exact ⟨by first | rfl | (simp [errW_none, errW_some] <;> rfl) | (simp [*, errW_none, errW_some] <;> rfl), by repeat (first | (with_reducible first | exact HB.out | apply below_alloc | apply pw_below_drewN | apply below_drew1) | exact HB.out)⟩
                  ·rw [if_neg c159] at H
                   have c159b0 : ((t418.extract 0 (x32_3 : Int).toNat).toList == t419.toList) = false := beq_eq_false_iff_ne.mpr c159
                   have c159b1 : ((t418.extract 0 (x32_3 : Int).toNat).toList != t419.toList) = true := bne_iff_ne.mpr c159
                   obtain rfl := Option.some.inj H
                   go_wp2
                   repeat (go_quiet (fail); try go_wp2)
                   go_ret
                   exact ⟨by first | rfl | (simp [errW_none, errW_some] <;> rfl) | (simp [*, errW_none, errW_some] <;> rfl), by repeat (first | (with_reducible first | exact HB.out | apply below_alloc | apply pw_below_drewN | apply below_drew1) | exact HB.out)⟩
                 ·as_aux_lemma =>
                  replace c156 := Bool.eq_false_iff.mpr c156
                  subst c156
                  have H1 : (laws_FnChristoffelWords.l0 kj153 l1 t418 t419 t420 x31_3 (wrap64 (x32_3 + 1))) = some r := by rw [if_neg (show ¬ (false = true) by decide)] at H; exact H
                  clear H; have H := H1; clear H1
                  have H' := Aside0.mk H
                  clear H
                  go_wp2
                  repeat (go_quiet (fail); try go_wp2)
                  go_roundg kj153
                  case measure => have := HJ9.out; have := HJ25.out; have := HK3.out; have := HJ148.out; have := HJ153.out; omega
                  case rel => exact ⟨(x31_3), (wrap64 (x32_3 + 1)), (by first | rfl | (simp; done) | (simp [*]; done)), (by first | rfl | (simp; done) | (simp [*]; done)), H', ⟨by have := HJ9.out; have := HJ25.out; have := HK3.out; have := HJ148.out; have := HJ153.out; omega⟩, ⟨by repeat (first | (with_reducible first | exact HB.out | apply below_alloc | apply pw_below_drewN | apply below_drew1) | exact HB.out)⟩⟩
           ·as_aux_lemma =>
            rw [if_neg c142] at H
            have c142b0 : decide (x32_3 < (t418.size : Int)) = false := decide_eq_false c142
            clear c142
            (first | rw [c142b0] | (simp only [i64_w, i32_w]; rw [c142b0]) | skip)
            replace H := Option.bind_eq_some_iff.mp H
            obtain ⟨⟨t451, t452⟩, A1630, H⟩ := H
            replace H : (if x31_3 = 1 then (if t452 = true then (laws_FnChristoffelWords.j5 k3 l1 t451 ((t451.size : Int) != (wrap64 ((t418.size : Int) - 2)))) else (laws_FnChristoffelWords.j5 k3 l1 t451 true)) else (laws_FnChristoffelWords.j5 k3 l1 t451 true)) = some r := H
            have A163 := Aside0.mk A1630
            clear A1630
            have HC164 := Aside0.mk H
            clear H
            go_upto_region 34 with (first | (go_at_call 21; (with_reducible refine (impl_CentreOf.calls k3 t418 t451 t452 _ A163.out).mono ?_); rintro e w165 ⟨rfl, hb⟩; have n0_ := Aside0.mk (below_step (by repeat (first | (with_reducible first | exact HB.out | apply below_alloc | apply pw_below_drewN | apply below_drew1) | exact HB.out)) hb); clear HB; have HB := n0_; clear n0_; (try clear hb); (try clear hb2); (try clear hk); (try clear hi)))
            repeat (go_quiet (first | (go_at_call 21; (with_reducible refine (impl_CentreOf.calls k3 t418 t451 t452 _ A163.out).mono ?_); rintro e w165 ⟨rfl, hb⟩; have n0_ := Aside0.mk (below_step (by repeat (first | (with_reducible first | exact HB.out | apply below_alloc | apply pw_below_drewN | apply below_drew1) | exact HB.out)) hb); clear HB; have HB := n0_; clear n0_; (try clear hb); (try clear hb2); (try clear hk); (try clear hi))); go_upto_region 34 with (first | (go_at_call 21; (with_reducible refine (impl_CentreOf.calls k3 t418 t451 t452 _ A163.out).mono ?_); rintro e w165 ⟨rfl, hb⟩; have n0_ := Aside0.mk (below_step (by repeat (first | (with_reducible first | exact HB.out | apply below_alloc | apply pw_below_drewN | apply below_drew1) | exact HB.out)) hb); clear HB; have HB := n0_; clear n0_; (try clear hb); (try clear hb2); (try clear hk); (try clear hi))))
            (try simp only [Act.put, List.setIfInBounds_toArray, List.set_cons_zero, List.set_cons_succ])
            go_cut [267] (fun v267 wc => ∃ (kq : Nat) (x267_163 : Bool), v267 = .bool x267_163 ∧ Aside0 (laws_FnChristoffelWords.j5 kq l1 t451 x267_163 = some r) ∧ Aside0 (kq ≤ k3) ∧ Aside0 (Below w.heap.size w wc))
            case first => as_aux_lemma =>
             have H := HC164.out; clear HC164
             by_cases c166 : x31_3 = 1
             ·as_aux_lemma =>
              rw [if_pos c166] at H
              have c166b0 : (x31_3 == 1) = true := beq_iff_eq.mpr c166
              have c166b1 : (x31_3 != 1) = false := bne_eq_false_iff_eq.mpr c166
              clear c166
              (first | rw [c166b0] | (simp only [i64_w, i32_w]; rw [c166b0]) | skip)
              by_cases c167 : t452 = true
              ·subst c167
               have H1 : (laws_FnChristoffelWords.j5 k3 l1 t451 ((t451.size : Int) != (wrap64 ((t418.size : Int) - 2)))) = some r := by rw [if_pos rfl] at H; exact H
               clear H; have H := H1; clear H1
               have H' := Aside0.mk H
               clear H
               go_wp2
               repeat (go_quiet (fail); try go_wp2)
               go_meet
               case rel => exact ⟨_, (((t451.size : Int) != (wrap64 ((t418.size : Int) - 2)))), (by first | rfl | (simp; done) | (simp [*]; done)), H', ⟨by have := HJ9.out; have := HJ25.out; have := HK3.out; first | omega | exact Nat.le_refl _⟩, ⟨by repeat (first | (with_reducible first | exact HB.out | apply below_alloc | apply pw_below_drewN | apply below_drew1) | exact HB.out)⟩⟩
              ·replace c167 := Bool.eq_false_iff.mpr c167
               subst c167
               have H1 : (laws_FnChristoffelWords.j5 k3 l1 t451 true) = some r := by rw [if_neg (show ¬ (false = true) by decide)] at H; exact H
               clear H; have H := H1; clear H1
               have H' := Aside0.mk H
               clear H
               go_wp2
               repeat (go_quiet (fail); try go_wp2)
               go_meet
               case rel => exact ⟨_, (true), (by first | rfl | (simp; done) | (simp [*]; done)), H', ⟨by have := HJ9.out; have := HJ25.out; have := HK3.out; first | omega | exact Nat.le_refl _⟩, ⟨by repeat (first | (with_reducible first | exact HB.out | apply below_alloc | apply pw_below_drewN | apply below_drew1) | exact HB.out)⟩⟩
             ·rw [if_neg c166] at H
              have c166b0 : (x31_3 == 1) = false := beq_eq_false_iff_ne.mpr c166
              have c166b1 : (x31_3 != 1) = true := bne_iff_ne.mpr c166
              (first | rw [c166b0] | (simp only [i64_w, i32_w]; rw [c166b0]) | skip)
              have H' := Aside0.mk H
              clear H
              go_wp2
              repeat (go_quiet (fail); try go_wp2)
              go_meet
              case rel => exact ⟨_, (true), (by first | rfl | (simp; done) | (simp [*]; done)), H', ⟨by have := HJ9.out; have := HJ25.out; have := HK3.out; first | omega | exact Nat.le_refl _⟩, ⟨by repeat (first | (with_reducible first | exact HB.out | apply below_alloc | apply pw_below_drewN | apply below_drew1) | exact HB.out)⟩⟩
            case rest => as_aux_lemma =>
             clear HC164
             try clear c1
             try clear c2
             try clear p2
             try clear c3
             try clear c4
             try clear p6
             try clear c12
             try clear c14
             try clear c14b0
             try clear c14b1
             try clear c14b2
             try clear c15
             try clear c15b0
             try clear c15b1
             try clear c16
             try clear c16b0
             try clear c16b1
             try clear c17
             try clear c17b0
             try clear c17b1
             try clear c17b2
             try clear c18
             try clear c18b0
             try clear c18b1
             try clear c18b2
             try clear c20
             try clear c20b0
             try clear c20b1
             try clear c20b2
             try clear c22
             try clear c25
             try clear c27
             try clear c35
             try clear c36
             try clear c37
             try clear c37b0
             try clear c37b1
             try clear c38
             try clear c39
             try clear c39b0
             try clear c39b1
             try clear c40
             try clear c41
             try clear c42
             try clear c43
             try clear c44
             try clear c45
             try clear c46
             try clear c46b0
             try clear c46b1
             try clear c46b2
             try clear p64
             try clear c141
             try clear c142
             try clear c142b0
             try clear c143
             try clear c143b0
             try clear c143b1
             try clear c144
             try clear c144b0
             try clear c144b1
             try clear c146
             try clear c146b0
             try clear c147
             try clear c147b0
             try clear c152
             try clear c153
             try clear c155
             try clear c156
             try clear c157
             try clear c157b0
             try clear c157b1
             try clear c158
             try clear c158b0
             try clear c158b1
             try clear c159
             try clear c159b0
             try clear c159b1
             try clear c160
             try clear c160b0
             try clear c161
             try clear c161b0
             try clear c162
             try clear c162b0
             try clear c162b1
             try clear c166
             try clear c166b0
             try clear c166b1
             try clear c167
             try clear p2
             obtain ⟨kq, x267_163, rfl, HA, HJ163, HB⟩ := hcut
             cases kq with
             | zero => exact absurd HA.out (by simp [laws_FnChristoffelWords.j5])
             | succ kj163 =>
              have H := HA.out; clear HA
              simp only [laws_FnChristoffelWords.j5] at H
              by_cases c168 : x267_163 = true
              ·subst c168
               have H1 : (some false) = some r := by rw [if_pos rfl] at H; exact H
               clear H; have H := H1; clear H1
               obtain rfl := Option.some.inj H
               go_wp2
               repeat (go_quiet (fail); try go_wp2)
               go_ret
               exact ⟨by first | rfl | (simp [errW_none, errW_some] <;> rfl) | (simp [*, errW_none, errW_some] <;> rfl), by repeat (first | (with_reducible first | exact HB.out | apply below_alloc | apply pw_below_drewN | apply below_drew1) | exact HB.out)⟩
              ·as_aux_lemma =>
               replace c168 := Bool.eq_false_iff.mpr c168
               subst c168
               have H1 : (laws_FnChristoffelWords.l1 kj163 l1 t451 0) = some r := by rw [if_neg (show ¬ (false = true) by decide)] at H; exact H
               clear H; have H := H1; clear H1
               have H' := Aside0.mk H
               clear H
               go_wp2
               repeat (go_quiet (fail); try go_wp2)
               go_loopg [39] kj163 (fun kq v39 w' => ∃ (x39_5 : Int), v39 = .int .i64 x39_5 ∧ Aside0 (laws_FnChristoffelWords.l1 kq l1 t451 x39_5 = some r) ∧ Aside0 (kq ≤ kj163) ∧ Aside0 (Below w.heap.size w w'))
               case atStart => exact ⟨(0), (by first | rfl | (simp; done) | (simp [*]; done)), H', ⟨Nat.le_refl _⟩, ⟨by repeat (first | (with_reducible first | exact HB.out | apply below_alloc | apply pw_below_drewN | apply below_drew1) | exact HB.out)⟩⟩
               case round => as_aux_lemma =>
                clear H'
                try clear c1
                try clear c2
                try clear p2
                try clear c3
                try clear c4
                try clear p6
                try clear c12
                try clear c14
                try clear c14b0
                try clear c14b1
                try clear c14b2
                try clear c15
                try clear c15b0
                try clear c15b1
                try clear c16
                try clear c16b0
                try clear c16b1
                try clear c17
                try clear c17b0
                try clear c17b1
                try clear c17b2
                try clear c18
                try clear c18b0
                try clear c18b1
                try clear c18b2
                try clear c20
                try clear c20b0
                try clear c20b1
                try clear c20b2
                try clear c22
                try clear c25
                try clear c27
                try clear c35
                try clear c36
                try clear c37
                try clear c37b0
                try clear c37b1
                try clear c38
                try clear c39
                try clear c39b0
                try clear c39b1
                try clear c40
                try clear c41
                try clear c42
                try clear c43
                try clear c44
                try clear c45
                try clear c46
                try clear c46b0
                try clear c46b1
                try clear c46b2
                try clear p64
                try clear c141
                try clear c142
                try clear c142b0
                try clear c143
                try clear c143b0
                try clear c143b1
                try clear c144
                try clear c144b0
                try clear c144b1
                try clear c146
                try clear c146b0
                try clear c147
                try clear c147b0
                try clear c152
                try clear c153
                try clear c155
                try clear c156
                try clear c157
                try clear c157b0
                try clear c157b1
                try clear c158
                try clear c158b0
                try clear c158b1
                try clear c159
                try clear c159b0
                try clear c159b1
                try clear c160
                try clear c160b0
                try clear c161
                try clear c161b0
                try clear c162
                try clear c162b0
                try clear c162b1
                try clear c166
                try clear c166b0
                try clear c166b1
                try clear c167
                try clear c168
                try clear p2
                try clear p6
                try clear p64
                obtain ⟨x39_5, rfl, HA, HK5, HB⟩ := hrel
                cases gk with
                | zero => exact absurd HA.out (by simp [laws_FnChristoffelWords.l1])
                | succ k5 =>
                 have H := HA.out; clear HA
                 simp only [laws_FnChristoffelWords.l1] at H
                 by_cases c169 : x39_5 < (t451.size : Int)
                 ·as_aux_lemma =>
                  rw [if_pos c169] at H
                  have c169b0 : decide (x39_5 < (t451.size : Int)) = true := decide_eq_true c169
                  clear c169
                  by_cases c170 : 0 ≤ x39_5
                  rotate_left
                  ·rw [if_neg c170] at H
                   exact absurd H (by simp)
                  as_aux_lemma =>
                  rw [if_pos c170] at H
                  have c170b0 : decide (0 ≤ x39_5) = true := decide_eq_true c170
                  clear c170
                  obtain ⟨ji172, hji172⟩ : ∃ j_ : Int, (wrap64 ((wrap64 ((t451.size : Int) - 1)) - x39_5)) = j_ := ⟨_, rfl⟩
                  replace H : (if 0 ≤ (ji172) then (if (ji172) < (t451.size : Int) then (if (bt t451 x39_5) = (bt t451 (ji172)) then (laws_FnChristoffelWords.l1 k5 l1 t451 (wrap64 (x39_5 + 1))) else (some false)) else (none)) else (none)) = some r := by first | (rw [hji172] at H; exact H) | (simp only [hji172] at H ⊢; exact H)
                  have hji172w : (IntKind.i64.wrap ((wrap64 ((t451.size : Int) - 1)) - x39_5)) = ji172 := (i64_w _).trans hji172
                  by_cases c173 : 0 ≤ (ji172)
                  rotate_left
                  ·rw [if_neg c173] at H
                   exact absurd H (by simp)
                  as_aux_lemma =>
                  rw [if_pos c173] at H
                  have c173b0 : decide (0 ≤ (ji172)) = true := decide_eq_true c173
                  clear c173
                  by_cases c174 : (ji172) < (t451.size : Int)
                  rotate_left
                  ·rw [if_neg c174] at H
                   exact absurd H (by simp)
                  as_aux_lemma =>
                  rw [if_pos c174] at H
                  have c174b0 : decide ((ji172) < (t451.size : Int)) = true := decide_eq_true c174
                  clear c174
                  by_cases c176 : (bt t451 x39_5) = (bt t451 (ji172))
                  ·as_aux_lemma =>
                   rw [if_pos c176] at H
                   have c176b0 : ((bt t451 x39_5) == (bt t451 (ji172))) = true := beq_iff_eq.mpr c176
                   have c176b1 : ((bt t451 x39_5) != (bt t451 (ji172))) = false := bne_eq_false_iff_eq.mpr c176
                   clear c176
                   have H' := Aside0.mk H
                   clear H
                   have p171 : 0 ≤ (x39_5 : Int) := of_decide_eq_true (by first | (with_reducible assumption) | assumption)
                   have q171 : x39_5 < (t451.size : Int) := of_decide_eq_true (by first | (with_reducible assumption) | assumption)
                   have hx171 := bt_at t451 x39_5
                   replace p171 := eq_true p171; replace q171 := eq_true q171
                   have p175 : 0 ≤ ((ji172) : Int) := of_decide_eq_true (by first | (with_reducible assumption) | assumption)
                   have q175 : (ji172) < (t451.size : Int) := of_decide_eq_true (by first | (with_reducible assumption) | assumption)
                   have hx175 := bt_at t451 (ji172)
                   replace p175 := eq_true p175; replace q175 := eq_true q175
                   go_wp2
                   repeat (go_quiet (fail); try go_wp2)
                   go_roundg k5
                   case measure => have := HJ9.out; have := HJ25.out; have := HK3.out; have := HJ163.out; have := HK5.out; omega
                   case rel => exact ⟨(wrap64 (x39_5 + 1)), (by first | rfl | (simp; done) | (simp [*]; done)), H', ⟨by have := HJ9.out; have := HJ25.out; have := HK3.out; have := HJ163.out; have := HK5.out; omega⟩, ⟨by repeat (first | (with_reducible first | exact HB.out | apply below_alloc | apply pw_below_drewN | apply below_drew1) | exact HB.out)⟩⟩
                  ·as_aux_lemma =>
                   rw [if_neg c176] at H
                   have c176b0 : ((bt t451 x39_5) == (bt t451 (ji172))) = false := beq_eq_false_iff_ne.mpr c176
                   have c176b1 : ((bt t451 x39_5) != (bt t451 (ji172))) = true := bne_iff_ne.mpr c176
                   obtain rfl := Option.some.inj H
                   have p171 : 0 ≤ (x39_5 : Int) := of_decide_eq_true (by first | (with_reducible assumption) | assumption)
                   have q171 : x39_5 < (t451.size : Int) := of_decide_eq_true (by first | (with_reducible assumption) | assumption)
                   have hx171 := bt_at t451 x39_5
                   replace p171 := eq_true p171; replace q171 := eq_true q171
                   have p175 : 0 ≤ ((ji172) : Int) := of_decide_eq_true (by first | (with_reducible assumption) | assumption)
                   have q175 : (ji172) < (t451.size : Int) := of_decide_eq_true (by first | (with_reducible assumption) | assumption)
                   have hx175 := bt_at t451 (ji172)
                   replace p175 := eq_true p175; replace q175 := eq_true q175
                   go_wp2
                   repeat (go_quiet (fail); try go_wp2)
                   go_ret
                   exact ⟨by first | rfl | (simp [errW_none, errW_some] <;> rfl) | (simp only [← hji172]; first | rfl | (simp [errW_none, errW_some] <;> rfl)) | (simp [*, errW_none, errW_some] <;> rfl), by repeat (first | (with_reducible first | exact HB.out | apply below_alloc | apply pw_below_drewN | apply below_drew1) | exact HB.out)⟩
                 ·rw [if_neg c169] at H
                  have c169b0 : decide (x39_5 < (t451.size : Int)) = false := decide_eq_false c169
                  clear c169
                  have H' := Aside0.mk H
                  clear H
                  go_wp2
                  repeat (go_quiet (fail); try go_wp2)
                  go_meet
                  case rel => exact ⟨_, H', ⟨by have := HJ9.out; have := HJ25.out; have := HK3.out; have := HJ163.out; have := HK5.out; first | omega | exact Nat.le_refl _⟩, ⟨by repeat (first | (with_reducible first | exact HB.out | apply below_alloc | apply pw_below_drewN | apply below_drew1) | exact HB.out)⟩⟩
        ·replace c141 := Bool.eq_false_iff.mpr c141
         subst c141
         have H1 : (laws_FnChristoffelWords.j7 kj25 l1) = some r := by rw [if_neg (show ¬ (false = true) by decide)] at H; exact H
         clear H; have H := H1; clear H1
         have H' := Aside0.mk H
         clear H
         go_wp2
         repeat (go_quiet (fail); try go_wp2)
         go_meet
         case rel => exact ⟨_, H', ⟨by have := HJ9.out; have := HJ25.out; first | omega | exact Nat.le_refl _⟩, ⟨by repeat (first | (with_reducible first | exact HB.out | apply below_alloc | apply pw_below_drewN | apply below_drew1) | exact HB.out)⟩⟩
       case rest => as_aux_lemma =>
        clear HC140
        try clear c1
        try clear p1
        try clear q1
        try clear hx1
        try clear c2
        try clear p2
        try clear c3
        try clear c4
        try clear p6
        try clear c12
        try clear c14
        try clear c14b0
        try clear c14b1
        try clear c14b2
        try clear c15
        try clear c15b0
        try clear c15b1
        try clear c16
        try clear c16b0
        try clear c16b1
        try clear c17
        try clear c17b0
        try clear c17b1
        try clear c17b2
        try clear p17
        try clear q17
        try clear hx17
        try clear c18
        try clear c18b0
        try clear c18b1
        try clear c18b2
        try clear c20
        try clear c20b0
        try clear c20b1
        try clear c20b2
        try clear c22
        try clear c25
        try clear c27
        try clear c35
        try clear c36
        try clear c37
        try clear c37b0
        try clear c37b1
        try clear c38
        try clear c39
        try clear c39b0
        try clear c39b1
        try clear c40
        try clear c41
        try clear c42
        try clear c43
        try clear c44
        try clear c45
        try clear c46
        try clear c46b0
        try clear c46b1
        try clear c46b2
        try clear p64
        try clear c141
        try clear c142
        try clear c142b0
        try clear c143
        try clear c143b0
        try clear c143b1
        try clear c144
        try clear c144b0
        try clear c144b1
        try clear c146
        try clear c146b0
        try clear c147
        try clear c147b0
        try clear c152
        try clear c153
        try clear c155
        try clear c156
        try clear c157
        try clear c157b0
        try clear c157b1
        try clear c158
        try clear c158b0
        try clear c158b1
        try clear c159
        try clear c159b0
        try clear c159b1
        try clear c160
        try clear c160b0
        try clear c161
        try clear c161b0
        try clear c162
        try clear c162b0
        try clear c162b1
        try clear c166
        try clear c166b0
        try clear c166b1
        try clear c167
        try clear c168
        try clear c169
        try clear c169b0
        try clear c170
        try clear c170b0
        try clear p171
        try clear q171
        try clear hx171
        try clear c173
        try clear c173b0
        try clear c174
        try clear c174b0
        try clear p175
        try clear q175
        try clear hx175
        try clear c176
        try clear c176b0
        try clear c176b1
        try clear p171
        try clear p175
        try clear p2
        try clear p6
        try clear p64
        try clear q171
        try clear q175
        obtain ⟨kq, HA, HJ139, HB⟩ := hcut
        cases kq with
        | zero => exact absurd HA.out (by simp [laws_FnChristoffelWords.j7])
        | succ kj139 =>
         have H := HA.out; clear HA
         simp only [laws_FnChristoffelWords.j7] at H
         replace H := Option.bind_eq_some_iff.mp H
         obtain ⟨⟨t453, t454⟩, A1770, H⟩ := H
         replace H : ((impl_ChristoffelOf.f kj139 t453 t454).bind fun bt455 => ((spec_ChristoffelOf.f kj139 t453 t454).bind fun bt457 => (if (bt455.2 != bt457.2) = true then (laws_FnChristoffelWords.j8 kj139 t453 t454 bt455.1 bt455.2 true) else (laws_FnChristoffelWords.j8 kj139 t453 t454 bt455.1 bt455.2 (bt455.1.toList != bt457.1.toList))))) = some r := H
         have A177 := Aside0.mk A1770
         clear A1770
         replace H := Option.bind_eq_some_iff.mp H
         obtain ⟨⟨t455, t456⟩, A1780, H⟩ := H
         replace H : ((spec_ChristoffelOf.f kj139 t453 t454).bind fun bt457 => (if (t456 != bt457.2) = true then (laws_FnChristoffelWords.j8 kj139 t453 t454 t455 t456 true) else (laws_FnChristoffelWords.j8 kj139 t453 t454 t455 t456 (t455.toList != bt457.1.toList)))) = some r := H
         have A178 := Aside0.mk A1780
         clear A1780
         replace H := Option.bind_eq_some_iff.mp H
         obtain ⟨⟨t457, t458⟩, A1790, H⟩ := H
         replace H : (if (t456 != t458) = true then (laws_FnChristoffelWords.j8 kj139 t453 t454 t455 t456 true) else (laws_FnChristoffelWords.j8 kj139 t453 t454 t455 t456 (t455.toList != t457.toList))) = some r := H
         have A179 := Aside0.mk A1790
         clear A1790
         have HC180 := Aside0.mk H
         clear H
         go_upto_region 44 with (first | (go_at_call 40; (with_reducible refine (spec_DrawChristoffelOf.calls _ _ l1 t453 t454 _ ?side1 ?side2 A177.out).mono ?_); (case side1 => repeat (first | exact (Kd.C_below HR1.out HB.out) | (with_reducible refine Kd.C_alloc ?_ _) | (with_reducible refine Kd.C_drewN ?_ _) | (with_reducible refine Kd.C_drew ?_))); (case side2 => exact HC1.out); rintro e w181 ⟨rfl, hb⟩; have n0_ := Aside0.mk (below_step (by repeat (first | (with_reducible first | exact HB.out | apply below_alloc | apply pw_below_drewN | apply below_drew1) | exact HB.out)) hb); clear HB; have HB := n0_; clear n0_; (try clear hb); (try clear hb2); (try clear hk); (try clear hi)) | (go_at_call 38; (with_reducible refine (impl_ChristoffelOf.calls kj139 t453 t454 t455 t456 _ A178.out).mono ?_); rintro e w182 ⟨rfl, hb⟩; have n0_ := Aside0.mk (below_step (by repeat (first | (with_reducible first | exact HB.out | apply below_alloc | apply pw_below_drewN | apply below_drew1) | exact HB.out)) hb); clear HB; have HB := n0_; clear n0_; (try clear hb); (try clear hb2); (try clear hk); (try clear hi)) | (go_at_call 41; (with_reducible refine (spec_ChristoffelOf.calls kj139 t453 t454 t457 t458 _ A179.out).mono ?_); rintro e w' ⟨rfl, ⟨nd, rfl⟩⟩; (try first | exact ⟨rfl, _, World.drewN_drewN _ _ _⟩ | exact ⟨rfl, _, Eq.trans (World.drewN_drewN _ _ _) (congrArg (World.drewN _) (Nat.add_assoc _ _ _))⟩)))
         repeat (go_quiet (first | (go_at_call 40; (with_reducible refine (spec_DrawChristoffelOf.calls _ _ l1 t453 t454 _ ?side1 ?side2 A177.out).mono ?_); (case side1 => repeat (first | exact (Kd.C_below HR1.out HB.out) | (with_reducible refine Kd.C_alloc ?_ _) | (with_reducible refine Kd.C_drewN ?_ _) | (with_reducible refine Kd.C_drew ?_))); (case side2 => exact HC1.out); rintro e w181 ⟨rfl, hb⟩; have n0_ := Aside0.mk (below_step (by repeat (first | (with_reducible first | exact HB.out | apply below_alloc | apply pw_below_drewN | apply below_drew1) | exact HB.out)) hb); clear HB; have HB := n0_; clear n0_; (try clear hb); (try clear hb2); (try clear hk); (try clear hi)) | (go_at_call 38; (with_reducible refine (impl_ChristoffelOf.calls kj139 t453 t454 t455 t456 _ A178.out).mono ?_); rintro e w182 ⟨rfl, hb⟩; have n0_ := Aside0.mk (below_step (by repeat (first | (with_reducible first | exact HB.out | apply below_alloc | apply pw_below_drewN | apply below_drew1) | exact HB.out)) hb); clear HB; have HB := n0_; clear n0_; (try clear hb); (try clear hb2); (try clear hk); (try clear hi)) | (go_at_call 41; (with_reducible refine (spec_ChristoffelOf.calls kj139 t453 t454 t457 t458 _ A179.out).mono ?_); rintro e w' ⟨rfl, ⟨nd, rfl⟩⟩; (try first | exact ⟨rfl, _, World.drewN_drewN _ _ _⟩ | exact ⟨rfl, _, Eq.trans (World.drewN_drewN _ _ _) (congrArg (World.drewN _) (Nat.add_assoc _ _ _))⟩))); go_upto_region 44 with (first | (go_at_call 40; (with_reducible refine (spec_DrawChristoffelOf.calls _ _ l1 t453 t454 _ ?side1 ?side2 A177.out).mono ?_); (case side1 => repeat (first | exact (Kd.C_below HR1.out HB.out) | (with_reducible refine Kd.C_alloc ?_ _) | (with_reducible refine Kd.C_drewN ?_ _) | (with_reducible refine Kd.C_drew ?_))); (case side2 => exact HC1.out); rintro e w181 ⟨rfl, hb⟩; have n0_ := Aside0.mk (below_step (by repeat (first | (with_reducible first | exact HB.out | apply below_alloc | apply pw_below_drewN | apply below_drew1) | exact HB.out)) hb); clear HB; have HB := n0_; clear n0_; (try clear hb); (try clear hb2); (try clear hk); (try clear hi)) | (go_at_call 38; (with_reducible refine (impl_ChristoffelOf.calls kj139 t453 t454 t455 t456 _ A178.out).mono ?_); rintro e w182 ⟨rfl, hb⟩; have n0_ := Aside0.mk (below_step (by repeat (first | (with_reducible first | exact HB.out | apply below_alloc | apply pw_below_drewN | apply below_drew1) | exact HB.out)) hb); clear HB; have HB := n0_; clear n0_; (try clear hb); (try clear hb2); (try clear hk); (try clear hi)) | (go_at_call 41; (with_reducible refine (spec_ChristoffelOf.calls kj139 t453 t454 t457 t458 _ A179.out).mono ?_); rintro e w' ⟨rfl, ⟨nd, rfl⟩⟩; (try first | exact ⟨rfl, _, World.drewN_drewN _ _ _⟩ | exact ⟨rfl, _, Eq.trans (World.drewN_drewN _ _ _) (congrArg (World.drewN _) (Nat.add_assoc _ _ _))⟩))))
         (try simp only [Act.put, List.setIfInBounds_toArray, List.set_cons_zero, List.set_cons_succ])
         go_cut [309] (fun v309 wc => ∃ (kq : Nat) (x309_179 : Bool), v309 = .bool x309_179 ∧ Aside0 (laws_FnChristoffelWords.j8 kq t453 t454 t455 t456 x309_179 = some r) ∧ Aside0 (kq ≤ kj139) ∧ Aside0 (Below w.heap.size w wc))
         case first => as_aux_lemma =>
          have H := HC180.out; clear HC180
          by_cases c183 : (t456 != t458) = true
          ·as_aux_lemma =>
           rw [if_pos c183] at H
           have c183b0 : (t456 != t458) = true := c183
           (try (have c183b1 : decide (t456 = t458) = false := by simpa using c183))
           (try (have c183b2 : (t456 == t458) = false := by simpa using c183))
           (try (have c183b3 : ¬ (t456 = t458) := by simpa using c183))
           clear c183
           (first | rw [c183b0] | (simp only [i64_w, i32_w]; rw [c183b0]) | skip)
           have H' := Aside0.mk H
           clear H
           go_wp2
           repeat (go_quiet (fail); try go_wp2)
           go_meet
           case rel => exact ⟨_, (true), (by first | rfl | (simp; done) | (simp [*]; done)), H', ⟨by have := HJ9.out; have := HJ25.out; have := HJ139.out; first | omega | exact Nat.le_refl _⟩, ⟨by repeat (first | (with_reducible first | exact HB.out | apply below_alloc | apply pw_below_drewN | apply below_drew1) | exact HB.out)⟩⟩
          ·rw [if_neg c183] at H
           have c183b0 : (t456 != t458) = false := by simpa using c183
           (try (have c183b1 : decide (t456 = t458) = true := by simpa using c183))
           (try (have c183b2 : (t456 == t458) = true := by simpa using c183))
           clear c183
           (first | rw [c183b0] | (simp only [i64_w, i32_w]; rw [c183b0]) | skip)
           have H' := Aside0.mk H
           clear H
           go_wp2
           repeat (go_quiet (fail); try go_wp2)
           go_meet
           case rel => exact ⟨_, ((t455.toList != t457.toList)), (by first | rfl | (simp; done) | (simp [*]; done)), H', ⟨by have := HJ9.out; have := HJ25.out; have := HJ139.out; first | omega | exact Nat.le_refl _⟩, ⟨by repeat (first | (with_reducible first | exact HB.out | apply below_alloc | apply pw_below_drewN | apply below_drew1) | exact HB.out)⟩⟩
         case rest => as_aux_lemma =>
          clear HC180
          try clear c1
          try clear p1
          try clear q1
          try clear hx1
          try clear c2
          try clear p2
          try clear c3
          try clear c4
          try clear p6
          try clear c12
          try clear c14
          try clear c14b0
          try clear c14b1
          try clear c14b2
          try clear c15
          try clear c15b0
          try clear c15b1
          try clear c16
          try clear c16b0
          try clear c16b1
          try clear c17
          try clear c17b0
          try clear c17b1
          try clear c17b2
          try clear p17
          try clear q17
          try clear hx17
          try clear c18
          try clear c18b0
          try clear c18b1
          try clear c18b2
          try clear c20
          try clear c20b0
          try clear c20b1
          try clear c20b2
          try clear c22
          try clear c25
          try clear c27
          try clear c35
          try clear c36
          try clear c37
          try clear c37b0
          try clear c37b1
          try clear c38
          try clear c39
          try clear c39b0
          try clear c39b1
          try clear c40
          try clear c41
          try clear c42
          try clear c43
          try clear c44
          try clear c45
          try clear c46
          try clear c46b0
          try clear c46b1
          try clear c46b2
          try clear p64
          try clear c141
          try clear c142
          try clear c142b0
          try clear c143
          try clear c143b0
          try clear c143b1
          try clear c144
          try clear c144b0
          try clear c144b1
          try clear c146
          try clear c146b0
          try clear c147
          try clear c147b0
          try clear c152
          try clear c153
          try clear c155
          try clear c156
          try clear c157
          try clear c157b0
          try clear c157b1
          try clear c158
          try clear c158b0
          try clear c158b1
          try clear c159
          try clear c159b0
          try clear c159b1
          try clear c160
          try clear c160b0
          try clear c161
          try clear c161b0
          try clear c162
          try clear c162b0
          try clear c162b1
          try clear c166
          try clear c166b0
          try clear c166b1
          try clear c167
          try clear c168
          try clear c169
          try clear c169b0
          try clear c170
          try clear c170b0
          try clear p171
          try clear q171
          try clear hx171
          try clear c173
          try clear c173b0
          try clear c174
          try clear c174b0
          try clear p175
          try clear q175
          try clear hx175
          try clear c176
          try clear c176b0
          try clear c176b1
          try clear c183
          try clear c183b0
          try clear c183b1
          try clear c183b2
          try clear p1
          try clear p17
          try clear p171
          try clear p175
          try clear p2
          try clear p6
          try clear p64
          try clear q1
          try clear q17
          try clear q171
          try clear q175
          obtain ⟨kq, x309_179, rfl, HA, HJ179, HB⟩ := hcut
          cases kq with
          | zero => exact absurd HA.out (by simp [laws_FnChristoffelWords.j8])
          | succ kj179 =>
           have H := HA.out; clear HA
           simp only [laws_FnChristoffelWords.j8] at H
           by_cases c184 : x309_179 = true
           ·subst c184
            have H1 : (some false) = some r := by rw [if_pos rfl] at H; exact H
            clear H; have H := H1; clear H1
            obtain rfl := Option.some.inj H
            go_wp2
            repeat (go_quiet (fail); try go_wp2)
            go_ret
            exact ⟨by first | rfl | (simp [errW_none, errW_some] <;> rfl) | (simp [*, errW_none, errW_some] <;> rfl), by repeat (first | (with_reducible first | exact HB.out | apply below_alloc | apply pw_below_drewN | apply below_drew1) | exact HB.out)⟩
           ·as_aux_lemma =>
            replace c184 := Bool.eq_false_iff.mpr c184
            subst c184
            have H1 : (if t456 = true then ((impl_CountsOf.f t455).bind fun bt459 => (if bt459.2.2 = true then (if bt459.1 = t453 then (some (bt459.2.1 == t454)) else (some false)) else (some false))) else (some true)) = some r := by rw [if_neg (show ¬ (false = true) by decide)] at H; exact H
            clear H; have H := H1; clear H1
            by_cases c185 : t456 = true
            ·as_aux_lemma =>
             subst c185
             have H1 : ((impl_CountsOf.f t455).bind fun bt459 => (if bt459.2.2 = true then (if bt459.1 = t453 then (some (bt459.2.1 == t454)) else (some false)) else (some false))) = some r := by rw [if_pos rfl] at H; exact H
             clear H; have H := H1; clear H1
             replace H := Option.bind_eq_some_iff.mp H
             obtain ⟨⟨t459, t460, t461⟩, A1860, H⟩ := H
             replace H : (if t461 = true then (if t459 = t453 then (some (t460 == t454)) else (some false)) else (some false)) = some r := H
             have A186 := Aside0.mk A1860
             clear A1860
             by_cases c187 : t461 = true
             ·as_aux_lemma =>
              subst c187
              have H1 : (if t459 = t453 then (some (t460 == t454)) else (some false)) = some r := by rw [if_pos rfl] at H; exact H
              clear H; have H := H1; clear H1
              by_cases c188 : t459 = t453
              ·rw [if_pos c188] at H
               have c188b0 : (t459 == t453) = true := beq_iff_eq.mpr c188
               have c188b1 : (t459 != t453) = false := bne_eq_false_iff_eq.mpr c188
               clear c188
               obtain rfl := Option.some.inj H
               go_wp2_with (first | (go_at_call 15; (with_reducible refine (impl_CountsOf.calls t455 t459 t460 true _ A186.out).mono ?_); rintro e w189 ⟨rfl, hb⟩; have n0_ := Aside0.mk (below_step (by repeat (first | (with_reducible first | exact HB.out | apply below_alloc | apply pw_below_drewN | apply below_drew1) | exact HB.out)) hb); clear HB; have HB := n0_; clear n0_; (try clear hb); (try clear hb2); (try clear hk); (try clear hi)))
               repeat (go_quiet (first | (go_at_call 15; (with_reducible refine (impl_CountsOf.calls t455 t459 t460 true _ A186.out).mono ?_); rintro e w189 ⟨rfl, hb⟩; have n0_ := Aside0.mk (below_step (by repeat (first | (with_reducible first | exact HB.out | apply below_alloc | apply pw_below_drewN | apply below_drew1) | exact HB.out)) hb); clear HB; have HB := n0_; clear n0_; (try clear hb); (try clear hb2); (try clear hk); (try clear hi))); try go_wp2_with (first | (go_at_call 15; (with_reducible refine (impl_CountsOf.calls t455 t459 t460 true _ A186.out).mono ?_); rintro e w189 ⟨rfl, hb⟩; have n0_ := Aside0.mk (below_step (by repeat (first | (with_reducible first | exact HB.out | apply below_alloc | apply pw_below_drewN | apply below_drew1) | exact HB.out)) hb); clear HB; have HB := n0_; clear n0_; (try clear hb); (try clear hb2); (try clear hk); (try clear hi))))
               go_ret
               exact ⟨by first | rfl | (simp [errW_none, errW_some] <;> rfl) | (simp [*, errW_none, errW_some] <;> rfl), by repeat (first | (with_reducible first | exact HB.out | apply below_alloc | apply pw_below_drewN | apply below_drew1) | exact HB.out)⟩
              ·rw [if_neg c188] at H
               have c188b0 : (t459 == t453) = false := beq_eq_false_iff_ne.mpr c188
               have c188b1 : (t459 != t453) = true := bne_iff_ne.mpr c188
               obtain rfl := Option.some.inj H
               go_wp2_with (first | (go_at_call 15; (with_reducible refine (impl_CountsOf.calls t455 t459 t460 true _ A186.out).mono ?_); rintro e w190 ⟨rfl, hb⟩; have n0_ := Aside0.mk (below_step (by repeat (first | (with_reducible first | exact HB.out | apply below_alloc | apply pw_below_drewN | apply below_drew1) | exact HB.out)) hb); clear HB; have HB := n0_; clear n0_; (try clear hb); (try clear hb2); (try clear hk); (try clear hi)))
               repeat (go_quiet (first | (go_at_call 15; (with_reducible refine (impl_CountsOf.calls t455 t459 t460 true _ A186.out).mono ?_); rintro e w190 ⟨rfl, hb⟩; have n0_ := Aside0.mk (below_step (by repeat (first | (with_reducible first | exact HB.out | apply below_alloc | apply pw_below_drewN | apply below_drew1) | exact HB.out)) hb); clear HB; have HB := n0_; clear n0_; (try clear hb); (try clear hb2); (try clear hk); (try clear hi))); try go_wp2_with (first | (go_at_call 15; (with_reducible refine (impl_CountsOf.calls t455 t459 t460 true _ A186.out).mono ?_); rintro e w190 ⟨rfl, hb⟩; have n0_ := Aside0.mk (below_step (by repeat (first | (with_reducible first | exact HB.out | apply below_alloc | apply pw_below_drewN | apply below_drew1) | exact HB.out)) hb); clear HB; have HB := n0_; clear n0_; (try clear hb); (try clear hb2); (try clear hk); (try clear hi))))
               go_ret
               exact ⟨by first | rfl | (simp [errW_none, errW_some] <;> rfl) | (simp [*, errW_none, errW_some] <;> rfl), by repeat (first | (with_reducible first | exact HB.out | apply below_alloc | apply pw_below_drewN | apply below_drew1) | exact HB.out)⟩
             ·replace c187 := Bool.eq_false_iff.mpr c187
              subst c187
              have H1 : (some false) = some r := by rw [if_neg (show ¬ (false = true) by decide)] at H; exact H
              clear H; have H := H1; clear H1
              obtain rfl := Option.some.inj H
              go_wp2_with (first | (go_at_call 15; (with_reducible refine (impl_CountsOf.calls t455 t459 t460 false _ A186.out).mono ?_); rintro e w191 ⟨rfl, hb⟩; have n0_ := Aside0.mk (below_step (by repeat (first | (with_reducible first | exact HB.out | apply below_alloc | apply pw_below_drewN | apply below_drew1) | exact HB.out)) hb); clear HB; have HB := n0_; clear n0_; (try clear hb); (try clear hb2); (try clear hk); (try clear hi)))
              repeat (go_quiet (first | (go_at_call 15; (with_reducible refine (impl_CountsOf.calls t455 t459 t460 false _ A186.out).mono ?_); rintro e w191 ⟨rfl, hb⟩; have n0_ := Aside0.mk (below_step (by repeat (first | (with_reducible first | exact HB.out | apply below_alloc | apply pw_below_drewN | apply below_drew1) | exact HB.out)) hb); clear HB; have HB := n0_; clear n0_; (try clear hb); (try clear hb2); (try clear hk); (try clear hi))); try go_wp2_with (first | (go_at_call 15; (with_reducible refine (impl_CountsOf.calls t455 t459 t460 false _ A186.out).mono ?_); rintro e w191 ⟨rfl, hb⟩; have n0_ := Aside0.mk (below_step (by repeat (first | (with_reducible first | exact HB.out | apply below_alloc | apply pw_below_drewN | apply below_drew1) | exact HB.out)) hb); clear HB; have HB := n0_; clear n0_; (try clear hb); (try clear hb2); (try clear hk); (try clear hi))))
              go_ret
              exact ⟨by first | rfl | (simp [errW_none, errW_some] <;> rfl) | (simp [*, errW_none, errW_some] <;> rfl), by repeat (first | (with_reducible first | exact HB.out | apply below_alloc | apply pw_below_drewN | apply below_drew1) | exact HB.out)⟩
            ·replace c185 := Bool.eq_false_iff.mpr c185
             subst c185
             have H1 : (some true) = some r := by rw [if_neg (show ¬ (false = true) by decide)] at H; exact H
             clear H; have H := H1; clear H1
             obtain rfl := Option.some.inj H
             go_wp2
             repeat (go_quiet (fail); try go_wp2)
             go_ret
             exact ⟨by first | rfl | (simp [errW_none, errW_some] <;> rfl) | (simp [*, errW_none, errW_some] <;> rfl), by repeat (first | (with_reducible first | exact HB.out | apply below_alloc | apply pw_below_drewN | apply below_drew1) | exact HB.out)⟩

/-- THE ONE PURE STATEMENT of laws_FnChristoffelWords: yours. -/
def laws_FnChristoffelWords.Pure : Prop := ∀ (l0 : List Int) (l1 : List Int), l0.length ≤ maxLen → l0.length * 1 ≤ 140737488351232 → (∀ x ∈ l0, (Lit.int .u8 x).wf = true) → l1.length ≤ maxLen → l1.length * 1 ≤ 140737488351232 → (∀ x ∈ l1, (Lit.int .u8 x).wf = true) → ∃ k, laws_FnChristoffelWords.f k l0 l1 = some true
theorem laws_FnChristoffelWords.walk (P : laws_FnChristoffelWords.Pure) (a0 : Option Addr) (len0 cap0 : Nat) (z0 : List Int) (a1 : Option Addr) (len1 cap1 : Nat) (z1 : List Int) (w : World) (w0 : (a0 = none ∧ len0 = 0 ∧ cap0 = 0 ∧ z0 = []) ∨ ∃ x, a0 = some x ∧ len0 ≤ cap0 ∧ cap0 ≤ maxLen ∧ z0.length = cap0 ∧ (∀ i, i < z0.length → w.cell? (x.add i) = some (.int .u8 (z0.getD i 0))) ∧ ∀ n ∈ z0, (Lit.int .u8 n).wf = true) (y0 : len0 * 1 ≤ 140737488351232) (w1 : (a1 = none ∧ len1 = 0 ∧ cap1 = 0 ∧ z1 = []) ∨ ∃ x, a1 = some x ∧ len1 ≤ cap1 ∧ cap1 ≤ maxLen ∧ z1.length = cap1 ∧ (∀ i, i < z1.length → w.cell? (x.add i) = some (.int .u8 (z1.getD i 0))) ∧ ∀ n ∈ z1, (Lit.int .u8 n).wf = true) (y1 : len1 * 1 ≤ 140737488351232) :
  Calls Try.prog 12 #[.slice a0 len0 cap0, .slice a1 len1 cap1] w fun e w' => e = .returned (.bool true) ∧ Below w.heap.size w w' := by
 obtain ⟨l0, rfl, hr0, hm0, hw0, hc0⟩ := ReadsInt.ofRowC w0
 obtain ⟨l1, rfl, hr1, hm1, hw1, hc1⟩ := ReadsInt.ofRowC w1
 obtain ⟨k, h⟩ := P l0 l1 hm0 y0 hw0 hm1 y1 hw1
 refine (laws_FnChristoffelWords.calls k _ _ l0 _ _ l1 true w (Kd.C_of_reads (d := (0 : Int)) (h1 := fun _ => rfl) hr0) hc0 (Kd.C_of_reads (d := (0 : Int)) (h1 := fun _ => rfl) hr1) hc1 h).mono ?_
 rintro e w' ⟨rfl, hd⟩
 exact ⟨rfl, hd⟩

end Go.Proofs.Ytkphmbcoefkilaa.P
