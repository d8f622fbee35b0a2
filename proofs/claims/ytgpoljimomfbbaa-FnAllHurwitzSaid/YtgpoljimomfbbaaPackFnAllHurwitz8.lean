/- All solutions up to a bound are told in order, and each comes down to a fundamental one that is told, too. No condition. -/
import Derived.Test.YtgpoljimomfbbaaPackFnAllHurwitz7
-- PFFnAllHurwitz
namespace Go.Proofs.Ytgpoljimomfbbaa.P
open Go.RowKit Go.Proofs.YtgpoljimomfbbaaW.PrintWords Go.Proofs.YtgpoljimomfbbaaW.PrintLast
set_option linter.unusedVariables false
set_option linter.unusedSimpArgs false

/-! ### laws_FnAllHurwitz: function 5 -/
mutual
def laws_FnAllHurwitz.j0 : Nat → List Int → Int → Int → Int → Int → List (List Int) → Bool → List (List Int) → Bool → Option (Bool)
 | 0, _, _, _, _, _, _, _, _, _ => none
 | k + 1, x1, x5, x6, x7, x8, x9, x12, x13, x98 => if x98 = true then (some false) else ((spec_DrawFactorsFor.f x1).bind fun bt480 => ((impl_FactorsFor.f bt480.1 bt480.2.1 bt480.2.2).bind fun bt483 => ((spec_FactorsFor.f k bt480.1 bt480.2.1 bt480.2.2).bind fun bt487 => (if (bt483.2 != bt487.2) = true then (laws_FnAllHurwitz.j1 k x5 x6 x7 x8 x9 x12 x13 bt480.1 bt480.2.1 bt483.1 true) else ((laws_vSame.f k bt483.1 bt487.1).bind fun t491 => (laws_FnAllHurwitz.j1 k x5 x6 x7 x8 x9 x12 x13 bt480.1 bt480.2.1 bt483.1 (!t491)))))))
def laws_FnAllHurwitz.j1 : Nat → Int → Int → Int → Int → List (List Int) → Bool → List (List Int) → Int → Int → List Int → Bool → Option (Bool)
 | 0, _, _, _, _, _, _, _, _, _, _, _ => none
 | k + 1, x5, x6, x7, x8, x9, x12, x13, x17, x18, x20, x127 => if x127 = true then (some false) else (laws_FnAllHurwitz.l0 k x5 x6 x7 x8 x9 x12 x13 x17 x18 x20 (x20.length : Int) 0)
def laws_FnAllHurwitz.l0 : Nat → Int → Int → Int → Int → List (List Int) → Bool → List (List Int) → Int → Int → List Int → Int → Int → Option (Bool)
 | 0, _, _, _, _, _, _, _, _, _, _, _, _ => none
 | k + 1, x5, x6, x7, x8, x9, x12, x13, x17, x18, x128, x129, x130 => if x130 < x129 then (if 0 ≤ x130 then (if x130 < (x128.length : Int) then (if x18 = 0 then (if (rd x128 x130) > x17 then (some false) else (laws_FnAllHurwitz.l0 k x5 x6 x7 x8 x9 x12 x13 x17 x18 x128 x129 (wrap64 (x130 + 1)))) else (laws_FnAllHurwitz.l0 k x5 x6 x7 x8 x9 x12 x13 x17 x18 x128 x129 (wrap64 (x130 + 1)))) else (none)) else (none)) else (if x12 = true then (laws_FnAllHurwitz.l1 k x5 x6 x7 x8 x9 x13 x9 (x9.length : Int) 0) else (some true))
def laws_FnAllHurwitz.l1 : Nat → Int → Int → Int → Int → List (List Int) → List (List Int) → List (List Int) → Int → Int → Option (Bool)
 | 0, _, _, _, _, _, _, _, _, _ => none
 | k + 1, x5, x6, x7, x8, x9, x13, x144, x145, x146 => if x146 < x145 then (if 0 ≤ x146 then (if x146 < (x144.length : Int) then ((impl_FundamentalOf.f k (rd_L1 x144 x146) x6 x7).bind fun bt494 => (if bt494.2 = true then ((laws_vHas.f k x13 bt494.1).bind fun t498 => (if t498 = true then (if 0 < ((rd_L1 x144 x146).length : Int) then (if (rd (rd_L1 x144 x146) 0) > x8 then (some false) else (if ((rd_L1 x144 x146).length : Int) = x5 then (if x146 > 0 then (if 0 ≤ (wrap64 (x146 - 1)) then (if (wrap64 (x146 - 1)) < (x9.length : Int) then ((laws_vBefore.f k (rd_L1 x9 (wrap64 (x146 - 1))) (rd_L1 x144 x146)).bind fun t501 => (if t501 = true then (laws_FnAllHurwitz.l1 k x5 x6 x7 x8 x9 x13 x144 x145 (wrap64 (x146 + 1))) else (some false))) else (none)) else (none)) else (laws_FnAllHurwitz.l1 k x5 x6 x7 x8 x9 x13 x144 x145 (wrap64 (x146 + 1)))) else (some false))) else (none)) else (some false))) else (some false))) else (none)) else (none)) else (laws_FnAllHurwitz.l2 k x9 x13 (x13.length : Int) 0)
def laws_FnAllHurwitz.l2 : Nat → List (List Int) → List (List Int) → Int → Int → Option (Bool)
 | 0, _, _, _, _ => none
 | k + 1, x9, x194, x195, x196 => if x196 < x195 then (if 0 ≤ x196 then (if x196 < (x194.length : Int) then ((laws_vHas.f k x9 (rd_L1 x194 x196)).bind fun t503 => (if t503 = true then (laws_FnAllHurwitz.l2 k x9 x194 x195 (wrap64 (x196 + 1))) else (some false))) else (none)) else (none)) else (some true)
end
def laws_FnAllHurwitz.f (k : Nat) (l0 : List Int) (l1 : List Int) : Option (Bool) := (laws_big.f l0 l1).bind fun t457 => (if t457 = true then (some true) else ((spec_DrawSolutionsUpTo.f l0).bind fun bt458 => ((impl_SolutionsUpTo.f k bt458.1 bt458.2.1 bt458.2.2.1 bt458.2.2.2).bind fun bt462 => ((spec_SolutionsUpTo.f k bt458.1 bt458.2.1 bt458.2.2.1 bt458.2.2.2).bind fun bt466 => ((impl_FundamentalsUpTo.f k bt458.1 bt458.2.1 bt458.2.2.1 bt458.2.2.2).bind fun bt470 => ((spec_FundamentalsUpTo.f k bt458.1 bt458.2.1 bt458.2.2.1 bt458.2.2.2).bind fun bt474 => (if (bt462.2 != bt466.2) = true then (laws_FnAllHurwitz.j0 k l1 bt458.1 bt458.2.1 bt458.2.2.1 bt458.2.2.2 bt462.1 bt466.2 bt470.1 true) else ((laws_vSameLists.f k bt462.1 bt466.1).bind fun t478 => (if t478 = true then (if (bt470.2 != bt474.2) = true then (laws_FnAllHurwitz.j0 k l1 bt458.1 bt458.2.1 bt458.2.2.1 bt458.2.2.2 bt462.1 bt466.2 bt470.1 true) else ((laws_vSameLists.f k bt470.1 bt474.1).bind fun t479 => (if t479 = true then (laws_FnAllHurwitz.j0 k l1 bt458.1 bt458.2.1 bt458.2.2.1 bt458.2.2.2 bt462.1 bt466.2 bt470.1 (bt470.2 != bt462.2)) else (laws_FnAllHurwitz.j0 k l1 bt458.1 bt458.2.1 bt458.2.2.1 bt458.2.2.2 bt462.1 bt466.2 bt470.1 true)))) else (laws_FnAllHurwitz.j0 k l1 bt458.1 bt458.2.1 bt458.2.2.1 bt458.2.2.2 bt462.1 bt466.2 bt470.1 true))))))))))
theorem laws_FnAllHurwitz.mono_l : ∀ k, (∀ y0 y1 y2 y3 y4 y5 y6 y7 y8, LeO (laws_FnAllHurwitz.j0 k y0 y1 y2 y3 y4 y5 y6 y7 y8) (laws_FnAllHurwitz.j0 (k + 1) y0 y1 y2 y3 y4 y5 y6 y7 y8)) ∧ (∀ y0 y1 y2 y3 y4 y5 y6 y7 y8 y9 y10, LeO (laws_FnAllHurwitz.j1 k y0 y1 y2 y3 y4 y5 y6 y7 y8 y9 y10) (laws_FnAllHurwitz.j1 (k + 1) y0 y1 y2 y3 y4 y5 y6 y7 y8 y9 y10)) ∧ (∀ y0 y1 y2 y3 y4 y5 y6 y7 y8 y9 y10 y11, LeO (laws_FnAllHurwitz.l0 k y0 y1 y2 y3 y4 y5 y6 y7 y8 y9 y10 y11) (laws_FnAllHurwitz.l0 (k + 1) y0 y1 y2 y3 y4 y5 y6 y7 y8 y9 y10 y11)) ∧ (∀ y0 y1 y2 y3 y4 y5 y6 y7 y8, LeO (laws_FnAllHurwitz.l1 k y0 y1 y2 y3 y4 y5 y6 y7 y8) (laws_FnAllHurwitz.l1 (k + 1) y0 y1 y2 y3 y4 y5 y6 y7 y8)) ∧ (∀ y0 y1 y2 y3, LeO (laws_FnAllHurwitz.l2 k y0 y1 y2 y3) (laws_FnAllHurwitz.l2 (k + 1) y0 y1 y2 y3))
 | 0 => ⟨fun _ _ _ _ _ _ _ _ _ r h => by simp [laws_FnAllHurwitz.j0] at h, fun _ _ _ _ _ _ _ _ _ _ _ r h => by simp [laws_FnAllHurwitz.j1] at h, fun _ _ _ _ _ _ _ _ _ _ _ _ r h => by simp [laws_FnAllHurwitz.l0] at h, fun _ _ _ _ _ _ _ _ _ r h => by simp [laws_FnAllHurwitz.l1] at h, fun _ _ _ _ r h => by simp [laws_FnAllHurwitz.l2] at h⟩
 | k + 1 => by
  obtain ⟨ih0, ih1, ih2, ih3, ih4⟩ := laws_FnAllHurwitz.mono_l k
  refine ⟨?_, ?_, ?_, ?_, ?_⟩
  ·intro y0 y1 y2 y3 y4 y5 y6 y7 y8
   unfold laws_FnAllHurwitz.j0
   repeat' first
   | (with_reducible exact ih0 _ _ _ _ _ _ _ _ _)
   | (with_reducible exact ih1 _ _ _ _ _ _ _ _ _ _ _)
   | (with_reducible exact ih2 _ _ _ _ _ _ _ _ _ _ _ _)
   | (with_reducible exact ih3 _ _ _ _ _ _ _ _ _)
   | (with_reducible exact ih4 _ _ _ _)
   | (with_reducible exact impl_FundamentalOf.mono _ _ _ _)
   | (with_reducible exact impl_FundamentalsUpTo.mono _ _ _ _ _)
   | (with_reducible exact impl_SolutionsUpTo.mono _ _ _ _ _)
   | (with_reducible exact laws_vBefore.mono _ _ _)
   | (with_reducible exact laws_vHas.mono _ _ _)
   | (with_reducible exact laws_vSame.mono _ _ _)
   | (with_reducible exact laws_vSameLists.mono _ _ _)
   | (with_reducible exact spec_FactorsFor.mono _ _ _ _)
   | (with_reducible exact spec_FundamentalsUpTo.mono _ _ _ _ _)
   | (with_reducible exact spec_SolutionsUpTo.mono _ _ _ _ _)
   | (with_reducible exact LeO.refl _)
   | (with_reducible exact LeO.none _)
   | (with_reducible refine LeO.ite ?_ ?_)
   | (with_reducible refine LeO.bind ?_ (fun _ => ?_))
   | exact ih0 _ _ _ _ _ _ _ _ _
   | exact ih1 _ _ _ _ _ _ _ _ _ _ _
   | exact ih2 _ _ _ _ _ _ _ _ _ _ _ _
   | exact ih3 _ _ _ _ _ _ _ _ _
   | exact ih4 _ _ _ _
   | exact impl_FundamentalOf.mono _ _ _ _
   | exact impl_FundamentalsUpTo.mono _ _ _ _ _
   | exact impl_SolutionsUpTo.mono _ _ _ _ _
   | exact laws_vBefore.mono _ _ _
   | exact laws_vHas.mono _ _ _
   | exact laws_vSame.mono _ _ _
   | exact laws_vSameLists.mono _ _ _
   | exact spec_FactorsFor.mono _ _ _ _
   | exact spec_FundamentalsUpTo.mono _ _ _ _ _
   | exact spec_SolutionsUpTo.mono _ _ _ _ _
   | exact LeO.none _
   | refine LeO.ite ?_ ?_
   | refine LeO.bind ?_ (fun _ => ?_)
  ·intro y0 y1 y2 y3 y4 y5 y6 y7 y8 y9 y10
   unfold laws_FnAllHurwitz.j1
   repeat' first
   | (with_reducible exact ih0 _ _ _ _ _ _ _ _ _)
   | (with_reducible exact ih1 _ _ _ _ _ _ _ _ _ _ _)
   | (with_reducible exact ih2 _ _ _ _ _ _ _ _ _ _ _ _)
   | (with_reducible exact ih3 _ _ _ _ _ _ _ _ _)
   | (with_reducible exact ih4 _ _ _ _)
   | (with_reducible exact impl_FundamentalOf.mono _ _ _ _)
   | (with_reducible exact impl_FundamentalsUpTo.mono _ _ _ _ _)
   | (with_reducible exact impl_SolutionsUpTo.mono _ _ _ _ _)
   | (with_reducible exact laws_vBefore.mono _ _ _)
   | (with_reducible exact laws_vHas.mono _ _ _)
   | (with_reducible exact laws_vSame.mono _ _ _)
   | (with_reducible exact laws_vSameLists.mono _ _ _)
   | (with_reducible exact spec_FactorsFor.mono _ _ _ _)
   | (with_reducible exact spec_FundamentalsUpTo.mono _ _ _ _ _)
   | (with_reducible exact spec_SolutionsUpTo.mono _ _ _ _ _)
   | (with_reducible exact LeO.refl _)
   | (with_reducible exact LeO.none _)
   | (with_reducible refine LeO.ite ?_ ?_)
   | (with_reducible refine LeO.bind ?_ (fun _ => ?_))
   | exact ih0 _ _ _ _ _ _ _ _ _
   | exact ih1 _ _ _ _ _ _ _ _ _ _ _
   | exact ih2 _ _ _ _ _ _ _ _ _ _ _ _
   | exact ih3 _ _ _ _ _ _ _ _ _
   | exact ih4 _ _ _ _
   | exact impl_FundamentalOf.mono _ _ _ _
   | exact impl_FundamentalsUpTo.mono _ _ _ _ _
   | exact impl_SolutionsUpTo.mono _ _ _ _ _
   | exact laws_vBefore.mono _ _ _
   | exact laws_vHas.mono _ _ _
   | exact laws_vSame.mono _ _ _
   | exact laws_vSameLists.mono _ _ _
   | exact spec_FactorsFor.mono _ _ _ _
   | exact spec_FundamentalsUpTo.mono _ _ _ _ _
   | exact spec_SolutionsUpTo.mono _ _ _ _ _
   | exact LeO.none _
   | refine LeO.ite ?_ ?_
   | refine LeO.bind ?_ (fun _ => ?_)
  ·intro y0 y1 y2 y3 y4 y5 y6 y7 y8 y9 y10 y11
   unfold laws_FnAllHurwitz.l0
   repeat' first
   | (with_reducible exact ih0 _ _ _ _ _ _ _ _ _)
   | (with_reducible exact ih1 _ _ _ _ _ _ _ _ _ _ _)
   | (with_reducible exact ih2 _ _ _ _ _ _ _ _ _ _ _ _)
   | (with_reducible exact ih3 _ _ _ _ _ _ _ _ _)
   | (with_reducible exact ih4 _ _ _ _)
   | (with_reducible exact impl_FundamentalOf.mono _ _ _ _)
   | (with_reducible exact impl_FundamentalsUpTo.mono _ _ _ _ _)
   | (with_reducible exact impl_SolutionsUpTo.mono _ _ _ _ _)
   | (with_reducible exact laws_vBefore.mono _ _ _)
   | (with_reducible exact laws_vHas.mono _ _ _)
   | (with_reducible exact laws_vSame.mono _ _ _)
   | (with_reducible exact laws_vSameLists.mono _ _ _)
   | (with_reducible exact spec_FactorsFor.mono _ _ _ _)
   | (with_reducible exact spec_FundamentalsUpTo.mono _ _ _ _ _)
   | (with_reducible exact spec_SolutionsUpTo.mono _ _ _ _ _)
   | (with_reducible exact LeO.refl _)
   | (with_reducible exact LeO.none _)
   | (with_reducible refine LeO.ite ?_ ?_)
   | (with_reducible refine LeO.bind ?_ (fun _ => ?_))
   | exact ih0 _ _ _ _ _ _ _ _ _
   | exact ih1 _ _ _ _ _ _ _ _ _ _ _
   | exact ih2 _ _ _ _ _ _ _ _ _ _ _ _
   | exact ih3 _ _ _ _ _ _ _ _ _
   | exact ih4 _ _ _ _
   | exact impl_FundamentalOf.mono _ _ _ _
   | exact impl_FundamentalsUpTo.mono _ _ _ _ _
   | exact impl_SolutionsUpTo.mono _ _ _ _ _
   | exact laws_vBefore.mono _ _ _
   | exact laws_vHas.mono _ _ _
   | exact laws_vSame.mono _ _ _
   | exact laws_vSameLists.mono _ _ _
   | exact spec_FactorsFor.mono _ _ _ _
   | exact spec_FundamentalsUpTo.mono _ _ _ _ _
   | exact spec_SolutionsUpTo.mono _ _ _ _ _
   | exact LeO.none _
   | refine LeO.ite ?_ ?_
   | refine LeO.bind ?_ (fun _ => ?_)
  ·intro y0 y1 y2 y3 y4 y5 y6 y7 y8
   unfold laws_FnAllHurwitz.l1
   repeat' first
   | (with_reducible exact ih0 _ _ _ _ _ _ _ _ _)
   | (with_reducible exact ih1 _ _ _ _ _ _ _ _ _ _ _)
   | (with_reducible exact ih2 _ _ _ _ _ _ _ _ _ _ _ _)
   | (with_reducible exact ih3 _ _ _ _ _ _ _ _ _)
   | (with_reducible exact ih4 _ _ _ _)
   | (with_reducible exact impl_FundamentalOf.mono _ _ _ _)
   | (with_reducible exact impl_FundamentalsUpTo.mono _ _ _ _ _)
   | (with_reducible exact impl_SolutionsUpTo.mono _ _ _ _ _)
   | (with_reducible exact laws_vBefore.mono _ _ _)
   | (with_reducible exact laws_vHas.mono _ _ _)
   | (with_reducible exact laws_vSame.mono _ _ _)
   | (with_reducible exact laws_vSameLists.mono _ _ _)
   | (with_reducible exact spec_FactorsFor.mono _ _ _ _)
   | (with_reducible exact spec_FundamentalsUpTo.mono _ _ _ _ _)
   | (with_reducible exact spec_SolutionsUpTo.mono _ _ _ _ _)
   | (with_reducible exact LeO.refl _)
   | (with_reducible exact LeO.none _)
   | (with_reducible refine LeO.ite ?_ ?_)
   | (with_reducible refine LeO.bind ?_ (fun _ => ?_))
   | exact ih0 _ _ _ _ _ _ _ _ _
   | exact ih1 _ _ _ _ _ _ _ _ _ _ _
   | exact ih2 _ _ _ _ _ _ _ _ _ _ _ _
   | exact ih3 _ _ _ _ _ _ _ _ _
   | exact ih4 _ _ _ _
   | exact impl_FundamentalOf.mono _ _ _ _
   | exact impl_FundamentalsUpTo.mono _ _ _ _ _
   | exact impl_SolutionsUpTo.mono _ _ _ _ _
   | exact laws_vBefore.mono _ _ _
   | exact laws_vHas.mono _ _ _
   | exact laws_vSame.mono _ _ _
   | exact laws_vSameLists.mono _ _ _
   | exact spec_FactorsFor.mono _ _ _ _
   | exact spec_FundamentalsUpTo.mono _ _ _ _ _
   | exact spec_SolutionsUpTo.mono _ _ _ _ _
   | exact LeO.none _
   | refine LeO.ite ?_ ?_
   | refine LeO.bind ?_ (fun _ => ?_)
  ·intro y0 y1 y2 y3
   unfold laws_FnAllHurwitz.l2
   repeat' first
   | (with_reducible exact ih0 _ _ _ _ _ _ _ _ _)
   | (with_reducible exact ih1 _ _ _ _ _ _ _ _ _ _ _)
   | (with_reducible exact ih2 _ _ _ _ _ _ _ _ _ _ _ _)
   | (with_reducible exact ih3 _ _ _ _ _ _ _ _ _)
   | (with_reducible exact ih4 _ _ _ _)
   | (with_reducible exact impl_FundamentalOf.mono _ _ _ _)
   | (with_reducible exact impl_FundamentalsUpTo.mono _ _ _ _ _)
   | (with_reducible exact impl_SolutionsUpTo.mono _ _ _ _ _)
   | (with_reducible exact laws_vBefore.mono _ _ _)
   | (with_reducible exact laws_vHas.mono _ _ _)
   | (with_reducible exact laws_vSame.mono _ _ _)
   | (with_reducible exact laws_vSameLists.mono _ _ _)
   | (with_reducible exact spec_FactorsFor.mono _ _ _ _)
   | (with_reducible exact spec_FundamentalsUpTo.mono _ _ _ _ _)
   | (with_reducible exact spec_SolutionsUpTo.mono _ _ _ _ _)
   | (with_reducible exact LeO.refl _)
   | (with_reducible exact LeO.none _)
   | (with_reducible refine LeO.ite ?_ ?_)
   | (with_reducible refine LeO.bind ?_ (fun _ => ?_))
   | exact ih0 _ _ _ _ _ _ _ _ _
   | exact ih1 _ _ _ _ _ _ _ _ _ _ _
   | exact ih2 _ _ _ _ _ _ _ _ _ _ _ _
   | exact ih3 _ _ _ _ _ _ _ _ _
   | exact ih4 _ _ _ _
   | exact impl_FundamentalOf.mono _ _ _ _
   | exact impl_FundamentalsUpTo.mono _ _ _ _ _
   | exact impl_SolutionsUpTo.mono _ _ _ _ _
   | exact laws_vBefore.mono _ _ _
   | exact laws_vHas.mono _ _ _
   | exact laws_vSame.mono _ _ _
   | exact laws_vSameLists.mono _ _ _
   | exact spec_FactorsFor.mono _ _ _ _
   | exact spec_FundamentalsUpTo.mono _ _ _ _ _
   | exact spec_SolutionsUpTo.mono _ _ _ _ _
   | exact LeO.none _
   | refine LeO.ite ?_ ?_
   | refine LeO.bind ?_ (fun _ => ?_)
theorem laws_FnAllHurwitz.mono : ∀ a0 a1 k, LeO (laws_FnAllHurwitz.f k a0 a1) (laws_FnAllHurwitz.f (k + 1) a0 a1) := by
 intro a0 a1 k
 obtain ⟨ih0, ih1, ih2, ih3, ih4⟩ := laws_FnAllHurwitz.mono_l k
 unfold laws_FnAllHurwitz.f
 repeat' first
   | (with_reducible exact ih0 _ _ _ _ _ _ _ _ _)
   | (with_reducible exact ih1 _ _ _ _ _ _ _ _ _ _ _)
   | (with_reducible exact ih2 _ _ _ _ _ _ _ _ _ _ _ _)
   | (with_reducible exact ih3 _ _ _ _ _ _ _ _ _)
   | (with_reducible exact ih4 _ _ _ _)
   | (with_reducible exact impl_FundamentalOf.mono _ _ _ _)
   | (with_reducible exact impl_FundamentalsUpTo.mono _ _ _ _ _)
   | (with_reducible exact impl_SolutionsUpTo.mono _ _ _ _ _)
   | (with_reducible exact laws_vBefore.mono _ _ _)
   | (with_reducible exact laws_vHas.mono _ _ _)
   | (with_reducible exact laws_vSame.mono _ _ _)
   | (with_reducible exact laws_vSameLists.mono _ _ _)
   | (with_reducible exact spec_FactorsFor.mono _ _ _ _)
   | (with_reducible exact spec_FundamentalsUpTo.mono _ _ _ _ _)
   | (with_reducible exact spec_SolutionsUpTo.mono _ _ _ _ _)
   | (with_reducible exact LeO.refl _)
   | (with_reducible exact LeO.none _)
   | (with_reducible refine LeO.ite ?_ ?_)
   | (with_reducible refine LeO.bind ?_ (fun _ => ?_))
   | exact ih0 _ _ _ _ _ _ _ _ _
   | exact ih1 _ _ _ _ _ _ _ _ _ _ _
   | exact ih2 _ _ _ _ _ _ _ _ _ _ _ _
   | exact ih3 _ _ _ _ _ _ _ _ _
   | exact ih4 _ _ _ _
   | exact impl_FundamentalOf.mono _ _ _ _
   | exact impl_FundamentalsUpTo.mono _ _ _ _ _
   | exact impl_SolutionsUpTo.mono _ _ _ _ _
   | exact laws_vBefore.mono _ _ _
   | exact laws_vHas.mono _ _ _
   | exact laws_vSame.mono _ _ _
   | exact laws_vSameLists.mono _ _ _
   | exact spec_FactorsFor.mono _ _ _ _
   | exact spec_FundamentalsUpTo.mono _ _ _ _ _
   | exact spec_SolutionsUpTo.mono _ _ _ _ _
   | exact LeO.none _
   | refine LeO.ite ?_ ?_
   | refine LeO.bind ?_ (fun _ => ?_)
set_option maxHeartbeats 8000000 in
set_option maxRecDepth 100000 in
theorem laws_FnAllHurwitz.calls (k : Nat) (A0 : Option Addr) (c0 : Nat) (l0 : List Int) (A1 : Option Addr) (c1 : Nat) (l1 : List Int) (r : Bool) (w : World) (hr0 : Kd.C (Kd.int .u8) w A0 l0.length l0) (hc0 : l0.length ≤ c0) (hr1 : Kd.C (Kd.int .u8) w A1 l1.length l1) (hc1 : l1.length ≤ c1) (h : laws_FnAllHurwitz.f k l0 l1 = some r) :
  Calls Try.prog 5 #[.slice A0 l0.length c0, .slice A1 l1.length c1] w fun e w' => e = .returned (.bool r) ∧ Below w.heap.size w w' := by
 have HR0 := Aside0.mk hr0
 have HC0 := Aside0.mk hc0
 clear hr0 hc0
 have HR1 := Aside0.mk hr1
 have HC1 := Aside0.mk hc1
 clear hr1 hc1
 have HB := Aside0.mk (Below.refl w.heap.size w)
 have H : ((laws_big.f l0 l1).bind fun t457 => (if t457 = true then (some true) else ((spec_DrawSolutionsUpTo.f l0).bind fun bt458 => ((impl_SolutionsUpTo.f k bt458.1 bt458.2.1 bt458.2.2.1 bt458.2.2.2).bind fun bt462 => ((spec_SolutionsUpTo.f k bt458.1 bt458.2.1 bt458.2.2.1 bt458.2.2.2).bind fun bt466 => ((impl_FundamentalsUpTo.f k bt458.1 bt458.2.1 bt458.2.2.1 bt458.2.2.2).bind fun bt470 => ((spec_FundamentalsUpTo.f k bt458.1 bt458.2.1 bt458.2.2.1 bt458.2.2.2).bind fun bt474 => (if (bt462.2 != bt466.2) = true then (laws_FnAllHurwitz.j0 k l1 bt458.1 bt458.2.1 bt458.2.2.1 bt458.2.2.2 bt462.1 bt466.2 bt470.1 true) else ((laws_vSameLists.f k bt462.1 bt466.1).bind fun t478 => (if t478 = true then (if (bt470.2 != bt474.2) = true then (laws_FnAllHurwitz.j0 k l1 bt458.1 bt458.2.1 bt458.2.2.1 bt458.2.2.2 bt462.1 bt466.2 bt470.1 true) else ((laws_vSameLists.f k bt470.1 bt474.1).bind fun t479 => (if t479 = true then (laws_FnAllHurwitz.j0 k l1 bt458.1 bt458.2.1 bt458.2.2.1 bt458.2.2.2 bt462.1 bt466.2 bt470.1 (bt470.2 != bt462.2)) else (laws_FnAllHurwitz.j0 k l1 bt458.1 bt458.2.1 bt458.2.2.1 bt458.2.2.2 bt462.1 bt466.2 bt470.1 true)))) else (laws_FnAllHurwitz.j0 k l1 bt458.1 bt458.2.1 bt458.2.2.1 bt458.2.2.2 bt462.1 bt466.2 bt470.1 true))))))))))) = some r := h
 clear h
 replace H := Option.bind_eq_some_iff.mp H
 obtain ⟨t457, A30, H⟩ := H
 replace H : (if t457 = true then (some true) else ((spec_DrawSolutionsUpTo.f l0).bind fun bt458 => ((impl_SolutionsUpTo.f k bt458.1 bt458.2.1 bt458.2.2.1 bt458.2.2.2).bind fun bt462 => ((spec_SolutionsUpTo.f k bt458.1 bt458.2.1 bt458.2.2.1 bt458.2.2.2).bind fun bt466 => ((impl_FundamentalsUpTo.f k bt458.1 bt458.2.1 bt458.2.2.1 bt458.2.2.2).bind fun bt470 => ((spec_FundamentalsUpTo.f k bt458.1 bt458.2.1 bt458.2.2.1 bt458.2.2.2).bind fun bt474 => (if (bt462.2 != bt466.2) = true then (laws_FnAllHurwitz.j0 k l1 bt458.1 bt458.2.1 bt458.2.2.1 bt458.2.2.2 bt462.1 bt466.2 bt470.1 true) else ((laws_vSameLists.f k bt462.1 bt466.1).bind fun t478 => (if t478 = true then (if (bt470.2 != bt474.2) = true then (laws_FnAllHurwitz.j0 k l1 bt458.1 bt458.2.1 bt458.2.2.1 bt458.2.2.2 bt462.1 bt466.2 bt470.1 true) else ((laws_vSameLists.f k bt470.1 bt474.1).bind fun t479 => (if t479 = true then (laws_FnAllHurwitz.j0 k l1 bt458.1 bt458.2.1 bt458.2.2.1 bt458.2.2.2 bt462.1 bt466.2 bt470.1 (bt470.2 != bt462.2)) else (laws_FnAllHurwitz.j0 k l1 bt458.1 bt458.2.1 bt458.2.2.1 bt458.2.2.2 bt462.1 bt466.2 bt470.1 true)))) else (laws_FnAllHurwitz.j0 k l1 bt458.1 bt458.2.1 bt458.2.2.1 bt458.2.2.2 bt462.1 bt466.2 bt470.1 true)))))))))) = some r := H
 have A3 := Aside0.mk A30
 clear A30
 by_cases c4 : t457 = true
 ·subst c4
  have H1 : (some true) = some r := by rw [if_pos rfl] at H; exact H
  clear H
  have H := H1
  clear H1
  obtain rfl := Option.some.inj H
  go_enter Try.func5, Try.ntmps5
  go_wp2_with (first | ((with_reducible refine gate_callee (f := 19) rfl ?_); refine goesL_ (some 34) rfl rfl Try.func19 (by kernel_rfl) rfl #[.slice A0 l0.length c0, .slice A1 l1.length c1] rfl (by (try simp only [List.map_toArray, List.map_cons, List.map_nil]); first | done | rfl | (simp only [List.length_drop, List.length_take]; rfl)) ?_; (with_reducible refine (laws_big.calls _ _ l0 _ _ l1 true _ ?side1 ?side2 ?side3 ?side4 A3.out).mono ?_); (case side1 => repeat (first | exact HR0.out | (with_reducible refine Kd.C_alloc ?_ _) | (with_reducible refine Kd.C_drewN ?_ _) | (with_reducible refine Kd.C_drew ?_))); (case side2 => exact HC0.out); (case side3 => repeat (first | exact HR1.out | (with_reducible refine Kd.C_alloc ?_ _) | (with_reducible refine Kd.C_drewN ?_ _) | (with_reducible refine Kd.C_drew ?_))); (case side4 => exact HC1.out); rintro e w' ⟨rfl, ⟨nd, rfl⟩⟩; refine ⟨_, rfl, ?_⟩))
  go_ret
  exact ⟨by first | rfl | (simp [errW_none, errW_some] <;> rfl) | (simp [*, errW_none, errW_some] <;> rfl), by repeat (first | (with_reducible first | exact HB.out | apply below_alloc | apply pw_below_drewN | apply below_drew1) | exact HB.out)⟩
 ·replace c4 := Bool.eq_false_iff.mpr c4
  subst c4
  have H1 : ((spec_DrawSolutionsUpTo.f l0).bind fun bt458 => ((impl_SolutionsUpTo.f k bt458.1 bt458.2.1 bt458.2.2.1 bt458.2.2.2).bind fun bt462 => ((spec_SolutionsUpTo.f k bt458.1 bt458.2.1 bt458.2.2.1 bt458.2.2.2).bind fun bt466 => ((impl_FundamentalsUpTo.f k bt458.1 bt458.2.1 bt458.2.2.1 bt458.2.2.2).bind fun bt470 => ((spec_FundamentalsUpTo.f k bt458.1 bt458.2.1 bt458.2.2.1 bt458.2.2.2).bind fun bt474 => (if (bt462.2 != bt466.2) = true then (laws_FnAllHurwitz.j0 k l1 bt458.1 bt458.2.1 bt458.2.2.1 bt458.2.2.2 bt462.1 bt466.2 bt470.1 true) else ((laws_vSameLists.f k bt462.1 bt466.1).bind fun t478 => (if t478 = true then (if (bt470.2 != bt474.2) = true then (laws_FnAllHurwitz.j0 k l1 bt458.1 bt458.2.1 bt458.2.2.1 bt458.2.2.2 bt462.1 bt466.2 bt470.1 true) else ((laws_vSameLists.f k bt470.1 bt474.1).bind fun t479 => (if t479 = true then (laws_FnAllHurwitz.j0 k l1 bt458.1 bt458.2.1 bt458.2.2.1 bt458.2.2.2 bt462.1 bt466.2 bt470.1 (bt470.2 != bt462.2)) else (laws_FnAllHurwitz.j0 k l1 bt458.1 bt458.2.1 bt458.2.2.1 bt458.2.2.2 bt462.1 bt466.2 bt470.1 true)))) else (laws_FnAllHurwitz.j0 k l1 bt458.1 bt458.2.1 bt458.2.2.1 bt458.2.2.2 bt462.1 bt466.2 bt470.1 true))))))))) = some r := by rw [if_neg (show ¬ (false = true) by decide)] at H; exact H
  clear H
  have H := H1
  clear H1
  replace H := Option.bind_eq_some_iff.mp H
  obtain ⟨⟨t458, t459, t460, t461⟩, A50, H⟩ := H
  replace H : ((impl_SolutionsUpTo.f k t458 t459 t460 t461).bind fun bt462 => ((spec_SolutionsUpTo.f k t458 t459 t460 t461).bind fun bt466 => ((impl_FundamentalsUpTo.f k t458 t459 t460 t461).bind fun bt470 => ((spec_FundamentalsUpTo.f k t458 t459 t460 t461).bind fun bt474 => (if (bt462.2 != bt466.2) = true then (laws_FnAllHurwitz.j0 k l1 t458 t459 t460 t461 bt462.1 bt466.2 bt470.1 true) else ((laws_vSameLists.f k bt462.1 bt466.1).bind fun t478 => (if t478 = true then (if (bt470.2 != bt474.2) = true then (laws_FnAllHurwitz.j0 k l1 t458 t459 t460 t461 bt462.1 bt466.2 bt470.1 true) else ((laws_vSameLists.f k bt470.1 bt474.1).bind fun t479 => (if t479 = true then (laws_FnAllHurwitz.j0 k l1 t458 t459 t460 t461 bt462.1 bt466.2 bt470.1 (bt470.2 != bt462.2)) else (laws_FnAllHurwitz.j0 k l1 t458 t459 t460 t461 bt462.1 bt466.2 bt470.1 true)))) else (laws_FnAllHurwitz.j0 k l1 t458 t459 t460 t461 bt462.1 bt466.2 bt470.1 true)))))))) = some r := H
  have A5 := Aside0.mk A50
  clear A50
  replace H := Option.bind_eq_some_iff.mp H
  obtain ⟨⟨t462, t463⟩, A60, H⟩ := H
  replace H : ((spec_SolutionsUpTo.f k t458 t459 t460 t461).bind fun bt466 => ((impl_FundamentalsUpTo.f k t458 t459 t460 t461).bind fun bt470 => ((spec_FundamentalsUpTo.f k t458 t459 t460 t461).bind fun bt474 => (if (t463 != bt466.2) = true then (laws_FnAllHurwitz.j0 k l1 t458 t459 t460 t461 t462 bt466.2 bt470.1 true) else ((laws_vSameLists.f k t462 bt466.1).bind fun t478 => (if t478 = true then (if (bt470.2 != bt474.2) = true then (laws_FnAllHurwitz.j0 k l1 t458 t459 t460 t461 t462 bt466.2 bt470.1 true) else ((laws_vSameLists.f k bt470.1 bt474.1).bind fun t479 => (if t479 = true then (laws_FnAllHurwitz.j0 k l1 t458 t459 t460 t461 t462 bt466.2 bt470.1 (bt470.2 != t463)) else (laws_FnAllHurwitz.j0 k l1 t458 t459 t460 t461 t462 bt466.2 bt470.1 true)))) else (laws_FnAllHurwitz.j0 k l1 t458 t459 t460 t461 t462 bt466.2 bt470.1 true))))))) = some r := H
  have A6 := Aside0.mk A60
  clear A60
  replace H := Option.bind_eq_some_iff.mp H
  obtain ⟨⟨t466, t469⟩, A70, H⟩ := H
  replace H : ((impl_FundamentalsUpTo.f k t458 t459 t460 t461).bind fun bt470 => ((spec_FundamentalsUpTo.f k t458 t459 t460 t461).bind fun bt474 => (if (t463 != t469) = true then (laws_FnAllHurwitz.j0 k l1 t458 t459 t460 t461 t462 t469 bt470.1 true) else ((laws_vSameLists.f k t462 t466).bind fun t478 => (if t478 = true then (if (bt470.2 != bt474.2) = true then (laws_FnAllHurwitz.j0 k l1 t458 t459 t460 t461 t462 t469 bt470.1 true) else ((laws_vSameLists.f k bt470.1 bt474.1).bind fun t479 => (if t479 = true then (laws_FnAllHurwitz.j0 k l1 t458 t459 t460 t461 t462 t469 bt470.1 (bt470.2 != t463)) else (laws_FnAllHurwitz.j0 k l1 t458 t459 t460 t461 t462 t469 bt470.1 true)))) else (laws_FnAllHurwitz.j0 k l1 t458 t459 t460 t461 t462 t469 bt470.1 true)))))) = some r := H
  have A7 := Aside0.mk A70
  clear A70
  replace H := Option.bind_eq_some_iff.mp H
  obtain ⟨⟨t470, t471⟩, A80, H⟩ := H
  replace H : ((spec_FundamentalsUpTo.f k t458 t459 t460 t461).bind fun bt474 => (if (t463 != t469) = true then (laws_FnAllHurwitz.j0 k l1 t458 t459 t460 t461 t462 t469 t470 true) else ((laws_vSameLists.f k t462 t466).bind fun t478 => (if t478 = true then (if (t471 != bt474.2) = true then (laws_FnAllHurwitz.j0 k l1 t458 t459 t460 t461 t462 t469 t470 true) else ((laws_vSameLists.f k t470 bt474.1).bind fun t479 => (if t479 = true then (laws_FnAllHurwitz.j0 k l1 t458 t459 t460 t461 t462 t469 t470 (t471 != t463)) else (laws_FnAllHurwitz.j0 k l1 t458 t459 t460 t461 t462 t469 t470 true)))) else (laws_FnAllHurwitz.j0 k l1 t458 t459 t460 t461 t462 t469 t470 true))))) = some r := H
  have A8 := Aside0.mk A80
  clear A80
  replace H := Option.bind_eq_some_iff.mp H
  obtain ⟨⟨t474, t477⟩, A90, H⟩ := H
  replace H : (if (t463 != t469) = true then (laws_FnAllHurwitz.j0 k l1 t458 t459 t460 t461 t462 t469 t470 true) else ((laws_vSameLists.f k t462 t466).bind fun t478 => (if t478 = true then (if (t471 != t477) = true then (laws_FnAllHurwitz.j0 k l1 t458 t459 t460 t461 t462 t469 t470 true) else ((laws_vSameLists.f k t470 t474).bind fun t479 => (if t479 = true then (laws_FnAllHurwitz.j0 k l1 t458 t459 t460 t461 t462 t469 t470 (t471 != t463)) else (laws_FnAllHurwitz.j0 k l1 t458 t459 t460 t461 t462 t469 t470 true)))) else (laws_FnAllHurwitz.j0 k l1 t458 t459 t460 t461 t462 t469 t470 true)))) = some r := H
  have A9 := Aside0.mk A90
  clear A90
  have HC10 := Aside0.mk H
  clear H
  go_enter Try.func5, Try.ntmps5
  go_upto_region 8 with (first | ((with_reducible refine gate_callee (f := 19) rfl ?_); refine goesL_ (some 34) rfl rfl Try.func19 (by kernel_rfl) rfl #[.slice A0 l0.length c0, .slice A1 l1.length c1] rfl (by (try simp only [List.map_toArray, List.map_cons, List.map_nil]); first | done | rfl | (simp only [List.length_drop, List.length_take]; rfl)) ?_; (with_reducible refine (laws_big.calls _ _ l0 _ _ l1 false _ ?side1 ?side2 ?side3 ?side4 A3.out).mono ?_); (case side1 => repeat (first | exact HR0.out | (with_reducible refine Kd.C_alloc ?_ _) | (with_reducible refine Kd.C_drewN ?_ _) | (with_reducible refine Kd.C_drew ?_))); (case side2 => exact HC0.out); (case side3 => repeat (first | exact HR1.out | (with_reducible refine Kd.C_alloc ?_ _) | (with_reducible refine Kd.C_drewN ?_ _) | (with_reducible refine Kd.C_drew ?_))); (case side4 => exact HC1.out); rintro e w' ⟨rfl, ⟨nd, rfl⟩⟩; refine ⟨_, rfl, ?_⟩) | ((with_reducible refine gate_callee (f := 20) rfl ?_); refine goesL_ (some 37) rfl rfl Try.func20 (by kernel_rfl) rfl #[.slice A0 l0.length c0] rfl (by (try simp only [List.map_toArray, List.map_cons, List.map_nil]); first | done | rfl | (simp only [List.length_drop, List.length_take]; rfl)) ?_; (with_reducible refine (spec_DrawSolutionsUpTo.calls _ _ l0 t458 t459 t460 t461 _ ?side1 ?side2 A5.out).mono ?_); (case side1 => repeat (first | exact HR0.out | (with_reducible refine Kd.C_alloc ?_ _) | (with_reducible refine Kd.C_drewN ?_ _) | (with_reducible refine Kd.C_drew ?_))); (case side2 => exact HC0.out); rintro e w11 ⟨rfl, hb⟩; refine ⟨_, rfl, ?_⟩; have n0_ := Aside0.mk (below_step (by repeat (first | (with_reducible first | exact HB.out | apply below_alloc | apply pw_below_drewN | apply below_drew1) | exact HB.out)) hb); clear HB; have HB := n0_; clear n0_; (try clear hb); (try clear hb2); (try clear hk); (try clear hi)) | ((with_reducible refine gate_callee (f := 21) rfl ?_); refine goesL_ (some 47) rfl rfl Try.func21 (by kernel_rfl) rfl #[.int .i64 t458, .int .i64 t459, .int .i64 t460, .int .i64 t461] rfl (by (try simp only [List.map_toArray, List.map_cons, List.map_nil]); first | done | rfl | (simp only [List.length_drop, List.length_take]; rfl)) ?_; (with_reducible refine (impl_SolutionsUpTo.calls k t458 t459 t460 t461 t462 t463 _ A6.out).mono ?_); rintro e w12 ⟨v464, rfl, ho0, hb⟩; refine ⟨_, rfl, ?_⟩; have n0_ := Aside0.mk (Kd.N_lower (Kd.N_mono (ok' := fun k_ => True) (Kd.S_N (Kd.S_bound ho0)) (fun k_ hk_ => trivial)) (below_size (by repeat (first | (with_reducible first | exact HB.out | apply below_alloc | apply pw_below_drewN | apply below_drew1) | exact HB.out)))); have n1_ := Aside0.mk (below_step (by repeat (first | (with_reducible first | exact HB.out | apply below_alloc | apply pw_below_drewN | apply below_drew1) | exact HB.out)) hb); clear HB; have HO465 := n0_; have HB := n1_; clear n0_ n1_; (try clear hb); (try clear hb2); (try clear hk); (try clear hi); (try clear ho0)) | ((with_reducible refine gate_callee (f := 22) rfl ?_); refine goesL_ (some 55) rfl rfl Try.func22 (by kernel_rfl) rfl #[.int .i64 t458, .int .i64 t459, .int .i64 t460, .int .i64 t461] rfl (by (try simp only [List.map_toArray, List.map_cons, List.map_nil]); first | done | rfl | (simp only [List.length_drop, List.length_take]; rfl)) ?_; (with_reducible refine (spec_SolutionsUpTo.calls k t458 t459 t460 t461 t466 t469 _ A7.out).mono ?_); rintro e w13 ⟨v467, rfl, ho0, hb⟩; refine ⟨_, rfl, ?_⟩; have n0_ := Aside0.mk (Kd.N_elder' (by (with_reducible repeat (first | apply Kd.N_alloc | apply Kd.N_drewN | apply Kd.N_drew)); exact HO465.out) (by first | exact Kd.N_base ho0 | exact Kd.S_base ho0) hb); have n1_ := Aside0.mk (Kd.N_lower (Kd.N_mono (ok' := fun k_ => some k_ ≠ (v464 : Value).ownBlock) ho0 (fun k_ hk_ => (Kd.fresh' (Kd.N_lt (by (with_reducible repeat (first | apply Kd.N_alloc | apply Kd.N_drewN | apply Kd.N_drew)); exact HO465.out)) k_ hk_))) (below_size (by repeat (first | (with_reducible first | exact HB.out | apply below_alloc | apply pw_below_drewN | apply below_drew1) | exact HB.out)))); have n2_ := Aside0.mk (below_step (by repeat (first | (with_reducible first | exact HB.out | apply below_alloc | apply pw_below_drewN | apply below_drew1) | exact HB.out)) hb); clear HO465; clear HB; have HO465 := n0_; have HO468 := n1_; have HB := n2_; clear n0_ n1_ n2_; (try clear hb); (try clear hb2); (try clear hk); (try clear hi); (try clear ho0)) | ((with_reducible refine gate_callee (f := 23) rfl ?_); refine goesL_ (some 63) rfl rfl Try.func23 (by kernel_rfl) rfl #[.int .i64 t458, .int .i64 t459, .int .i64 t460, .int .i64 t461] rfl (by (try simp only [List.map_toArray, List.map_cons, List.map_nil]); first | done | rfl | (simp only [List.length_drop, List.length_take]; rfl)) ?_; (with_reducible refine (impl_FundamentalsUpTo.calls k t458 t459 t460 t461 t470 t471 _ A8.out).mono ?_); rintro e w14 ⟨v472, rfl, ho0, hb⟩; refine ⟨_, rfl, ?_⟩; have n0_ := Aside0.mk (Kd.N_elder' (by (with_reducible repeat (first | apply Kd.N_alloc | apply Kd.N_drewN | apply Kd.N_drew)); exact HO465.out) (by first | exact Kd.N_base ho0 | exact Kd.S_base ho0) hb); have n1_ := Aside0.mk (Kd.N_elder' (by (with_reducible repeat (first | apply Kd.N_alloc | apply Kd.N_drewN | apply Kd.N_drew)); exact HO468.out) (by first | exact Kd.N_base ho0 | exact Kd.S_base ho0) hb); have n2_ := Aside0.mk (Kd.N_lower (Kd.N_mono (ok' := fun k_ => some k_ ≠ (v464 : Value).ownBlock ∧ some k_ ≠ (v467 : Value).ownBlock) (Kd.S_N (Kd.S_bound ho0)) (fun k_ hk_ => ⟨(Kd.fresh' (Kd.N_lt (by (with_reducible repeat (first | apply Kd.N_alloc | apply Kd.N_drewN | apply Kd.N_drew)); exact HO465.out)) k_ hk_.2.1), (Kd.fresh' (Kd.N_lt (by (with_reducible repeat (first | apply Kd.N_alloc | apply Kd.N_drewN | apply Kd.N_drew)); exact HO468.out)) k_ hk_.2.1)⟩)) (below_size (by repeat (first | (with_reducible first | exact HB.out | apply below_alloc | apply pw_below_drewN | apply below_drew1) | exact HB.out)))); have n3_ := Aside0.mk (below_step (by repeat (first | (with_reducible first | exact HB.out | apply below_alloc | apply pw_below_drewN | apply below_drew1) | exact HB.out)) hb); clear HO465; clear HO468; clear HB; have HO465 := n0_; have HO468 := n1_; have HO473 := n2_; have HB := n3_; clear n0_ n1_ n2_ n3_; (try clear hb); (try clear hb2); (try clear hk); (try clear hi); (try clear ho0)) | ((with_reducible refine gate_callee (f := 24) rfl ?_); refine goesL_ (some 71) rfl rfl Try.func24 (by kernel_rfl) rfl #[.int .i64 t458, .int .i64 t459, .int .i64 t460, .int .i64 t461] rfl (by (try simp only [List.map_toArray, List.map_cons, List.map_nil]); first | done | rfl | (simp only [List.length_drop, List.length_take]; rfl)) ?_; (with_reducible refine (spec_FundamentalsUpTo.calls k t458 t459 t460 t461 t474 t477 _ A9.out).mono ?_); rintro e w15 ⟨v475, rfl, ho0, hb⟩; refine ⟨_, rfl, ?_⟩; have n0_ := Aside0.mk (Kd.N_elder' (by (with_reducible repeat (first | apply Kd.N_alloc | apply Kd.N_drewN | apply Kd.N_drew)); exact HO465.out) (by first | exact Kd.N_base ho0 | exact Kd.S_base ho0) hb); have n1_ := Aside0.mk (Kd.N_elder' (by (with_reducible repeat (first | apply Kd.N_alloc | apply Kd.N_drewN | apply Kd.N_drew)); exact HO468.out) (by first | exact Kd.N_base ho0 | exact Kd.S_base ho0) hb); have n2_ := Aside0.mk (Kd.N_elder' (by (with_reducible repeat (first | apply Kd.N_alloc | apply Kd.N_drewN | apply Kd.N_drew)); exact HO473.out) (by first | exact Kd.N_base ho0 | exact Kd.S_base ho0) hb); have n3_ := Aside0.mk (Kd.N_lower (Kd.N_mono (ok' := fun k_ => some k_ ≠ (v464 : Value).ownBlock ∧ some k_ ≠ (v467 : Value).ownBlock ∧ some k_ ≠ (v472 : Value).ownBlock) ho0 (fun k_ hk_ => ⟨(Kd.fresh' (Kd.N_lt (by (with_reducible repeat (first | apply Kd.N_alloc | apply Kd.N_drewN | apply Kd.N_drew)); exact HO465.out)) k_ hk_), (Kd.fresh' (Kd.N_lt (by (with_reducible repeat (first | apply Kd.N_alloc | apply Kd.N_drewN | apply Kd.N_drew)); exact HO468.out)) k_ hk_), (Kd.fresh' (Kd.N_lt (by (with_reducible repeat (first | apply Kd.N_alloc | apply Kd.N_drewN | apply Kd.N_drew)); exact HO473.out)) k_ hk_)⟩)) (below_size (by repeat (first | (with_reducible first | exact HB.out | apply below_alloc | apply pw_below_drewN | apply below_drew1) | exact HB.out)))); have n4_ := Aside0.mk (below_step (by repeat (first | (with_reducible first | exact HB.out | apply below_alloc | apply pw_below_drewN | apply below_drew1) | exact HB.out)) hb); clear HO465; clear HO468; clear HO473; clear HB; have HO465 := n0_; have HO468 := n1_; have HO473 := n2_; have HO476 := n3_; have HB := n4_; clear n0_ n1_ n2_ n3_ n4_; (try clear hb); (try clear hb2); (try clear hk); (try clear hi); (try clear ho0)))
  (try simp only [Act.put, List.setIfInBounds_toArray, List.set_cons_zero, List.set_cons_succ])
  go_cut [98] (fun v98 wc => ∃ (kq : Nat) (x98_9 : Bool), v98 = .bool x98_9 ∧ Aside0 (laws_FnAllHurwitz.j0 kq l1 t458 t459 t460 t461 t462 t469 t470 x98_9 = some r) ∧ Aside0 (kq ≤ k) ∧ Aside0 (Kd.N (Kd.slice 3 (Kd.int .i64)) 22 wc w.heap.size (fun k_ => some k_ ≠ (v472 : Value).ownBlock) v464 t462) ∧ Aside0 (Kd.N (Kd.slice 3 (Kd.int .i64)) 22 wc w.heap.size (fun k_ => some k_ ≠ (v464 : Value).ownBlock) v472 t470) ∧ Aside0 (Below w.heap.size w wc))
  case first =>
   have H := HC10.out
   clear HC10
   by_cases c16 : (t463 != t469) = true
   ·rw [if_pos c16] at H
    have c16b0 : (t463 != t469) = true := c16
    (try (have c16b1 : decide (t463 = t469) = false := by simpa using c16))
    (try (have c16b2 : (t463 == t469) = false := by simpa using c16))
    (try (have c16b3 : ¬ (t463 = t469) := by simpa using c16))
    clear c16
    (first | rw [c16b0] | (simp only [i64_w, i32_w]; rw [c16b0]) | skip)
    have H' := Aside0.mk H
    clear H
    go_wp2
    go_meet
    case rel => exact ⟨_, (true), (by first | rfl | (simp; done) | (simp [*]; done)), H', ⟨by first | omega | exact Nat.le_refl _⟩, ⟨by (with_reducible repeat (first | apply Kd.N_alloc | apply Kd.N_drewN | apply Kd.N_drew)); exact Kd.N_mono HO465.out (fun _ hk => hk.1.2)⟩, ⟨by (with_reducible repeat (first | apply Kd.N_alloc | apply Kd.N_drewN | apply Kd.N_drew)); exact Kd.N_mono HO473.out (fun _ hk => hk.1.1)⟩, ⟨by repeat (first | (with_reducible first | exact HB.out | apply below_alloc | apply pw_below_drewN | apply below_drew1) | exact HB.out)⟩⟩
   ·rw [if_neg c16] at H
    have c16b0 : (t463 != t469) = false := by simpa using c16
    (try (have c16b1 : decide (t463 = t469) = true := by simpa using c16))
    (try (have c16b2 : (t463 == t469) = true := by simpa using c16))
    clear c16
    (first | rw [c16b0] | (simp only [i64_w, i32_w]; rw [c16b0]) | skip)
    replace H := Option.bind_eq_some_iff.mp H
    obtain ⟨t478, A170, H⟩ := H
    replace H : (if t478 = true then (if (t471 != t477) = true then (laws_FnAllHurwitz.j0 k l1 t458 t459 t460 t461 t462 t469 t470 true) else ((laws_vSameLists.f k t470 t474).bind fun t479 => (if t479 = true then (laws_FnAllHurwitz.j0 k l1 t458 t459 t460 t461 t462 t469 t470 (t471 != t463)) else (laws_FnAllHurwitz.j0 k l1 t458 t459 t460 t461 t462 t469 t470 true)))) else (laws_FnAllHurwitz.j0 k l1 t458 t459 t460 t461 t462 t469 t470 true)) = some r := H
    have A17 := Aside0.mk A170
    clear A170
    by_cases c18 : t478 = true
    ·subst c18
     have H1 : (if (t471 != t477) = true then (laws_FnAllHurwitz.j0 k l1 t458 t459 t460 t461 t462 t469 t470 true) else ((laws_vSameLists.f k t470 t474).bind fun t479 => (if t479 = true then (laws_FnAllHurwitz.j0 k l1 t458 t459 t460 t461 t462 t469 t470 (t471 != t463)) else (laws_FnAllHurwitz.j0 k l1 t458 t459 t460 t461 t462 t469 t470 true)))) = some r := by rw [if_pos rfl] at H; exact H
     clear H
     have H := H1
     clear H1
     by_cases c19 : (t471 != t477) = true
     ·rw [if_pos c19] at H
      have c19b0 : (t471 != t477) = true := c19
      (try (have c19b1 : decide (t471 = t477) = false := by simpa using c19))
      (try (have c19b2 : (t471 == t477) = false := by simpa using c19))
      (try (have c19b3 : ¬ (t471 = t477) := by simpa using c19))
      clear c19
      have H' := Aside0.mk H
      clear H
      obtain ⟨Ao20, co20, eo20⟩ := Kd.N_slice HO465.out
      subst eo20
      obtain ⟨Ao21, co21, eo21⟩ := Kd.N_slice HO468.out
      subst eo21
      go_wp2_with (first | (go_at_call 25; (with_reducible refine (laws_vSameLists.calls k _ _ t462 _ _ t466 true _ ?side1 ?side2 ?side3 ?side4 A17.out).mono ?_); (case side1 => repeat (first | exact (Kd.N_reads' HO465.out).2.2 | (with_reducible refine Kd.C_alloc ?_ _) | (with_reducible refine Kd.C_drewN ?_ _) | (with_reducible refine Kd.C_drew ?_))); (case side2 => exact (Kd.N_reads' HO465.out).2.1); (case side3 => repeat (first | exact (Kd.N_reads' HO468.out).2.2 | (with_reducible refine Kd.C_alloc ?_ _) | (with_reducible refine Kd.C_drewN ?_ _) | (with_reducible refine Kd.C_drew ?_))); (case side4 => exact (Kd.N_reads' HO468.out).2.1); rintro e w' ⟨rfl, ⟨nd, rfl⟩⟩))
      go_meet
      case rel => exact ⟨_, (true), (by first | rfl | (simp; done) | (simp [*]; done)), H', ⟨by first | omega | exact Nat.le_refl _⟩, ⟨by (with_reducible repeat (first | apply Kd.N_alloc | apply Kd.N_drewN | apply Kd.N_drew)); exact Kd.N_mono HO465.out (fun _ hk => hk.1.2)⟩, ⟨by (with_reducible repeat (first | apply Kd.N_alloc | apply Kd.N_drewN | apply Kd.N_drew)); exact Kd.N_mono HO473.out (fun _ hk => hk.1.1)⟩, ⟨by repeat (first | (with_reducible first | exact HB.out | apply below_alloc | apply pw_below_drewN | apply below_drew1) | exact HB.out)⟩⟩
     ·rw [if_neg c19] at H
      have c19b0 : (t471 != t477) = false := by simpa using c19
      (try (have c19b1 : decide (t471 = t477) = true := by simpa using c19))
      (try (have c19b2 : (t471 == t477) = true := by simpa using c19))
      clear c19
      replace H := Option.bind_eq_some_iff.mp H
      obtain ⟨t479, A220, H⟩ := H
      replace H : (if t479 = true then (laws_FnAllHurwitz.j0 k l1 t458 t459 t460 t461 t462 t469 t470 (t471 != t463)) else (laws_FnAllHurwitz.j0 k l1 t458 t459 t460 t461 t462 t469 t470 true)) = some r := H
      have A22 := Aside0.mk A220
      clear A220
      by_cases c23 : t479 = true
      ·subst c23
       have H1 : (laws_FnAllHurwitz.j0 k l1 t458 t459 t460 t461 t462 t469 t470 (t471 != t463)) = some r := by rw [if_pos rfl] at H; exact H
       clear H
       have H := H1
       clear H1
       have H' := Aside0.mk H
       clear H
       obtain ⟨Ao24, co24, eo24⟩ := Kd.N_slice HO465.out
       subst eo24
       obtain ⟨Ao25, co25, eo25⟩ := Kd.N_slice HO468.out
       subst eo25
       go_wp2_with (first | (go_at_call 25; (with_reducible refine (laws_vSameLists.calls k _ _ t462 _ _ t466 true _ ?side1 ?side2 ?side3 ?side4 A17.out).mono ?_); (case side1 => repeat (first | exact (Kd.N_reads' HO465.out).2.2 | (with_reducible refine Kd.C_alloc ?_ _) | (with_reducible refine Kd.C_drewN ?_ _) | (with_reducible refine Kd.C_drew ?_))); (case side2 => exact (Kd.N_reads' HO465.out).2.1); (case side3 => repeat (first | exact (Kd.N_reads' HO468.out).2.2 | (with_reducible refine Kd.C_alloc ?_ _) | (with_reducible refine Kd.C_drewN ?_ _) | (with_reducible refine Kd.C_drew ?_))); (case side4 => exact (Kd.N_reads' HO468.out).2.1); rintro e w' ⟨rfl, ⟨nd, rfl⟩⟩; obtain ⟨Ao26, co26, eo26⟩ := Kd.N_slice HO473.out; subst eo26; obtain ⟨Ao27, co27, eo27⟩ := Kd.N_slice HO476.out; subst eo27) | (go_at_call 25; (with_reducible refine (laws_vSameLists.calls k _ _ t470 _ _ t474 true _ ?side1 ?side2 ?side3 ?side4 A22.out).mono ?_); (case side1 => repeat (first | exact (Kd.N_reads' HO473.out).2.2 | (with_reducible refine Kd.C_alloc ?_ _) | (with_reducible refine Kd.C_drewN ?_ _) | (with_reducible refine Kd.C_drew ?_))); (case side2 => exact (Kd.N_reads' HO473.out).2.1); (case side3 => repeat (first | exact (Kd.N_reads' HO476.out).2.2 | (with_reducible refine Kd.C_alloc ?_ _) | (with_reducible refine Kd.C_drewN ?_ _) | (with_reducible refine Kd.C_drew ?_))); (case side4 => exact (Kd.N_reads' HO476.out).2.1); rintro e w' ⟨rfl, ⟨nd, rfl⟩⟩))
       go_meet
       case rel => exact ⟨_, ((t471 != t463)), (by first | rfl | (simp; done) | (simp [*]; done)), H', ⟨by first | omega | exact Nat.le_refl _⟩, ⟨by (with_reducible repeat (first | apply Kd.N_alloc | apply Kd.N_drewN | apply Kd.N_drew)); exact Kd.N_mono HO465.out (fun _ hk => hk.1.2)⟩, ⟨by (with_reducible repeat (first | apply Kd.N_alloc | apply Kd.N_drewN | apply Kd.N_drew)); exact Kd.N_mono HO473.out (fun _ hk => hk.1.1)⟩, ⟨by repeat (first | (with_reducible first | exact HB.out | apply below_alloc | apply pw_below_drewN | apply below_drew1) | exact HB.out)⟩⟩
      ·replace c23 := Bool.eq_false_iff.mpr c23
       subst c23
       have H1 : (laws_FnAllHurwitz.j0 k l1 t458 t459 t460 t461 t462 t469 t470 true) = some r := by rw [if_neg (show ¬ (false = true) by decide)] at H; exact H
       clear H
       have H := H1
       clear H1
       have H' := Aside0.mk H
       clear H
       obtain ⟨Ao28, co28, eo28⟩ := Kd.N_slice HO465.out
       subst eo28
       obtain ⟨Ao29, co29, eo29⟩ := Kd.N_slice HO468.out
       subst eo29
       go_wp2_with (first | (go_at_call 25; (with_reducible refine (laws_vSameLists.calls k _ _ t462 _ _ t466 true _ ?side1 ?side2 ?side3 ?side4 A17.out).mono ?_); (case side1 => repeat (first | exact (Kd.N_reads' HO465.out).2.2 | (with_reducible refine Kd.C_alloc ?_ _) | (with_reducible refine Kd.C_drewN ?_ _) | (with_reducible refine Kd.C_drew ?_))); (case side2 => exact (Kd.N_reads' HO465.out).2.1); (case side3 => repeat (first | exact (Kd.N_reads' HO468.out).2.2 | (with_reducible refine Kd.C_alloc ?_ _) | (with_reducible refine Kd.C_drewN ?_ _) | (with_reducible refine Kd.C_drew ?_))); (case side4 => exact (Kd.N_reads' HO468.out).2.1); rintro e w' ⟨rfl, ⟨nd, rfl⟩⟩; obtain ⟨Ao30, co30, eo30⟩ := Kd.N_slice HO473.out; subst eo30; obtain ⟨Ao31, co31, eo31⟩ := Kd.N_slice HO476.out; subst eo31) | (go_at_call 25; (with_reducible refine (laws_vSameLists.calls k _ _ t470 _ _ t474 false _ ?side1 ?side2 ?side3 ?side4 A22.out).mono ?_); (case side1 => repeat (first | exact (Kd.N_reads' HO473.out).2.2 | (with_reducible refine Kd.C_alloc ?_ _) | (with_reducible refine Kd.C_drewN ?_ _) | (with_reducible refine Kd.C_drew ?_))); (case side2 => exact (Kd.N_reads' HO473.out).2.1); (case side3 => repeat (first | exact (Kd.N_reads' HO476.out).2.2 | (with_reducible refine Kd.C_alloc ?_ _) | (with_reducible refine Kd.C_drewN ?_ _) | (with_reducible refine Kd.C_drew ?_))); (case side4 => exact (Kd.N_reads' HO476.out).2.1); rintro e w' ⟨rfl, ⟨nd, rfl⟩⟩))
       go_meet
       case rel => exact ⟨_, (true), (by first | rfl | (simp; done) | (simp [*]; done)), H', ⟨by first | omega | exact Nat.le_refl _⟩, ⟨by (with_reducible repeat (first | apply Kd.N_alloc | apply Kd.N_drewN | apply Kd.N_drew)); exact Kd.N_mono HO465.out (fun _ hk => hk.1.2)⟩, ⟨by (with_reducible repeat (first | apply Kd.N_alloc | apply Kd.N_drewN | apply Kd.N_drew)); exact Kd.N_mono HO473.out (fun _ hk => hk.1.1)⟩, ⟨by repeat (first | (with_reducible first | exact HB.out | apply below_alloc | apply pw_below_drewN | apply below_drew1) | exact HB.out)⟩⟩
    ·replace c18 := Bool.eq_false_iff.mpr c18
     subst c18
     have H1 : (laws_FnAllHurwitz.j0 k l1 t458 t459 t460 t461 t462 t469 t470 true) = some r := by rw [if_neg (show ¬ (false = true) by decide)] at H; exact H
     clear H
     have H := H1
     clear H1
     have H' := Aside0.mk H
     clear H
     obtain ⟨Ao32, co32, eo32⟩ := Kd.N_slice HO465.out
     subst eo32
     obtain ⟨Ao33, co33, eo33⟩ := Kd.N_slice HO468.out
     subst eo33
     go_wp2_with (first | (go_at_call 25; (with_reducible refine (laws_vSameLists.calls k _ _ t462 _ _ t466 false _ ?side1 ?side2 ?side3 ?side4 A17.out).mono ?_); (case side1 => repeat (first | exact (Kd.N_reads' HO465.out).2.2 | (with_reducible refine Kd.C_alloc ?_ _) | (with_reducible refine Kd.C_drewN ?_ _) | (with_reducible refine Kd.C_drew ?_))); (case side2 => exact (Kd.N_reads' HO465.out).2.1); (case side3 => repeat (first | exact (Kd.N_reads' HO468.out).2.2 | (with_reducible refine Kd.C_alloc ?_ _) | (with_reducible refine Kd.C_drewN ?_ _) | (with_reducible refine Kd.C_drew ?_))); (case side4 => exact (Kd.N_reads' HO468.out).2.1); rintro e w' ⟨rfl, ⟨nd, rfl⟩⟩))
     go_meet
     case rel => exact ⟨_, (true), (by first | rfl | (simp; done) | (simp [*]; done)), H', ⟨by first | omega | exact Nat.le_refl _⟩, ⟨by (with_reducible repeat (first | apply Kd.N_alloc | apply Kd.N_drewN | apply Kd.N_drew)); exact Kd.N_mono HO465.out (fun _ hk => hk.1.2)⟩, ⟨by (with_reducible repeat (first | apply Kd.N_alloc | apply Kd.N_drewN | apply Kd.N_drew)); exact Kd.N_mono HO473.out (fun _ hk => hk.1.1)⟩, ⟨by repeat (first | (with_reducible first | exact HB.out | apply below_alloc | apply pw_below_drewN | apply below_drew1) | exact HB.out)⟩⟩
  case rest =>
   clear HC10
   try clear c1
   try clear c2
   try clear p2
   try clear c4
   try clear c5
   try clear c16
   try clear c16b0
   try clear c16b1
   try clear c16b2
   try clear c18
   try clear c19
   try clear c19b0
   try clear c19b1
   try clear c19b2
   try clear c20
   try clear c21
   try clear c22
   try clear c23
   try clear c24
   obtain ⟨kq, x98_9, rfl, HA, HJ9, HO_9, HO_13, HB⟩ := hcut
   cases kq with
   | zero => exact absurd HA.out (by simp [laws_FnAllHurwitz.j0])
   | succ kj9 =>
    have H := HA.out
    clear HA
    simp only [laws_FnAllHurwitz.j0] at H
    by_cases c34 : x98_9 = true
    ·subst c34
     have H1 : (some false) = some r := by rw [if_pos rfl] at H; exact H
     clear H
     have H := H1
     clear H1
     obtain rfl := Option.some.inj H
     go_wp2
     go_ret
     exact ⟨by first | rfl | (simp [errW_none, errW_some] <;> rfl) | (simp [*, errW_none, errW_some] <;> rfl), by repeat (first | (with_reducible first | exact HB.out | apply below_alloc | apply pw_below_drewN | apply below_drew1) | exact HB.out)⟩
    ·replace c34 := Bool.eq_false_iff.mpr c34
     subst c34
     have H1 : ((spec_DrawFactorsFor.f l1).bind fun bt480 => ((impl_FactorsFor.f bt480.1 bt480.2.1 bt480.2.2).bind fun bt483 => ((spec_FactorsFor.f kj9 bt480.1 bt480.2.1 bt480.2.2).bind fun bt487 => (if (bt483.2 != bt487.2) = true then (laws_FnAllHurwitz.j1 kj9 t458 t459 t460 t461 t462 t469 t470 bt480.1 bt480.2.1 bt483.1 true) else ((laws_vSame.f kj9 bt483.1 bt487.1).bind fun t491 => (laws_FnAllHurwitz.j1 kj9 t458 t459 t460 t461 t462 t469 t470 bt480.1 bt480.2.1 bt483.1 (!t491))))))) = some r := by rw [if_neg (show ¬ (false = true) by decide)] at H; exact H
     clear H
     have H := H1
     clear H1
     replace H := Option.bind_eq_some_iff.mp H
     obtain ⟨⟨t480, t481, t482⟩, A350, H⟩ := H
     replace H : ((impl_FactorsFor.f t480 t481 t482).bind fun bt483 => ((spec_FactorsFor.f kj9 t480 t481 t482).bind fun bt487 => (if (bt483.2 != bt487.2) = true then (laws_FnAllHurwitz.j1 kj9 t458 t459 t460 t461 t462 t469 t470 t480 t481 bt483.1 true) else ((laws_vSame.f kj9 bt483.1 bt487.1).bind fun t491 => (laws_FnAllHurwitz.j1 kj9 t458 t459 t460 t461 t462 t469 t470 t480 t481 bt483.1 (!t491)))))) = some r := H
     have A35 := Aside0.mk A350
     clear A350
     replace H := Option.bind_eq_some_iff.mp H
     obtain ⟨⟨t483, t484⟩, A360, H⟩ := H
     replace H : ((spec_FactorsFor.f kj9 t480 t481 t482).bind fun bt487 => (if (t484 != bt487.2) = true then (laws_FnAllHurwitz.j1 kj9 t458 t459 t460 t461 t462 t469 t470 t480 t481 t483 true) else ((laws_vSame.f kj9 t483 bt487.1).bind fun t491 => (laws_FnAllHurwitz.j1 kj9 t458 t459 t460 t461 t462 t469 t470 t480 t481 t483 (!t491))))) = some r := H
     have A36 := Aside0.mk A360
     clear A360
     replace H := Option.bind_eq_some_iff.mp H
     obtain ⟨⟨t487, t488⟩, A370, H⟩ := H
     replace H : (if (t484 != t488) = true then (laws_FnAllHurwitz.j1 kj9 t458 t459 t460 t461 t462 t469 t470 t480 t481 t483 true) else ((laws_vSame.f kj9 t483 t487).bind fun t491 => (laws_FnAllHurwitz.j1 kj9 t458 t459 t460 t461 t462 t469 t470 t480 t481 t483 (!t491)))) = some r := H
     have A37 := Aside0.mk A370
     clear A370
     have HC38 := Aside0.mk H
     clear H
     go_upto_region 13 with (first | ((with_reducible refine gate_callee (f := 26) rfl ?_); refine goesL_ (some 101) rfl rfl Try.func26 (by kernel_rfl) rfl #[.slice A1 l1.length c1] rfl (by (try simp only [List.map_toArray, List.map_cons, List.map_nil]); first | done | rfl | (simp only [List.length_drop, List.length_take]; rfl)) ?_; (with_reducible refine (spec_DrawFactorsFor.calls _ _ l1 t480 t481 t482 _ ?side1 ?side2 A35.out).mono ?_); (case side1 => repeat (first | exact (Kd.C_below HR1.out HB.out) | (with_reducible refine Kd.C_alloc ?_ _) | (with_reducible refine Kd.C_drewN ?_ _) | (with_reducible refine Kd.C_drew ?_))); (case side2 => exact HC1.out); rintro e w39 ⟨rfl, hb⟩; refine ⟨_, rfl, ?_⟩; have n0_ := Aside0.mk (Kd.N_below (by (with_reducible repeat (first | apply Kd.N_alloc | apply Kd.N_drewN | apply Kd.N_drew)); exact HO_9.out) hb); have n1_ := Aside0.mk (Kd.N_below (by (with_reducible repeat (first | apply Kd.N_alloc | apply Kd.N_drewN | apply Kd.N_drew)); exact HO_13.out) hb); have n2_ := Aside0.mk (below_step (by repeat (first | (with_reducible first | exact HB.out | apply below_alloc | apply pw_below_drewN | apply below_drew1) | exact HB.out)) hb); clear HO_9; clear HO_13; clear HB; have HO_9 := n0_; have HO_13 := n1_; have HB := n2_; clear n0_ n1_ n2_; (try clear hb); (try clear hb2); (try clear hk); (try clear hi)) | ((with_reducible refine gate_callee (f := 27) rfl ?_); refine goesL_ (some 109) rfl rfl Try.func27 (by kernel_rfl) rfl #[.int .i64 t480, .int .i64 t481, .int .i64 t482] rfl (by (try simp only [List.map_toArray, List.map_cons, List.map_nil]); first | done | rfl | (simp only [List.length_drop, List.length_take]; rfl)) ?_; (with_reducible refine (impl_FactorsFor.calls t480 t481 t482 t483 t484 _ A36.out).mono ?_); rintro e w40 ⟨v485, rfl, ho0, hb⟩; refine ⟨_, rfl, ?_⟩; have n0_ := Aside0.mk (Kd.N_elder' (by (with_reducible repeat (first | apply Kd.N_alloc | apply Kd.N_drewN | apply Kd.N_drew)); exact HO_9.out) (Kd.R_base ho0) hb); have n1_ := Aside0.mk (Kd.N_elder' (by (with_reducible repeat (first | apply Kd.N_alloc | apply Kd.N_drewN | apply Kd.N_drew)); exact HO_13.out) (Kd.R_base ho0) hb); have n2_ := Aside0.mk (Kd.R_lower ho0 (below_size (by repeat (first | (with_reducible first | exact HB.out | apply below_alloc | apply pw_below_drewN | apply below_drew1) | exact HB.out)))); have n3_ := Aside0.mk (below_step (by repeat (first | (with_reducible first | exact HB.out | apply below_alloc | apply pw_below_drewN | apply below_drew1) | exact HB.out)) hb); clear HO_9; clear HO_13; clear HB; have HO_9 := n0_; have HO_13 := n1_; have HO486 := n2_; have HB := n3_; clear n0_ n1_ n2_ n3_; (try clear hb); (try clear hb2); (try clear hk); (try clear hi); (try clear ho0)) | ((with_reducible refine gate_callee (f := 28) rfl ?_); refine goesL_ (some 116) rfl rfl Try.func28 (by kernel_rfl) rfl #[.int .i64 t480, .int .i64 t481, .int .i64 t482] rfl (by (try simp only [List.map_toArray, List.map_cons, List.map_nil]); first | done | rfl | (simp only [List.length_drop, List.length_take]; rfl)) ?_; (with_reducible refine (spec_FactorsFor.calls kj9 t480 t481 t482 t487 t488 _ A37.out).mono ?_); rintro e w41 ⟨v489, rfl, ho0, hb⟩; refine ⟨_, rfl, ?_⟩; have n0_ := Aside0.mk (Kd.N_elder' (by (with_reducible repeat (first | apply Kd.N_alloc | apply Kd.N_drewN | apply Kd.N_drew)); exact HO_9.out) (Kd.R_base ho0) hb); have n1_ := Aside0.mk (Kd.N_elder' (by (with_reducible repeat (first | apply Kd.N_alloc | apply Kd.N_drewN | apply Kd.N_drew)); exact HO_13.out) (Kd.R_base ho0) hb); have n2_ := Aside0.mk (Kd.R_elder' (by (with_reducible repeat (first | apply Kd.R_alloc | apply Kd.R_drewN | apply Kd.R_drew)); exact HO486.out) (Kd.R_base ho0) hb); have n3_ := Aside0.mk (Kd.R_lower (Kd.R_new' ho0 (Kd.R_lt (by (with_reducible repeat (first | apply Kd.R_alloc | apply Kd.R_drewN | apply Kd.R_drew)); exact HO486.out))) (below_size (by repeat (first | (with_reducible first | exact HB.out | apply below_alloc | apply pw_below_drewN | apply below_drew1) | exact HB.out)))); have n4_ := Aside0.mk (below_step (by repeat (first | (with_reducible first | exact HB.out | apply below_alloc | apply pw_below_drewN | apply below_drew1) | exact HB.out)) hb); clear HO_9; clear HO_13; clear HO486; clear HB; have HO_9 := n0_; have HO_13 := n1_; have HO486 := n2_; have HO490 := n3_; have HB := n4_; clear n0_ n1_ n2_ n3_ n4_; (try clear hb); (try clear hb2); (try clear hk); (try clear hi); (try clear ho0)))
     (try simp only [Act.put, List.setIfInBounds_toArray, List.set_cons_zero, List.set_cons_succ])
     go_cut [127] (fun v127 wc => ∃ (kq : Nat) (x127_37 : Bool), v127 = .bool x127_37 ∧ Aside0 (laws_FnAllHurwitz.j1 kq t458 t459 t460 t461 t462 t469 t470 t480 t481 t483 x127_37 = some r) ∧ Aside0 (kq ≤ kj9) ∧ Aside0 (Kd.N (Kd.slice 3 (Kd.int .i64)) 22 wc w.heap.size (fun k_ => some k_ ≠ (v472 : Value).ownBlock ∧ some k_ ≠ (v485 : Value).ownBlock) v464 t462) ∧ Aside0 (Kd.N (Kd.slice 3 (Kd.int .i64)) 22 wc w.heap.size (fun k_ => some k_ ≠ (v464 : Value).ownBlock ∧ some k_ ≠ (v485 : Value).ownBlock) v472 t470) ∧ Aside0 (Kd.R (Kd.int .i64) 3 wc w.heap.size (fun _ => True) v485 t483) ∧ Aside0 (Below w.heap.size w wc))
     case first =>
      have H := HC38.out
      clear HC38
      by_cases c42 : (t484 != t488) = true
      ·rw [if_pos c42] at H
       have c42b0 : (t484 != t488) = true := c42
       (try (have c42b1 : decide (t484 = t488) = false := by simpa using c42))
       (try (have c42b2 : (t484 == t488) = false := by simpa using c42))
       (try (have c42b3 : ¬ (t484 = t488) := by simpa using c42))
       clear c42
       (first | rw [c42b0] | (simp only [i64_w, i32_w]; rw [c42b0]) | skip)
       have H' := Aside0.mk H
       clear H
       go_wp2
       go_meet
       case rel => exact ⟨_, (true), (by first | rfl | (simp; done) | (simp [*]; done)), H', ⟨by have := HJ9.out; first | omega | exact Nat.le_refl _⟩, ⟨by (with_reducible repeat (first | apply Kd.N_alloc | apply Kd.N_drewN | apply Kd.N_drew)); exact Kd.N_mono HO_9.out (fun _ hk => ⟨hk.1.1, hk.1.2⟩)⟩, ⟨by (with_reducible repeat (first | apply Kd.N_alloc | apply Kd.N_drewN | apply Kd.N_drew)); exact Kd.N_mono HO_13.out (fun _ hk => ⟨hk.1.1, hk.1.2⟩)⟩, ⟨by (with_reducible repeat (first | apply Kd.R_alloc | apply Kd.R_drewN | apply Kd.R_drew)); exact Kd.R_mono HO486.out (fun _ hk => trivial)⟩, ⟨by repeat (first | (with_reducible first | exact HB.out | apply below_alloc | apply pw_below_drewN | apply below_drew1) | exact HB.out)⟩⟩
      ·rw [if_neg c42] at H
       have c42b0 : (t484 != t488) = false := by simpa using c42
       (try (have c42b1 : decide (t484 = t488) = true := by simpa using c42))
       (try (have c42b2 : (t484 == t488) = true := by simpa using c42))
       clear c42
       (first | rw [c42b0] | (simp only [i64_w, i32_w]; rw [c42b0]) | skip)
       replace H := Option.bind_eq_some_iff.mp H
       obtain ⟨t491, A430, H⟩ := H
       replace H : (laws_FnAllHurwitz.j1 kj9 t458 t459 t460 t461 t462 t469 t470 t480 t481 t483 (!t491)) = some r := H
       have A43 := Aside0.mk A430
       clear A430
       have H' := Aside0.mk H
       clear H
       obtain ⟨Ao44, co44, eo44⟩ := Kd.R_slice HO486.out
       subst eo44
       obtain ⟨Ao45, co45, eo45⟩ := Kd.R_slice HO490.out
       subst eo45
       go_wp2_with (first | (go_at_call 29; (with_reducible refine (laws_vSame.calls kj9 _ _ t483 _ _ t487 t491 _ ?side1 ?side2 ?side3 ?side4 A43.out).mono ?_); (case side1 => repeat (first | exact (Kd.R_reads' HO486.out).2.2 | (with_reducible refine Kd.C_alloc ?_ _) | (with_reducible refine Kd.C_drewN ?_ _) | (with_reducible refine Kd.C_drew ?_))); (case side2 => exact (Kd.R_reads' HO486.out).2.1); (case side3 => repeat (first | exact (Kd.R_reads' HO490.out).2.2 | (with_reducible refine Kd.C_alloc ?_ _) | (with_reducible refine Kd.C_drewN ?_ _) | (with_reducible refine Kd.C_drew ?_))); (case side4 => exact (Kd.R_reads' HO490.out).2.1); rintro e w' ⟨rfl, ⟨nd, rfl⟩⟩))
       go_meet
       case rel => exact ⟨_, (!t491), (by first | rfl | (simp; done) | (simp [*]; done)), H', ⟨by have := HJ9.out; first | omega | exact Nat.le_refl _⟩, ⟨by (with_reducible repeat (first | apply Kd.N_alloc | apply Kd.N_drewN | apply Kd.N_drew)); exact Kd.N_mono HO_9.out (fun _ hk => ⟨hk.1.1, hk.1.2⟩)⟩, ⟨by (with_reducible repeat (first | apply Kd.N_alloc | apply Kd.N_drewN | apply Kd.N_drew)); exact Kd.N_mono HO_13.out (fun _ hk => ⟨hk.1.1, hk.1.2⟩)⟩, ⟨by (with_reducible repeat (first | apply Kd.R_alloc | apply Kd.R_drewN | apply Kd.R_drew)); exact Kd.R_mono HO486.out (fun _ hk => trivial)⟩, ⟨by repeat (first | (with_reducible first | exact HB.out | apply below_alloc | apply pw_below_drewN | apply below_drew1) | exact HB.out)⟩⟩
     case rest =>
      clear HC38
      try clear c1
      try clear c2
      try clear p2
      try clear c3
      try clear c4
      try clear c5
      try clear c16
      try clear c16b0
      try clear c16b1
      try clear c16b2
      try clear c18
      try clear c19
      try clear c19b0
      try clear c19b1
      try clear c19b2
      try clear c20
      try clear c21
      try clear c22
      try clear c23
      try clear c24
      try clear c26
      try clear c27
      try clear c28
      try clear c34
      try clear c42
      try clear c42b0
      try clear c42b1
      try clear c42b2
      try clear p2
      obtain ⟨kq, x127_37, rfl, HA, HJ37, HO_9, HO_13, HO_20, HB⟩ := hcut
      cases kq with
      | zero => exact absurd HA.out (by simp [laws_FnAllHurwitz.j1])
      | succ kj37 =>
       have H := HA.out
       clear HA
       simp only [laws_FnAllHurwitz.j1] at H
       by_cases c46 : x127_37 = true
       ·subst c46
        have H1 : (some false) = some r := by rw [if_pos rfl] at H; exact H
        clear H
        have H := H1
        clear H1
        obtain rfl := Option.some.inj H
        go_wp2
        go_ret
        exact ⟨by first | rfl | (simp [errW_none, errW_some] <;> rfl) | (simp [*, errW_none, errW_some] <;> rfl), by repeat (first | (with_reducible first | exact HB.out | apply below_alloc | apply pw_below_drewN | apply below_drew1) | exact HB.out)⟩
       ·replace c46 := Bool.eq_false_iff.mpr c46
        subst c46
        have H1 : (laws_FnAllHurwitz.l0 kj37 t458 t459 t460 t461 t462 t469 t470 t480 t481 t483 (t483.length : Int) 0) = some r := by rw [if_neg (show ¬ (false = true) by decide)] at H; exact H
        clear H
        have H := H1
        clear H1
        have H' := Aside0.mk H
        clear H
        obtain ⟨Ao47, co47, eo47⟩ := Kd.R_slice HO_20.out
        subst eo47
        go_wp2
        go_loopg [130] kj37 (fun kq v130 w' => ∃ (x130_3 : Int), v130 = .int .i64 x130_3 ∧ Aside0 (laws_FnAllHurwitz.l0 kq t458 t459 t460 t461 t462 t469 t470 t480 t481 t483 (t483.length : Int) x130_3 = some r) ∧ Aside0 (kq ≤ kj37) ∧ Aside0 (Kd.N (Kd.slice 3 (Kd.int .i64)) 22 w' w.heap.size (fun k_ => some k_ ≠ (v472 : Value).ownBlock ∧ some k_ ≠ ((.slice Ao47 t483.length co47) : Value).ownBlock) v464 t462) ∧ Aside0 (Kd.N (Kd.slice 3 (Kd.int .i64)) 22 w' w.heap.size (fun k_ => some k_ ≠ (v464 : Value).ownBlock ∧ some k_ ≠ ((.slice Ao47 t483.length co47) : Value).ownBlock) v472 t470) ∧ Aside0 (Kd.R (Kd.int .i64) 3 w' w.heap.size (fun _ => True) (.slice Ao47 t483.length co47) t483) ∧ Aside0 (Below w.heap.size w w'))
        case atStart => exact ⟨(0), (by first | rfl | (simp; done) | (simp [*]; done)), H', ⟨Nat.le_refl _⟩, ⟨by (with_reducible repeat (first | apply Kd.N_alloc | apply Kd.N_drewN | apply Kd.N_drew)); exact HO_9.out⟩, ⟨by (with_reducible repeat (first | apply Kd.N_alloc | apply Kd.N_drewN | apply Kd.N_drew)); exact HO_13.out⟩, ⟨by (with_reducible repeat (first | apply Kd.R_alloc | apply Kd.R_drewN | apply Kd.R_drew)); exact HO_20.out⟩, ⟨by repeat (first | (with_reducible first | exact HB.out | apply below_alloc | apply pw_below_drewN | apply below_drew1) | exact HB.out)⟩⟩
        case round =>
         clear H'
         try clear c1
         try clear c2
         try clear p2
         try clear c3
         try clear c4
         try clear c5
         try clear c16
         try clear c16b0
         try clear c16b1
         try clear c16b2
         try clear c18
         try clear c19
         try clear c19b0
         try clear c19b1
         try clear c19b2
         try clear c20
         try clear c21
         try clear c22
         try clear c23
         try clear c24
         try clear c26
         try clear c27
         try clear c28
         try clear c34
         try clear c42
         try clear c42b0
         try clear c42b1
         try clear c42b2
         try clear c46
         try clear p2
         obtain ⟨x130_3, rfl, HA, HK3, HO_9, HO_13, HO_128, HB⟩ := hrel
         cases gk with
         | zero => exact absurd HA.out (by simp [laws_FnAllHurwitz.l0])
         | succ k3 =>
          have H := HA.out
          clear HA
          simp only [laws_FnAllHurwitz.l0] at H
          by_cases c48 : x130_3 < (t483.length : Int)
          ·rw [if_pos c48] at H
           have c48b0 : decide (x130_3 < (t483.length : Int)) = true := decide_eq_true c48
           clear c48
           by_cases c49 : 0 ≤ x130_3
           ·rw [if_pos c49] at H
            have c49b0 : decide (0 ≤ x130_3) = true := decide_eq_true c49
            clear c49
            by_cases c50 : x130_3 < (t483.length : Int)
            ·rw [if_pos c50] at H
             have c50b0 : decide (x130_3 < (t483.length : Int)) = true := decide_eq_true c50
             clear c50
             by_cases c51 : t481 = 0
             ·rw [if_pos c51] at H
              have c51b0 : (t481 == 0) = true := beq_iff_eq.mpr c51
              have c51b1 : (t481 != 0) = false := bne_eq_false_iff_eq.mpr c51
              clear c51
              by_cases c52 : (rd t483 x130_3) > t480
              ·rw [if_pos c52] at H
               have c52b0 : decide (t480 < (rd t483 x130_3)) = true := decide_eq_true c52
               clear c52
               obtain rfl := Option.some.inj H
               have p492 : 0 ≤ (x130_3 : Int) := of_decide_eq_true (by first | (with_reducible assumption) | assumption)
               have q492 : x130_3 < (t483.length : Int) := of_decide_eq_true (by first | (with_reducible assumption) | assumption)
               obtain ⟨ad492, e492, hx492_0⟩ := Kd.at_int (Kd.R_reads' HO_128.out).2.2 x130_3 p492 q492
               cases e492
               replace p492 := eq_true p492
               replace q492 := eq_true q492
               go_wp2
               go_ret
               exact ⟨by first | rfl | (simp [errW_none, errW_some] <;> rfl) | (simp [*, errW_none, errW_some] <;> rfl), by repeat (first | (with_reducible first | exact HB.out | apply below_alloc | apply pw_below_drewN | apply below_drew1) | exact HB.out)⟩
              ·rw [if_neg c52] at H
               have c52b0 : decide (t480 < (rd t483 x130_3)) = false := decide_eq_false c52
               clear c52
               have H' := Aside0.mk H
               clear H
               have p492 : 0 ≤ (x130_3 : Int) := of_decide_eq_true (by first | (with_reducible assumption) | assumption)
               have q492 : x130_3 < (t483.length : Int) := of_decide_eq_true (by first | (with_reducible assumption) | assumption)
               obtain ⟨ad492, e492, hx492_0⟩ := Kd.at_int (Kd.R_reads' HO_128.out).2.2 x130_3 p492 q492
               cases e492
               replace p492 := eq_true p492
               replace q492 := eq_true q492
               go_wp2
               go_roundg k3
               case measure => have := HJ9.out; have := HJ37.out; have := HK3.out; omega
               case rel => exact ⟨(wrap64 (x130_3 + 1)), (by first | rfl | (simp; done) | (simp [*]; done)), H', ⟨by have := HJ9.out; have := HJ37.out; have := HK3.out; omega⟩, ⟨by (with_reducible repeat (first | apply Kd.N_alloc | apply Kd.N_drewN | apply Kd.N_drew)); exact HO_9.out⟩, ⟨by (with_reducible repeat (first | apply Kd.N_alloc | apply Kd.N_drewN | apply Kd.N_drew)); exact HO_13.out⟩, ⟨by (with_reducible repeat (first | apply Kd.R_alloc | apply Kd.R_drewN | apply Kd.R_drew)); exact HO_128.out⟩, ⟨by repeat (first | (with_reducible first | exact HB.out | apply below_alloc | apply pw_below_drewN | apply below_drew1) | exact HB.out)⟩⟩
             ·rw [if_neg c51] at H
              have c51b0 : (t481 == 0) = false := beq_eq_false_iff_ne.mpr c51
              have c51b1 : (t481 != 0) = true := bne_iff_ne.mpr c51
              have H' := Aside0.mk H
              clear H
              have p492 : 0 ≤ (x130_3 : Int) := of_decide_eq_true (by first | (with_reducible assumption) | assumption)
              have q492 : x130_3 < (t483.length : Int) := of_decide_eq_true (by first | (with_reducible assumption) | assumption)
              obtain ⟨ad492, e492, hx492_0⟩ := Kd.at_int (Kd.R_reads' HO_128.out).2.2 x130_3 p492 q492
              cases e492
              replace p492 := eq_true p492
              replace q492 := eq_true q492
              go_wp2
              go_roundg k3
              case measure => have := HJ9.out; have := HJ37.out; have := HK3.out; omega
              case rel => exact ⟨(wrap64 (x130_3 + 1)), (by first | rfl | (simp; done) | (simp [*]; done)), H', ⟨by have := HJ9.out; have := HJ37.out; have := HK3.out; omega⟩, ⟨by (with_reducible repeat (first | apply Kd.N_alloc | apply Kd.N_drewN | apply Kd.N_drew)); exact HO_9.out⟩, ⟨by (with_reducible repeat (first | apply Kd.N_alloc | apply Kd.N_drewN | apply Kd.N_drew)); exact HO_13.out⟩, ⟨by (with_reducible repeat (first | apply Kd.R_alloc | apply Kd.R_drewN | apply Kd.R_drew)); exact HO_128.out⟩, ⟨by repeat (first | (with_reducible first | exact HB.out | apply below_alloc | apply pw_below_drewN | apply below_drew1) | exact HB.out)⟩⟩
            ·rw [if_neg c50] at H
             exact absurd H (by simp)
           ·rw [if_neg c49] at H
            exact absurd H (by simp)
          ·rw [if_neg c48] at H
           have c48b0 : decide (x130_3 < (t483.length : Int)) = false := decide_eq_false c48
           clear c48
           by_cases c53 : t469 = true
           ·subst c53
            have H1 : (laws_FnAllHurwitz.l1 k3 t458 t459 t460 t461 t462 t470 t462 (t462.length : Int) 0) = some r := by rw [if_pos rfl] at H; exact H
            clear H
            have H := H1
            clear H1
            have H' := Aside0.mk H
            clear H
            obtain ⟨Ao54, co54, eo54⟩ := Kd.N_slice HO_9.out
            subst eo54
            go_wp2
            go_loopg [146] k3 (fun kq v146 w' => ∃ (x146_4 : Int), v146 = .int .i64 x146_4 ∧ Aside0 (laws_FnAllHurwitz.l1 kq t458 t459 t460 t461 t462 t470 t462 (t462.length : Int) x146_4 = some r) ∧ Aside0 (kq ≤ k3) ∧ Aside0 (Kd.N (Kd.slice 3 (Kd.int .i64)) 22 w' w.heap.size (fun k_ => some k_ ≠ (v472 : Value).ownBlock) (.slice Ao54 t462.length co54) t462) ∧ Aside0 (Kd.N (Kd.slice 3 (Kd.int .i64)) 22 w' w.heap.size (fun k_ => some k_ ≠ ((.slice Ao54 t462.length co54) : Value).ownBlock ∧ some k_ ≠ ((.slice Ao54 t462.length co54) : Value).ownBlock) v472 t470) ∧ Aside0 (Kd.N (Kd.slice 3 (Kd.int .i64)) 22 w' w.heap.size (fun k_ => some k_ ≠ (v472 : Value).ownBlock) (.slice Ao54 t462.length co54) t462) ∧ Aside0 (Below w.heap.size w w'))
            case atStart => exact ⟨(0), (by first | rfl | (simp; done) | (simp [*]; done)), H', ⟨Nat.le_refl _⟩, ⟨by (with_reducible repeat (first | apply Kd.N_alloc | apply Kd.N_drewN | apply Kd.N_drew)); exact Kd.N_mono HO_9.out (fun _ hk => hk.1)⟩, ⟨by (with_reducible repeat (first | apply Kd.N_alloc | apply Kd.N_drewN | apply Kd.N_drew)); exact Kd.N_mono HO_13.out (fun _ hk => ⟨hk.1, hk.1⟩)⟩, ⟨by (with_reducible repeat (first | apply Kd.N_alloc | apply Kd.N_drewN | apply Kd.N_drew)); exact Kd.N_mono HO_9.out (fun _ hk => hk.1)⟩, ⟨by repeat (first | (with_reducible first | exact HB.out | apply below_alloc | apply pw_below_drewN | apply below_drew1) | exact HB.out)⟩⟩
            case round =>
             clear H'
             try clear c1
             try clear c2
             try clear p2
             try clear c3
             try clear c4
             try clear p4
             try clear q4
             try clear hx4
             try clear c5
             try clear p6
             try clear c16
             try clear c16b0
             try clear c16b1
             try clear c16b2
             try clear c18
             try clear c19
             try clear c19b0
             try clear c19b1
             try clear c19b2
             try clear c20
             try clear c21
             try clear c22
             try clear c23
             try clear c24
             try clear c26
             try clear c27
             try clear c28
             try clear c34
             try clear c42
             try clear c42b0
             try clear c42b1
             try clear c42b2
             try clear c46
             try clear c48
             try clear c48b0
             try clear c49
             try clear c49b0
             try clear p49
             try clear q49
             try clear hx49
             try clear c50
             try clear c50b0
             try clear c51
             try clear c51b0
             try clear c51b1
             try clear c52
             try clear c52b0
             try clear c53
             try clear hx492_0
             try clear p2
             try clear p492
             try clear q492
             obtain ⟨x146_4, rfl, HA, HK4, HO_9, HO_13, HO_144, HB⟩ := hrel
             cases gk with
             | zero => exact absurd HA.out (by simp [laws_FnAllHurwitz.l1])
             | succ k4 =>
              have H := HA.out
              clear HA
              simp only [laws_FnAllHurwitz.l1] at H
              by_cases c55 : x146_4 < (t462.length : Int)
              ·rw [if_pos c55] at H
               have c55b0 : decide (x146_4 < (t462.length : Int)) = true := decide_eq_true c55
               clear c55
               by_cases c56 : 0 ≤ x146_4
               ·rw [if_pos c56] at H
                have c56b0 : decide (0 ≤ x146_4) = true := decide_eq_true c56
                clear c56
                by_cases c57 : x146_4 < (t462.length : Int)
                ·rw [if_pos c57] at H
                 have c57b0 : decide (x146_4 < (t462.length : Int)) = true := decide_eq_true c57
                 clear c57
                 replace H := Option.bind_eq_some_iff.mp H
                 obtain ⟨⟨t494, t495⟩, A580, H⟩ := H
                 replace H : (if t495 = true then ((laws_vHas.f k4 t470 t494).bind fun t498 => (if t498 = true then (if 0 < ((rd_L1 t462 x146_4).length : Int) then (if (rd (rd_L1 t462 x146_4) 0) > t461 then (some false) else (if ((rd_L1 t462 x146_4).length : Int) = t458 then (if x146_4 > 0 then (if 0 ≤ (wrap64 (x146_4 - 1)) then (if (wrap64 (x146_4 - 1)) < (t462.length : Int) then ((laws_vBefore.f k4 (rd_L1 t462 (wrap64 (x146_4 - 1))) (rd_L1 t462 x146_4)).bind fun t501 => (if t501 = true then (laws_FnAllHurwitz.l1 k4 t458 t459 t460 t461 t462 t470 t462 (t462.length : Int) (wrap64 (x146_4 + 1))) else (some false))) else (none)) else (none)) else (laws_FnAllHurwitz.l1 k4 t458 t459 t460 t461 t462 t470 t462 (t462.length : Int) (wrap64 (x146_4 + 1)))) else (some false))) else (none)) else (some false))) else (some false)) = some r := H
                 have A58 := Aside0.mk A580
                 clear A580
                 by_cases c59 : t495 = true
                 ·subst c59
                  have H1 : ((laws_vHas.f k4 t470 t494).bind fun t498 => (if t498 = true then (if 0 < ((rd_L1 t462 x146_4).length : Int) then (if (rd (rd_L1 t462 x146_4) 0) > t461 then (some false) else (if ((rd_L1 t462 x146_4).length : Int) = t458 then (if x146_4 > 0 then (if 0 ≤ (wrap64 (x146_4 - 1)) then (if (wrap64 (x146_4 - 1)) < (t462.length : Int) then ((laws_vBefore.f k4 (rd_L1 t462 (wrap64 (x146_4 - 1))) (rd_L1 t462 x146_4)).bind fun t501 => (if t501 = true then (laws_FnAllHurwitz.l1 k4 t458 t459 t460 t461 t462 t470 t462 (t462.length : Int) (wrap64 (x146_4 + 1))) else (some false))) else (none)) else (none)) else (laws_FnAllHurwitz.l1 k4 t458 t459 t460 t461 t462 t470 t462 (t462.length : Int) (wrap64 (x146_4 + 1)))) else (some false))) else (none)) else (some false))) = some r := by rw [if_pos rfl] at H; exact H
                  clear H
                  have H := H1
                  clear H1
                  replace H := Option.bind_eq_some_iff.mp H
                  obtain ⟨t498, A600, H⟩ := H
                  replace H : (if t498 = true then (if 0 < ((rd_L1 t462 x146_4).length : Int) then (if (rd (rd_L1 t462 x146_4) 0) > t461 then (some false) else (if ((rd_L1 t462 x146_4).length : Int) = t458 then (if x146_4 > 0 then (if 0 ≤ (wrap64 (x146_4 - 1)) then (if (wrap64 (x146_4 - 1)) < (t462.length : Int) then ((laws_vBefore.f k4 (rd_L1 t462 (wrap64 (x146_4 - 1))) (rd_L1 t462 x146_4)).bind fun t501 => (if t501 = true then (laws_FnAllHurwitz.l1 k4 t458 t459 t460 t461 t462 t470 t462 (t462.length : Int) (wrap64 (x146_4 + 1))) else (some false))) else (none)) else (none)) else (laws_FnAllHurwitz.l1 k4 t458 t459 t460 t461 t462 t470 t462 (t462.length : Int) (wrap64 (x146_4 + 1)))) else (some false))) else (none)) else (some false)) = some r := H
                  have A60 := Aside0.mk A600
                  clear A600
                  by_cases c61 : t498 = true
                  ·subst c61
                   have H1 : (if 0 < ((rd_L1 t462 x146_4).length : Int) then (if (rd (rd_L1 t462 x146_4) 0) > t461 then (some false) else (if ((rd_L1 t462 x146_4).length : Int) = t458 then (if x146_4 > 0 then (if 0 ≤ (wrap64 (x146_4 - 1)) then (if (wrap64 (x146_4 - 1)) < (t462.length : Int) then ((laws_vBefore.f k4 (rd_L1 t462 (wrap64 (x146_4 - 1))) (rd_L1 t462 x146_4)).bind fun t501 => (if t501 = true then (laws_FnAllHurwitz.l1 k4 t458 t459 t460 t461 t462 t470 t462 (t462.length : Int) (wrap64 (x146_4 + 1))) else (some false))) else (none)) else (none)) else (laws_FnAllHurwitz.l1 k4 t458 t459 t460 t461 t462 t470 t462 (t462.length : Int) (wrap64 (x146_4 + 1)))) else (some false))) else (none)) = some r := by rw [if_pos rfl] at H; exact H
                   clear H
                   have H := H1
                   clear H1
                   by_cases c62 : 0 < ((rd_L1 t462 x146_4).length : Int)
                   ·rw [if_pos c62] at H
                    have c62b0 : decide (0 < ((rd_L1 t462 x146_4).length : Int)) = true := decide_eq_true c62
                    have c62b1 : decide (0 < (rd_L1 t462 x146_4).length) = true := decide_eq_true (by omega)
                    clear c62
                    by_cases c63 : (rd (rd_L1 t462 x146_4) 0) > t461
                    ·rw [if_pos c63] at H
                     have c63b0 : decide (t461 < (rd (rd_L1 t462 x146_4) 0)) = true := decide_eq_true c63
                     clear c63
                     obtain rfl := Option.some.inj H
                     have p493 : 0 ≤ (x146_4 : Int) := of_decide_eq_true (by first | (with_reducible assumption) | assumption)
                     have q493 : x146_4 < (t462.length : Int) := of_decide_eq_true (by first | (with_reducible assumption) | assumption)
                     obtain ⟨ad493, A493_0, c493_0, e493, hx493_0, hl493_0, hi493_0⟩ := at_L1 (Kd.N_reads' HO_144.out).2.2 x146_4 p493 q493
                     cases e493
                     obtain ⟨ce493, hce493, hMe493, hcc493⟩ := Kd.N_get HO_144.out [] x146_4 p493 (by first | exact q493 | exact of_decide_eq_true (by first | (with_reducible assumption) | assumption) | (have e_ := (Kd.N_reads' HO_144.out).1; omega))
                     obtain ⟨ua493_0, uc493_0, rfl, ul493_0, ge493_0⟩ := Kd.FK_slice_open hMe493
                     have hv493_0 := hcc493 0 _ rfl
                     rw [Nat.add_zero, show ((Kd.slice 3 (Kd.int .i64))).sz = 1 from rfl, Nat.mul_one] at hv493_0
                     replace hv493_0 := Option.some.inj (hv493_0.symm.trans hx493_0)
                     injection hv493_0 with hva_ hvn_ hvc_
                     rw [hva_] at ge493_0
                     rw [hvc_] at ul493_0
                     have HL493_0 := Aside0.mk (show Kd.V (Kd.int .i64) 3 _ w.heap.size _ _ (rd_L1 t462 x146_4) from Kd.V_mk ul493_0 ge493_0)
                     clear hva_ hvn_ hvc_ ge493_0 ul493_0
                     clear hcc493 hce493
                     have HR493_0 := Aside0.mk hi493_0
                     have HC493_0 := Aside0.mk hl493_0
                     clear hi493_0 hl493_0
                     replace p493 := eq_true p493
                     replace q493 := eq_true q493
                     go_wp2_with (first | ((with_reducible refine gate_callee (f := 30) rfl ?_); refine goesL_ (some 155) rfl rfl Try.func30 (by kernel_rfl) rfl #[.slice A493_0 (rd_L1 t462 x146_4).length c493_0, .int .i64 t459, .int .i64 t460] rfl (by (try simp only [List.map_toArray, List.map_cons, List.map_nil]); first | done | rfl | (simp only [List.length_drop, List.length_take]; rfl)) ?_; (with_reducible refine (impl_FundamentalOf.calls k4 _ _ (rd_L1 t462 x146_4) t459 t460 t494 true _ ?side1 ?side2 A58.out).mono ?_); (case side1 => repeat (first | exact (by repeat (first | (with_reducible exact HR493_0.out) | (with_reducible refine Kd.C_alloc ?_ _) | (with_reducible refine Kd.C_drewN ?_ _) | (with_reducible refine Kd.C_drew ?_) | exact HR493_0.out)) | (with_reducible refine Kd.C_alloc ?_ _) | (with_reducible refine Kd.C_drewN ?_ _) | (with_reducible refine Kd.C_drew ?_))); (case side2 => exact HC493_0.out); rintro e w64 ⟨v496, rfl, ho0, hb⟩; refine ⟨_, rfl, ?_⟩; have n0_ := Aside0.mk (Kd.N_elder' (by (with_reducible repeat (first | apply Kd.N_alloc | apply Kd.N_drewN | apply Kd.N_drew)); exact HO_9.out) (Kd.R_base ho0) hb); have n1_ := Aside0.mk (Kd.N_elder' (by (with_reducible repeat (first | apply Kd.N_alloc | apply Kd.N_drewN | apply Kd.N_drew)); exact HO_13.out) (Kd.R_base ho0) hb); have n2_ := Aside0.mk (Kd.N_elder' (by (with_reducible repeat (first | apply Kd.N_alloc | apply Kd.N_drewN | apply Kd.N_drew)); exact HO_144.out) (Kd.R_base ho0) hb); have n3_ := Aside0.mk (Kd.V_elder' (by (with_reducible repeat (first | apply Kd.V_alloc | apply Kd.V_drewN | apply Kd.V_drew)); exact HL493_0.out) (Kd.R_base ho0) hb); have n4_ := Aside0.mk (Kd.R_lower ho0 (below_size (by repeat (first | (with_reducible first | exact HB.out | apply below_alloc | apply pw_below_drewN | apply below_drew1) | exact HB.out)))); have n5_ := Aside0.mk (Kd.C_below (by repeat (first | (with_reducible exact HR493_0.out) | (with_reducible refine Kd.C_alloc ?_ _) | (with_reducible refine Kd.C_drewN ?_ _) | (with_reducible refine Kd.C_drew ?_) | exact HR493_0.out)) hb); have n6_ := Aside0.mk (below_step (by repeat (first | (with_reducible first | exact HB.out | apply below_alloc | apply pw_below_drewN | apply below_drew1) | exact HB.out)) hb); clear HO_9; clear HO_13; clear HO_144; clear HL493_0; clear HR493_0; clear HB; have HO_9 := n0_; have HO_13 := n1_; have HO_144 := n2_; have HL493_0 := n3_; have HO497 := n4_; have HR493_0 := n5_; have HB := n6_; clear n0_ n1_ n2_ n3_ n4_ n5_ n6_; (try clear hb); (try clear hb2); (try clear hk); (try clear hi); (try clear ho0); obtain ⟨Ao65, co65, eo65⟩ := Kd.N_slice HO_13.out; subst eo65; obtain ⟨Ao66, co66, eo66⟩ := Kd.R_slice HO497.out; subst eo66) | (go_at_call 31; (with_reducible refine (laws_vHas.calls k4 _ _ t470 _ _ t494 true _ ?side1 ?side2 ?side3 ?side4 A60.out).mono ?_); (case side1 => repeat (first | exact (Kd.N_reads' HO_13.out).2.2 | (with_reducible refine Kd.C_alloc ?_ _) | (with_reducible refine Kd.C_drewN ?_ _) | (with_reducible refine Kd.C_drew ?_))); (case side2 => exact (Kd.N_reads' HO_13.out).2.1); (case side3 => repeat (first | exact (Kd.R_reads' HO497.out).2.2 | (with_reducible refine Kd.C_alloc ?_ _) | (with_reducible refine Kd.C_drewN ?_ _) | (with_reducible refine Kd.C_drew ?_))); (case side4 => exact (Kd.R_reads' HO497.out).2.1); rintro e w' ⟨rfl, ⟨nd, rfl⟩⟩; have p499 : 0 ≤ (0 : Int) := (by omega); have q499 : 0 < ((rd_L1 t462 x146_4).length : Int) := of_decide_eq_true (by first | (with_reducible assumption) | assumption); obtain ⟨ad499, e499, hx499_0⟩ := Kd.at_int (by repeat (first | (with_reducible exact HR493_0.out) | (with_reducible refine Kd.C_alloc ?_ _) | (with_reducible refine Kd.C_drewN ?_ _) | (with_reducible refine Kd.C_drew ?_) | exact HR493_0.out)) 0 p499 q499; cases e499; have qi499 : (0 < (rd_L1 t462 x146_4).length) = True := eq_true (by omega); (try rw [show ((0 : Int)).toNat = 0 from rfl] at hx499_0); (try rw [Addr.add_zero'] at hx499_0); replace p499 := eq_true p499; replace q499 := eq_true q499))
                     go_ret
                     exact ⟨by first | rfl | (simp [errW_none, errW_some] <;> rfl) | (simp [*, errW_none, errW_some] <;> rfl), by repeat (first | (with_reducible first | exact HB.out | apply below_alloc | apply pw_below_drewN | apply below_drew1) | exact HB.out)⟩
                    ·rw [if_neg c63] at H
                     have c63b0 : decide (t461 < (rd (rd_L1 t462 x146_4) 0)) = false := decide_eq_false c63
                     clear c63
                     by_cases c67 : ((rd_L1 t462 x146_4).length : Int) = t458
                     ·rw [if_pos c67] at H
                      have c67b0 : (((rd_L1 t462 x146_4).length : Int) == t458) = true := beq_iff_eq.mpr c67
                      have c67b1 : (((rd_L1 t462 x146_4).length : Int) != t458) = false := bne_eq_false_iff_eq.mpr c67
                      clear c67
                      by_cases c68 : x146_4 > 0
                      ·rw [if_pos c68] at H
                       have c68b0 : decide (0 < x146_4) = true := decide_eq_true c68
                       clear c68
                       obtain ⟨ji69, hji69⟩ : ∃ j_ : Int, (wrap64 (x146_4 - 1)) = j_ := ⟨_, rfl⟩
                       replace H : (if 0 ≤ (ji69) then (if (ji69) < (t462.length : Int) then ((laws_vBefore.f k4 (rd_L1 t462 (ji69)) (rd_L1 t462 x146_4)).bind fun t501 => (if t501 = true then (laws_FnAllHurwitz.l1 k4 t458 t459 t460 t461 t462 t470 t462 (t462.length : Int) (wrap64 (x146_4 + 1))) else (some false))) else (none)) else (none)) = some r := by first | (rw [hji69] at H; exact H) | (simp only [hji69] at H ⊢; exact H)
                       (try rw [hji69] at A58)
                       (try rw [hji69] at A60)
                       have hji69w : (IntKind.i64.wrap (x146_4 - 1)) = ji69 := (i64_w _).trans hji69
                       by_cases c70 : 0 ≤ (ji69)
                       ·rw [if_pos c70] at H
                        have c70b0 : decide (0 ≤ (ji69)) = true := decide_eq_true c70
                        clear c70
                        by_cases c71 : (ji69) < (t462.length : Int)
                        ·rw [if_pos c71] at H
                         have c71b0 : decide ((ji69) < (t462.length : Int)) = true := decide_eq_true c71
                         clear c71
                         replace H := Option.bind_eq_some_iff.mp H
                         obtain ⟨t501, A720, H⟩ := H
                         replace H : (if t501 = true then (laws_FnAllHurwitz.l1 k4 t458 t459 t460 t461 t462 t470 t462 (t462.length : Int) (wrap64 (x146_4 + 1))) else (some false)) = some r := H
                         have A72 := Aside0.mk A720
                         clear A720
                         by_cases c73 : t501 = true
                         ·subst c73
                          have H1 : (laws_FnAllHurwitz.l1 k4 t458 t459 t460 t461 t462 t470 t462 (t462.length : Int) (wrap64 (x146_4 + 1))) = some r := by rw [if_pos rfl] at H; exact H
                          clear H
                          have H := H1
                          clear H1
                          have H' := Aside0.mk H
                          clear H
                          have p493 : 0 ≤ (x146_4 : Int) := of_decide_eq_true (by first | (with_reducible assumption) | assumption)
                          have q493 : x146_4 < (t462.length : Int) := of_decide_eq_true (by first | (with_reducible assumption) | assumption)
                          obtain ⟨ad493, A493_0, c493_0, e493, hx493_0, hl493_0, hi493_0⟩ := at_L1 (Kd.N_reads' HO_144.out).2.2 x146_4 p493 q493
                          cases e493
                          obtain ⟨ce493, hce493, hMe493, hcc493⟩ := Kd.N_get HO_144.out [] x146_4 p493 (by first | exact q493 | exact of_decide_eq_true (by first | (with_reducible assumption) | assumption) | (have e_ := (Kd.N_reads' HO_144.out).1; omega))
                          obtain ⟨ua493_0, uc493_0, rfl, ul493_0, ge493_0⟩ := Kd.FK_slice_open hMe493
                          have hv493_0 := hcc493 0 _ rfl
                          rw [Nat.add_zero, show ((Kd.slice 3 (Kd.int .i64))).sz = 1 from rfl, Nat.mul_one] at hv493_0
                          replace hv493_0 := Option.some.inj (hv493_0.symm.trans hx493_0)
                          injection hv493_0 with hva_ hvn_ hvc_
                          rw [hva_] at ge493_0
                          rw [hvc_] at ul493_0
                          have HL493_0 := Aside0.mk (show Kd.V (Kd.int .i64) 3 _ w.heap.size _ _ (rd_L1 t462 x146_4) from Kd.V_mk ul493_0 ge493_0)
                          clear hva_ hvn_ hvc_ ge493_0 ul493_0
                          clear hcc493 hce493
                          have HR493_0 := Aside0.mk hi493_0
                          have HC493_0 := Aside0.mk hl493_0
                          clear hi493_0 hl493_0
                          replace p493 := eq_true p493
                          replace q493 := eq_true q493
                          go_wp2_with (first | ((with_reducible refine gate_callee (f := 30) rfl ?_); refine goesL_ (some 155) rfl rfl Try.func30 (by kernel_rfl) rfl #[.slice A493_0 (rd_L1 t462 x146_4).length c493_0, .int .i64 t459, .int .i64 t460] rfl (by (try simp only [List.map_toArray, List.map_cons, List.map_nil]); first | done | rfl | (simp only [List.length_drop, List.length_take]; rfl)) ?_; (with_reducible refine (impl_FundamentalOf.calls k4 _ _ (rd_L1 t462 x146_4) t459 t460 t494 true _ ?side1 ?side2 A58.out).mono ?_); (case side1 => repeat (first | exact (by repeat (first | (with_reducible exact HR493_0.out) | (with_reducible refine Kd.C_alloc ?_ _) | (with_reducible refine Kd.C_drewN ?_ _) | (with_reducible refine Kd.C_drew ?_) | exact HR493_0.out)) | (with_reducible refine Kd.C_alloc ?_ _) | (with_reducible refine Kd.C_drewN ?_ _) | (with_reducible refine Kd.C_drew ?_))); (case side2 => exact HC493_0.out); rintro e w74 ⟨v496, rfl, ho0, hb⟩; refine ⟨_, rfl, ?_⟩; have n0_ := Aside0.mk (Kd.N_elder' (by (with_reducible repeat (first | apply Kd.N_alloc | apply Kd.N_drewN | apply Kd.N_drew)); exact HO_9.out) (Kd.R_base ho0) hb); have n1_ := Aside0.mk (Kd.N_elder' (by (with_reducible repeat (first | apply Kd.N_alloc | apply Kd.N_drewN | apply Kd.N_drew)); exact HO_13.out) (Kd.R_base ho0) hb); have n2_ := Aside0.mk (Kd.N_elder' (by (with_reducible repeat (first | apply Kd.N_alloc | apply Kd.N_drewN | apply Kd.N_drew)); exact HO_144.out) (Kd.R_base ho0) hb); have n3_ := Aside0.mk (Kd.V_elder' (by (with_reducible repeat (first | apply Kd.V_alloc | apply Kd.V_drewN | apply Kd.V_drew)); exact HL493_0.out) (Kd.R_base ho0) hb); have n4_ := Aside0.mk (Kd.R_lower ho0 (below_size (by repeat (first | (with_reducible first | exact HB.out | apply below_alloc | apply pw_below_drewN | apply below_drew1) | exact HB.out)))); have n5_ := Aside0.mk (Kd.C_below (by repeat (first | (with_reducible exact HR493_0.out) | (with_reducible refine Kd.C_alloc ?_ _) | (with_reducible refine Kd.C_drewN ?_ _) | (with_reducible refine Kd.C_drew ?_) | exact HR493_0.out)) hb); have n6_ := Aside0.mk (below_step (by repeat (first | (with_reducible first | exact HB.out | apply below_alloc | apply pw_below_drewN | apply below_drew1) | exact HB.out)) hb); clear HO_9; clear HO_13; clear HO_144; clear HL493_0; clear HR493_0; clear HB; have HO_9 := n0_; have HO_13 := n1_; have HO_144 := n2_; have HL493_0 := n3_; have HO497 := n4_; have HR493_0 := n5_; have HB := n6_; clear n0_ n1_ n2_ n3_ n4_ n5_ n6_; (try clear hb); (try clear hb2); (try clear hk); (try clear hi); (try clear ho0); obtain ⟨Ao75, co75, eo75⟩ := Kd.N_slice HO_13.out; subst eo75; obtain ⟨Ao76, co76, eo76⟩ := Kd.R_slice HO497.out; subst eo76) | (go_at_call 31; (with_reducible refine (laws_vHas.calls k4 _ _ t470 _ _ t494 true _ ?side1 ?side2 ?side3 ?side4 A60.out).mono ?_); (case side1 => repeat (first | exact (Kd.N_reads' HO_13.out).2.2 | (with_reducible refine Kd.C_alloc ?_ _) | (with_reducible refine Kd.C_drewN ?_ _) | (with_reducible refine Kd.C_drew ?_))); (case side2 => exact (Kd.N_reads' HO_13.out).2.1); (case side3 => repeat (first | exact (Kd.R_reads' HO497.out).2.2 | (with_reducible refine Kd.C_alloc ?_ _) | (with_reducible refine Kd.C_drewN ?_ _) | (with_reducible refine Kd.C_drew ?_))); (case side4 => exact (Kd.R_reads' HO497.out).2.1); rintro e w' ⟨rfl, ⟨nd, rfl⟩⟩; have p499 : 0 ≤ (0 : Int) := (by omega); have q499 : 0 < ((rd_L1 t462 x146_4).length : Int) := of_decide_eq_true (by first | (with_reducible assumption) | assumption); obtain ⟨ad499, e499, hx499_0⟩ := Kd.at_int (by repeat (first | (with_reducible exact HR493_0.out) | (with_reducible refine Kd.C_alloc ?_ _) | (with_reducible refine Kd.C_drewN ?_ _) | (with_reducible refine Kd.C_drew ?_) | exact HR493_0.out)) 0 p499 q499; cases e499; have qi499 : (0 < (rd_L1 t462 x146_4).length) = True := eq_true (by omega); (try rw [show ((0 : Int)).toNat = 0 from rfl] at hx499_0); (try rw [Addr.add_zero'] at hx499_0); replace p499 := eq_true p499; replace q499 := eq_true q499; have p500 : 0 ≤ ((ji69) : Int) := of_decide_eq_true (by first | (with_reducible assumption) | assumption); have q500 : (ji69) < (t462.length : Int) := of_decide_eq_true (by first | (with_reducible assumption) | assumption); obtain ⟨ad500, A500_0, c500_0, e500, hx500_0, hl500_0, hi500_0⟩ := at_L1 (Kd.N_reads' HO_9.out).2.2 (ji69) p500 q500; obtain rfl : ad493 = ad500 := (by injection e500); obtain ⟨ce500, hce500, hMe500, hcc500⟩ := Kd.N_get HO_9.out [] (ji69) p500 (by first | exact q500 | exact of_decide_eq_true (by first | (with_reducible assumption) | assumption) | (have e_ := (Kd.N_reads' HO_9.out).1; omega)); obtain ⟨ua500_0, uc500_0, rfl, ul500_0, ge500_0⟩ := Kd.FK_slice_open hMe500; have hv500_0 := hcc500 0 _ rfl; rw [Nat.add_zero, show ((Kd.slice 3 (Kd.int .i64))).sz = 1 from rfl, Nat.mul_one] at hv500_0; replace hv500_0 := Option.some.inj (hv500_0.symm.trans hx500_0); injection hv500_0 with hva_ hvn_ hvc_; rw [hva_] at ge500_0; rw [hvc_] at ul500_0; have HL500_0 := Aside0.mk (show Kd.V (Kd.int .i64) 3 _ w.heap.size _ _ (rd_L1 t462 (ji69)) from Kd.V_mk ul500_0 ge500_0); clear hva_ hvn_ hvc_ ge500_0 ul500_0; clear hcc500 hce500; have HR500_0 := Aside0.mk hi500_0; have HC500_0 := Aside0.mk hl500_0; clear hi500_0 hl500_0; replace p500 := eq_true p500; replace q500 := eq_true q500) | (go_at_call 32; (with_reducible refine (laws_vBefore.calls k4 _ _ (rd_L1 t462 (ji69)) _ _ (rd_L1 t462 x146_4) true _ ?side1 ?side2 ?side3 ?side4 A72.out).mono ?_); (case side1 => repeat (first | exact (by repeat (first | (with_reducible exact HR500_0.out) | (with_reducible refine Kd.C_alloc ?_ _) | (with_reducible refine Kd.C_drewN ?_ _) | (with_reducible refine Kd.C_drew ?_) | exact HR500_0.out)) | (with_reducible refine Kd.C_alloc ?_ _) | (with_reducible refine Kd.C_drewN ?_ _) | (with_reducible refine Kd.C_drew ?_))); (case side2 => exact HC500_0.out); (case side3 => repeat (first | exact (by repeat (first | (with_reducible exact HR493_0.out) | (with_reducible refine Kd.C_alloc ?_ _) | (with_reducible refine Kd.C_drewN ?_ _) | (with_reducible refine Kd.C_drew ?_) | exact HR493_0.out)) | (with_reducible refine Kd.C_alloc ?_ _) | (with_reducible refine Kd.C_drewN ?_ _) | (with_reducible refine Kd.C_drew ?_))); (case side4 => exact HC493_0.out); rintro e w' ⟨rfl, ⟨nd, rfl⟩⟩))
                          go_roundg k4
                          case measure => have := HJ9.out; have := HJ37.out; have := HK3.out; have := HK4.out; omega
                          case rel => exact ⟨(wrap64 (x146_4 + 1)), (by first | rfl | (simp; done) | (simp [*]; done)), H', ⟨by have := HJ9.out; have := HJ37.out; have := HK3.out; have := HK4.out; omega⟩, ⟨by (with_reducible repeat (first | apply Kd.N_alloc | apply Kd.N_drewN | apply Kd.N_drew)); exact Kd.N_mono HO_9.out (fun _ hk => hk.1)⟩, ⟨by (with_reducible repeat (first | apply Kd.N_alloc | apply Kd.N_drewN | apply Kd.N_drew)); exact Kd.N_mono HO_13.out (fun _ hk => ⟨hk.1.1, hk.1.2⟩)⟩, ⟨by (with_reducible repeat (first | apply Kd.N_alloc | apply Kd.N_drewN | apply Kd.N_drew)); exact Kd.N_mono HO_144.out (fun _ hk => hk.1)⟩, ⟨by repeat (first | (with_reducible first | exact HB.out | apply below_alloc | apply pw_below_drewN | apply below_drew1) | exact HB.out)⟩⟩
                         ·replace c73 := Bool.eq_false_iff.mpr c73
                          subst c73
                          have H1 : (some false) = some r := by rw [if_neg (show ¬ (false = true) by decide)] at H; exact H
                          clear H
                          have H := H1
                          clear H1
                          obtain rfl := Option.some.inj H
                          have p493 : 0 ≤ (x146_4 : Int) := of_decide_eq_true (by first | (with_reducible assumption) | assumption)
                          have q493 : x146_4 < (t462.length : Int) := of_decide_eq_true (by first | (with_reducible assumption) | assumption)
                          obtain ⟨ad493, A493_0, c493_0, e493, hx493_0, hl493_0, hi493_0⟩ := at_L1 (Kd.N_reads' HO_144.out).2.2 x146_4 p493 q493
                          cases e493
                          obtain ⟨ce493, hce493, hMe493, hcc493⟩ := Kd.N_get HO_144.out [] x146_4 p493 (by first | exact q493 | exact of_decide_eq_true (by first | (with_reducible assumption) | assumption) | (have e_ := (Kd.N_reads' HO_144.out).1; omega))
                          obtain ⟨ua493_0, uc493_0, rfl, ul493_0, ge493_0⟩ := Kd.FK_slice_open hMe493
                          have hv493_0 := hcc493 0 _ rfl
                          rw [Nat.add_zero, show ((Kd.slice 3 (Kd.int .i64))).sz = 1 from rfl, Nat.mul_one] at hv493_0
                          replace hv493_0 := Option.some.inj (hv493_0.symm.trans hx493_0)
                          injection hv493_0 with hva_ hvn_ hvc_
                          rw [hva_] at ge493_0
                          rw [hvc_] at ul493_0
                          have HL493_0 := Aside0.mk (show Kd.V (Kd.int .i64) 3 _ w.heap.size _ _ (rd_L1 t462 x146_4) from Kd.V_mk ul493_0 ge493_0)
                          clear hva_ hvn_ hvc_ ge493_0 ul493_0
                          clear hcc493 hce493
                          have HR493_0 := Aside0.mk hi493_0
                          have HC493_0 := Aside0.mk hl493_0
                          clear hi493_0 hl493_0
                          replace p493 := eq_true p493
                          replace q493 := eq_true q493
                          go_wp2_with (first | ((with_reducible refine gate_callee (f := 30) rfl ?_); refine goesL_ (some 155) rfl rfl Try.func30 (by kernel_rfl) rfl #[.slice A493_0 (rd_L1 t462 x146_4).length c493_0, .int .i64 t459, .int .i64 t460] rfl (by (try simp only [List.map_toArray, List.map_cons, List.map_nil]); first | done | rfl | (simp only [List.length_drop, List.length_take]; rfl)) ?_; (with_reducible refine (impl_FundamentalOf.calls k4 _ _ (rd_L1 t462 x146_4) t459 t460 t494 true _ ?side1 ?side2 A58.out).mono ?_); (case side1 => repeat (first | exact (by repeat (first | (with_reducible exact HR493_0.out) | (with_reducible refine Kd.C_alloc ?_ _) | (with_reducible refine Kd.C_drewN ?_ _) | (with_reducible refine Kd.C_drew ?_) | exact HR493_0.out)) | (with_reducible refine Kd.C_alloc ?_ _) | (with_reducible refine Kd.C_drewN ?_ _) | (with_reducible refine Kd.C_drew ?_))); (case side2 => exact HC493_0.out); rintro e w77 ⟨v496, rfl, ho0, hb⟩; refine ⟨_, rfl, ?_⟩; have n0_ := Aside0.mk (Kd.N_elder' (by (with_reducible repeat (first | apply Kd.N_alloc | apply Kd.N_drewN | apply Kd.N_drew)); exact HO_9.out) (Kd.R_base ho0) hb); have n1_ := Aside0.mk (Kd.N_elder' (by (with_reducible repeat (first | apply Kd.N_alloc | apply Kd.N_drewN | apply Kd.N_drew)); exact HO_13.out) (Kd.R_base ho0) hb); have n2_ := Aside0.mk (Kd.N_elder' (by (with_reducible repeat (first | apply Kd.N_alloc | apply Kd.N_drewN | apply Kd.N_drew)); exact HO_144.out) (Kd.R_base ho0) hb); have n3_ := Aside0.mk (Kd.V_elder' (by (with_reducible repeat (first | apply Kd.V_alloc | apply Kd.V_drewN | apply Kd.V_drew)); exact HL493_0.out) (Kd.R_base ho0) hb); have n4_ := Aside0.mk (Kd.R_lower ho0 (below_size (by repeat (first | (with_reducible first | exact HB.out | apply below_alloc | apply pw_below_drewN | apply below_drew1) | exact HB.out)))); have n5_ := Aside0.mk (Kd.C_below (by repeat (first | (with_reducible exact HR493_0.out) | (with_reducible refine Kd.C_alloc ?_ _) | (with_reducible refine Kd.C_drewN ?_ _) | (with_reducible refine Kd.C_drew ?_) | exact HR493_0.out)) hb); have n6_ := Aside0.mk (below_step (by repeat (first | (with_reducible first | exact HB.out | apply below_alloc | apply pw_below_drewN | apply below_drew1) | exact HB.out)) hb); clear HO_9; clear HO_13; clear HO_144; clear HL493_0; clear HR493_0; clear HB; have HO_9 := n0_; have HO_13 := n1_; have HO_144 := n2_; have HL493_0 := n3_; have HO497 := n4_; have HR493_0 := n5_; have HB := n6_; clear n0_ n1_ n2_ n3_ n4_ n5_ n6_; (try clear hb); (try clear hb2); (try clear hk); (try clear hi); (try clear ho0); obtain ⟨Ao78, co78, eo78⟩ := Kd.N_slice HO_13.out; subst eo78; obtain ⟨Ao79, co79, eo79⟩ := Kd.R_slice HO497.out; subst eo79) | (go_at_call 31; (with_reducible refine (laws_vHas.calls k4 _ _ t470 _ _ t494 true _ ?side1 ?side2 ?side3 ?side4 A60.out).mono ?_); (case side1 => repeat (first | exact (Kd.N_reads' HO_13.out).2.2 | (with_reducible refine Kd.C_alloc ?_ _) | (with_reducible refine Kd.C_drewN ?_ _) | (with_reducible refine Kd.C_drew ?_))); (case side2 => exact (Kd.N_reads' HO_13.out).2.1); (case side3 => repeat (first | exact (Kd.R_reads' HO497.out).2.2 | (with_reducible refine Kd.C_alloc ?_ _) | (with_reducible refine Kd.C_drewN ?_ _) | (with_reducible refine Kd.C_drew ?_))); (case side4 => exact (Kd.R_reads' HO497.out).2.1); rintro e w' ⟨rfl, ⟨nd, rfl⟩⟩; have p499 : 0 ≤ (0 : Int) := (by omega); have q499 : 0 < ((rd_L1 t462 x146_4).length : Int) := of_decide_eq_true (by first | (with_reducible assumption) | assumption); obtain ⟨ad499, e499, hx499_0⟩ := Kd.at_int (by repeat (first | (with_reducible exact HR493_0.out) | (with_reducible refine Kd.C_alloc ?_ _) | (with_reducible refine Kd.C_drewN ?_ _) | (with_reducible refine Kd.C_drew ?_) | exact HR493_0.out)) 0 p499 q499; cases e499; have qi499 : (0 < (rd_L1 t462 x146_4).length) = True := eq_true (by omega); (try rw [show ((0 : Int)).toNat = 0 from rfl] at hx499_0); (try rw [Addr.add_zero'] at hx499_0); replace p499 := eq_true p499; replace q499 := eq_true q499; have p500 : 0 ≤ ((ji69) : Int) := of_decide_eq_true (by first | (with_reducible assumption) | assumption); have q500 : (ji69) < (t462.length : Int) := of_decide_eq_true (by first | (with_reducible assumption) | assumption); obtain ⟨ad500, A500_0, c500_0, e500, hx500_0, hl500_0, hi500_0⟩ := at_L1 (Kd.N_reads' HO_9.out).2.2 (ji69) p500 q500; obtain rfl : ad493 = ad500 := (by injection e500); obtain ⟨ce500, hce500, hMe500, hcc500⟩ := Kd.N_get HO_9.out [] (ji69) p500 (by first | exact q500 | exact of_decide_eq_true (by first | (with_reducible assumption) | assumption) | (have e_ := (Kd.N_reads' HO_9.out).1; omega)); obtain ⟨ua500_0, uc500_0, rfl, ul500_0, ge500_0⟩ := Kd.FK_slice_open hMe500; have hv500_0 := hcc500 0 _ rfl; rw [Nat.add_zero, show ((Kd.slice 3 (Kd.int .i64))).sz = 1 from rfl, Nat.mul_one] at hv500_0; replace hv500_0 := Option.some.inj (hv500_0.symm.trans hx500_0); injection hv500_0 with hva_ hvn_ hvc_; rw [hva_] at ge500_0; rw [hvc_] at ul500_0; have HL500_0 := Aside0.mk (show Kd.V (Kd.int .i64) 3 _ w.heap.size _ _ (rd_L1 t462 (ji69)) from Kd.V_mk ul500_0 ge500_0); clear hva_ hvn_ hvc_ ge500_0 ul500_0; clear hcc500 hce500; have HR500_0 := Aside0.mk hi500_0; have HC500_0 := Aside0.mk hl500_0; clear hi500_0 hl500_0; replace p500 := eq_true p500; replace q500 := eq_true q500) | (go_at_call 32; (with_reducible refine (laws_vBefore.calls k4 _ _ (rd_L1 t462 (ji69)) _ _ (rd_L1 t462 x146_4) false _ ?side1 ?side2 ?side3 ?side4 A72.out).mono ?_); (case side1 => repeat (first | exact (by repeat (first | (with_reducible exact HR500_0.out) | (with_reducible refine Kd.C_alloc ?_ _) | (with_reducible refine Kd.C_drewN ?_ _) | (with_reducible refine Kd.C_drew ?_) | exact HR500_0.out)) | (with_reducible refine Kd.C_alloc ?_ _) | (with_reducible refine Kd.C_drewN ?_ _) | (with_reducible refine Kd.C_drew ?_))); (case side2 => exact HC500_0.out); (case side3 => repeat (first | exact (by repeat (first | (with_reducible exact HR493_0.out) | (with_reducible refine Kd.C_alloc ?_ _) | (with_reducible refine Kd.C_drewN ?_ _) | (with_reducible refine Kd.C_drew ?_) | exact HR493_0.out)) | (with_reducible refine Kd.C_alloc ?_ _) | (with_reducible refine Kd.C_drewN ?_ _) | (with_reducible refine Kd.C_drew ?_))); (case side4 => exact HC493_0.out); rintro e w' ⟨rfl, ⟨nd, rfl⟩⟩))
                          go_ret
                          exact ⟨by first | rfl | (simp [errW_none, errW_some] <;> rfl) | (simp only [← hji69]; first | rfl | (simp [errW_none, errW_some] <;> rfl)) | (simp [*, errW_none, errW_some] <;> rfl), by repeat (first | (with_reducible first | exact HB.out | apply below_alloc | apply pw_below_drewN | apply below_drew1) | exact HB.out)⟩
                        ·rw [if_neg c71] at H
                         exact absurd H (by simp)
                       ·rw [if_neg c70] at H
                        exact absurd H (by simp)
                      ·rw [if_neg c68] at H
                       have c68b0 : decide (0 < x146_4) = false := decide_eq_false c68
                       clear c68
                       have H' := Aside0.mk H
                       clear H
                       have p493 : 0 ≤ (x146_4 : Int) := of_decide_eq_true (by first | (with_reducible assumption) | assumption)
                       have q493 : x146_4 < (t462.length : Int) := of_decide_eq_true (by first | (with_reducible assumption) | assumption)
                       obtain ⟨ad493, A493_0, c493_0, e493, hx493_0, hl493_0, hi493_0⟩ := at_L1 (Kd.N_reads' HO_144.out).2.2 x146_4 p493 q493
                       cases e493
                       obtain ⟨ce493, hce493, hMe493, hcc493⟩ := Kd.N_get HO_144.out [] x146_4 p493 (by first | exact q493 | exact of_decide_eq_true (by first | (with_reducible assumption) | assumption) | (have e_ := (Kd.N_reads' HO_144.out).1; omega))
                       obtain ⟨ua493_0, uc493_0, rfl, ul493_0, ge493_0⟩ := Kd.FK_slice_open hMe493
                       have hv493_0 := hcc493 0 _ rfl
                       rw [Nat.add_zero, show ((Kd.slice 3 (Kd.int .i64))).sz = 1 from rfl, Nat.mul_one] at hv493_0
                       replace hv493_0 := Option.some.inj (hv493_0.symm.trans hx493_0)
                       injection hv493_0 with hva_ hvn_ hvc_
                       rw [hva_] at ge493_0
                       rw [hvc_] at ul493_0
                       have HL493_0 := Aside0.mk (show Kd.V (Kd.int .i64) 3 _ w.heap.size _ _ (rd_L1 t462 x146_4) from Kd.V_mk ul493_0 ge493_0)
                       clear hva_ hvn_ hvc_ ge493_0 ul493_0
                       clear hcc493 hce493
                       have HR493_0 := Aside0.mk hi493_0
                       have HC493_0 := Aside0.mk hl493_0
                       clear hi493_0 hl493_0
                       replace p493 := eq_true p493
                       replace q493 := eq_true q493
                       go_wp2_with (first | ((with_reducible refine gate_callee (f := 30) rfl ?_); refine goesL_ (some 155) rfl rfl Try.func30 (by kernel_rfl) rfl #[.slice A493_0 (rd_L1 t462 x146_4).length c493_0, .int .i64 t459, .int .i64 t460] rfl (by (try simp only [List.map_toArray, List.map_cons, List.map_nil]); first | done | rfl | (simp only [List.length_drop, List.length_take]; rfl)) ?_; (with_reducible refine (impl_FundamentalOf.calls k4 _ _ (rd_L1 t462 x146_4) t459 t460 t494 true _ ?side1 ?side2 A58.out).mono ?_); (case side1 => repeat (first | exact (by repeat (first | (with_reducible exact HR493_0.out) | (with_reducible refine Kd.C_alloc ?_ _) | (with_reducible refine Kd.C_drewN ?_ _) | (with_reducible refine Kd.C_drew ?_) | exact HR493_0.out)) | (with_reducible refine Kd.C_alloc ?_ _) | (with_reducible refine Kd.C_drewN ?_ _) | (with_reducible refine Kd.C_drew ?_))); (case side2 => exact HC493_0.out); rintro e w80 ⟨v496, rfl, ho0, hb⟩; refine ⟨_, rfl, ?_⟩; have n0_ := Aside0.mk (Kd.N_elder' (by (with_reducible repeat (first | apply Kd.N_alloc | apply Kd.N_drewN | apply Kd.N_drew)); exact HO_9.out) (Kd.R_base ho0) hb); have n1_ := Aside0.mk (Kd.N_elder' (by (with_reducible repeat (first | apply Kd.N_alloc | apply Kd.N_drewN | apply Kd.N_drew)); exact HO_13.out) (Kd.R_base ho0) hb); have n2_ := Aside0.mk (Kd.N_elder' (by (with_reducible repeat (first | apply Kd.N_alloc | apply Kd.N_drewN | apply Kd.N_drew)); exact HO_144.out) (Kd.R_base ho0) hb); have n3_ := Aside0.mk (Kd.V_elder' (by (with_reducible repeat (first | apply Kd.V_alloc | apply Kd.V_drewN | apply Kd.V_drew)); exact HL493_0.out) (Kd.R_base ho0) hb); have n4_ := Aside0.mk (Kd.R_lower ho0 (below_size (by repeat (first | (with_reducible first | exact HB.out | apply below_alloc | apply pw_below_drewN | apply below_drew1) | exact HB.out)))); have n5_ := Aside0.mk (Kd.C_below (by repeat (first | (with_reducible exact HR493_0.out) | (with_reducible refine Kd.C_alloc ?_ _) | (with_reducible refine Kd.C_drewN ?_ _) | (with_reducible refine Kd.C_drew ?_) | exact HR493_0.out)) hb); have n6_ := Aside0.mk (below_step (by repeat (first | (with_reducible first | exact HB.out | apply below_alloc | apply pw_below_drewN | apply below_drew1) | exact HB.out)) hb); clear HO_9; clear HO_13; clear HO_144; clear HL493_0; clear HR493_0; clear HB; have HO_9 := n0_; have HO_13 := n1_; have HO_144 := n2_; have HL493_0 := n3_; have HO497 := n4_; have HR493_0 := n5_; have HB := n6_; clear n0_ n1_ n2_ n3_ n4_ n5_ n6_; (try clear hb); (try clear hb2); (try clear hk); (try clear hi); (try clear ho0); obtain ⟨Ao81, co81, eo81⟩ := Kd.N_slice HO_13.out; subst eo81; obtain ⟨Ao82, co82, eo82⟩ := Kd.R_slice HO497.out; subst eo82) | (go_at_call 31; (with_reducible refine (laws_vHas.calls k4 _ _ t470 _ _ t494 true _ ?side1 ?side2 ?side3 ?side4 A60.out).mono ?_); (case side1 => repeat (first | exact (Kd.N_reads' HO_13.out).2.2 | (with_reducible refine Kd.C_alloc ?_ _) | (with_reducible refine Kd.C_drewN ?_ _) | (with_reducible refine Kd.C_drew ?_))); (case side2 => exact (Kd.N_reads' HO_13.out).2.1); (case side3 => repeat (first | exact (Kd.R_reads' HO497.out).2.2 | (with_reducible refine Kd.C_alloc ?_ _) | (with_reducible refine Kd.C_drewN ?_ _) | (with_reducible refine Kd.C_drew ?_))); (case side4 => exact (Kd.R_reads' HO497.out).2.1); rintro e w' ⟨rfl, ⟨nd, rfl⟩⟩; have p499 : 0 ≤ (0 : Int) := (by omega); have q499 : 0 < ((rd_L1 t462 x146_4).length : Int) := of_decide_eq_true (by first | (with_reducible assumption) | assumption); obtain ⟨ad499, e499, hx499_0⟩ := Kd.at_int (by repeat (first | (with_reducible exact HR493_0.out) | (with_reducible refine Kd.C_alloc ?_ _) | (with_reducible refine Kd.C_drewN ?_ _) | (with_reducible refine Kd.C_drew ?_) | exact HR493_0.out)) 0 p499 q499; cases e499; have qi499 : (0 < (rd_L1 t462 x146_4).length) = True := eq_true (by omega); (try rw [show ((0 : Int)).toNat = 0 from rfl] at hx499_0); (try rw [Addr.add_zero'] at hx499_0); replace p499 := eq_true p499; replace q499 := eq_true q499))
                       go_roundg k4
                       case measure => have := HJ9.out; have := HJ37.out; have := HK3.out; have := HK4.out; omega
                       case rel => exact ⟨(wrap64 (x146_4 + 1)), (by first | rfl | (simp; done) | (simp [*]; done)), H', ⟨by have := HJ9.out; have := HJ37.out; have := HK3.out; have := HK4.out; omega⟩, ⟨by (with_reducible repeat (first | apply Kd.N_alloc | apply Kd.N_drewN | apply Kd.N_drew)); exact Kd.N_mono HO_9.out (fun _ hk => hk.1)⟩, ⟨by (with_reducible repeat (first | apply Kd.N_alloc | apply Kd.N_drewN | apply Kd.N_drew)); exact Kd.N_mono HO_13.out (fun _ hk => ⟨hk.1.1, hk.1.2⟩)⟩, ⟨by (with_reducible repeat (first | apply Kd.N_alloc | apply Kd.N_drewN | apply Kd.N_drew)); exact Kd.N_mono HO_144.out (fun _ hk => hk.1)⟩, ⟨by repeat (first | (with_reducible first | exact HB.out | apply below_alloc | apply pw_below_drewN | apply below_drew1) | exact HB.out)⟩⟩
                     ·rw [if_neg c67] at H
                      have c67b0 : (((rd_L1 t462 x146_4).length : Int) == t458) = false := beq_eq_false_iff_ne.mpr c67
                      have c67b1 : (((rd_L1 t462 x146_4).length : Int) != t458) = true := bne_iff_ne.mpr c67
                      obtain rfl := Option.some.inj H
                      have p493 : 0 ≤ (x146_4 : Int) := of_decide_eq_true (by first | (with_reducible assumption) | assumption)
                      have q493 : x146_4 < (t462.length : Int) := of_decide_eq_true (by first | (with_reducible assumption) | assumption)
                      obtain ⟨ad493, A493_0, c493_0, e493, hx493_0, hl493_0, hi493_0⟩ := at_L1 (Kd.N_reads' HO_144.out).2.2 x146_4 p493 q493
                      cases e493
                      obtain ⟨ce493, hce493, hMe493, hcc493⟩ := Kd.N_get HO_144.out [] x146_4 p493 (by first | exact q493 | exact of_decide_eq_true (by first | (with_reducible assumption) | assumption) | (have e_ := (Kd.N_reads' HO_144.out).1; omega))
                      obtain ⟨ua493_0, uc493_0, rfl, ul493_0, ge493_0⟩ := Kd.FK_slice_open hMe493
                      have hv493_0 := hcc493 0 _ rfl
                      rw [Nat.add_zero, show ((Kd.slice 3 (Kd.int .i64))).sz = 1 from rfl, Nat.mul_one] at hv493_0
                      replace hv493_0 := Option.some.inj (hv493_0.symm.trans hx493_0)
                      injection hv493_0 with hva_ hvn_ hvc_
                      rw [hva_] at ge493_0
                      rw [hvc_] at ul493_0
                      have HL493_0 := Aside0.mk (show Kd.V (Kd.int .i64) 3 _ w.heap.size _ _ (rd_L1 t462 x146_4) from Kd.V_mk ul493_0 ge493_0)
                      clear hva_ hvn_ hvc_ ge493_0 ul493_0
                      clear hcc493 hce493
                      have HR493_0 := Aside0.mk hi493_0
                      have HC493_0 := Aside0.mk hl493_0
                      clear hi493_0 hl493_0
                      replace p493 := eq_true p493
                      replace q493 := eq_true q493
                      go_wp2_with (first | ((with_reducible refine gate_callee (f := 30) rfl ?_); refine goesL_ (some 155) rfl rfl Try.func30 (by kernel_rfl) rfl #[.slice A493_0 (rd_L1 t462 x146_4).length c493_0, .int .i64 t459, .int .i64 t460] rfl (by (try simp only [List.map_toArray, List.map_cons, List.map_nil]); first | done | rfl | (simp only [List.length_drop, List.length_take]; rfl)) ?_; (with_reducible refine (impl_FundamentalOf.calls k4 _ _ (rd_L1 t462 x146_4) t459 t460 t494 true _ ?side1 ?side2 A58.out).mono ?_); (case side1 => repeat (first | exact (by repeat (first | (with_reducible exact HR493_0.out) | (with_reducible refine Kd.C_alloc ?_ _) | (with_reducible refine Kd.C_drewN ?_ _) | (with_reducible refine Kd.C_drew ?_) | exact HR493_0.out)) | (with_reducible refine Kd.C_alloc ?_ _) | (with_reducible refine Kd.C_drewN ?_ _) | (with_reducible refine Kd.C_drew ?_))); (case side2 => exact HC493_0.out); rintro e w83 ⟨v496, rfl, ho0, hb⟩; refine ⟨_, rfl, ?_⟩; have n0_ := Aside0.mk (Kd.N_elder' (by (with_reducible repeat (first | apply Kd.N_alloc | apply Kd.N_drewN | apply Kd.N_drew)); exact HO_9.out) (Kd.R_base ho0) hb); have n1_ := Aside0.mk (Kd.N_elder' (by (with_reducible repeat (first | apply Kd.N_alloc | apply Kd.N_drewN | apply Kd.N_drew)); exact HO_13.out) (Kd.R_base ho0) hb); have n2_ := Aside0.mk (Kd.N_elder' (by (with_reducible repeat (first | apply Kd.N_alloc | apply Kd.N_drewN | apply Kd.N_drew)); exact HO_144.out) (Kd.R_base ho0) hb); have n3_ := Aside0.mk (Kd.V_elder' (by (with_reducible repeat (first | apply Kd.V_alloc | apply Kd.V_drewN | apply Kd.V_drew)); exact HL493_0.out) (Kd.R_base ho0) hb); have n4_ := Aside0.mk (Kd.R_lower ho0 (below_size (by repeat (first | (with_reducible first | exact HB.out | apply below_alloc | apply pw_below_drewN | apply below_drew1) | exact HB.out)))); have n5_ := Aside0.mk (Kd.C_below (by repeat (first | (with_reducible exact HR493_0.out) | (with_reducible refine Kd.C_alloc ?_ _) | (with_reducible refine Kd.C_drewN ?_ _) | (with_reducible refine Kd.C_drew ?_) | exact HR493_0.out)) hb); have n6_ := Aside0.mk (below_step (by repeat (first | (with_reducible first | exact HB.out | apply below_alloc | apply pw_below_drewN | apply below_drew1) | exact HB.out)) hb); clear HO_9; clear HO_13; clear HO_144; clear HL493_0; clear HR493_0; clear HB; have HO_9 := n0_; have HO_13 := n1_; have HO_144 := n2_; have HL493_0 := n3_; have HO497 := n4_; have HR493_0 := n5_; have HB := n6_; clear n0_ n1_ n2_ n3_ n4_ n5_ n6_; (try clear hb); (try clear hb2); (try clear hk); (try clear hi); (try clear ho0); obtain ⟨Ao84, co84, eo84⟩ := Kd.N_slice HO_13.out; subst eo84; obtain ⟨Ao85, co85, eo85⟩ := Kd.R_slice HO497.out; subst eo85) | (go_at_call 31; (with_reducible refine (laws_vHas.calls k4 _ _ t470 _ _ t494 true _ ?side1 ?side2 ?side3 ?side4 A60.out).mono ?_); (case side1 => repeat (first | exact (Kd.N_reads' HO_13.out).2.2 | (with_reducible refine Kd.C_alloc ?_ _) | (with_reducible refine Kd.C_drewN ?_ _) | (with_reducible refine Kd.C_drew ?_))); (case side2 => exact (Kd.N_reads' HO_13.out).2.1); (case side3 => repeat (first | exact (Kd.R_reads' HO497.out).2.2 | (with_reducible refine Kd.C_alloc ?_ _) | (with_reducible refine Kd.C_drewN ?_ _) | (with_reducible refine Kd.C_drew ?_))); (case side4 => exact (Kd.R_reads' HO497.out).2.1); rintro e w' ⟨rfl, ⟨nd, rfl⟩⟩; have p499 : 0 ≤ (0 : Int) := (by omega); have q499 : 0 < ((rd_L1 t462 x146_4).length : Int) := of_decide_eq_true (by first | (with_reducible assumption) | assumption); obtain ⟨ad499, e499, hx499_0⟩ := Kd.at_int (by repeat (first | (with_reducible exact HR493_0.out) | (with_reducible refine Kd.C_alloc ?_ _) | (with_reducible refine Kd.C_drewN ?_ _) | (with_reducible refine Kd.C_drew ?_) | exact HR493_0.out)) 0 p499 q499; cases e499; have qi499 : (0 < (rd_L1 t462 x146_4).length) = True := eq_true (by omega); (try rw [show ((0 : Int)).toNat = 0 from rfl] at hx499_0); (try rw [Addr.add_zero'] at hx499_0); replace p499 := eq_true p499; replace q499 := eq_true q499))
                      go_ret
                      exact ⟨by first | rfl | (simp [errW_none, errW_some] <;> rfl) | (simp [*, errW_none, errW_some] <;> rfl), by repeat (first | (with_reducible first | exact HB.out | apply below_alloc | apply pw_below_drewN | apply below_drew1) | exact HB.out)⟩
                   ·rw [if_neg c62] at H
                    exact absurd H (by simp)
                  ·replace c61 := Bool.eq_false_iff.mpr c61
                   subst c61
                   have H1 : (some false) = some r := by rw [if_neg (show ¬ (false = true) by decide)] at H; exact H
                   clear H
                   have H := H1
                   clear H1
                   obtain rfl := Option.some.inj H
                   have p493 : 0 ≤ (x146_4 : Int) := of_decide_eq_true (by first | (with_reducible assumption) | assumption)
                   have q493 : x146_4 < (t462.length : Int) := of_decide_eq_true (by first | (with_reducible assumption) | assumption)
                   obtain ⟨ad493, A493_0, c493_0, e493, hx493_0, hl493_0, hi493_0⟩ := at_L1 (Kd.N_reads' HO_144.out).2.2 x146_4 p493 q493
                   cases e493
                   obtain ⟨ce493, hce493, hMe493, hcc493⟩ := Kd.N_get HO_144.out [] x146_4 p493 (by first | exact q493 | exact of_decide_eq_true (by first | (with_reducible assumption) | assumption) | (have e_ := (Kd.N_reads' HO_144.out).1; omega))
                   obtain ⟨ua493_0, uc493_0, rfl, ul493_0, ge493_0⟩ := Kd.FK_slice_open hMe493
                   have hv493_0 := hcc493 0 _ rfl
                   rw [Nat.add_zero, show ((Kd.slice 3 (Kd.int .i64))).sz = 1 from rfl, Nat.mul_one] at hv493_0
                   replace hv493_0 := Option.some.inj (hv493_0.symm.trans hx493_0)
                   injection hv493_0 with hva_ hvn_ hvc_
                   rw [hva_] at ge493_0
                   rw [hvc_] at ul493_0
                   have HL493_0 := Aside0.mk (show Kd.V (Kd.int .i64) 3 _ w.heap.size _ _ (rd_L1 t462 x146_4) from Kd.V_mk ul493_0 ge493_0)
                   clear hva_ hvn_ hvc_ ge493_0 ul493_0
                   clear hcc493 hce493
                   have HR493_0 := Aside0.mk hi493_0
                   have HC493_0 := Aside0.mk hl493_0
                   clear hi493_0 hl493_0
                   replace p493 := eq_true p493
                   replace q493 := eq_true q493
                   go_wp2_with (first | ((with_reducible refine gate_callee (f := 30) rfl ?_); refine goesL_ (some 155) rfl rfl Try.func30 (by kernel_rfl) rfl #[.slice A493_0 (rd_L1 t462 x146_4).length c493_0, .int .i64 t459, .int .i64 t460] rfl (by (try simp only [List.map_toArray, List.map_cons, List.map_nil]); first | done | rfl | (simp only [List.length_drop, List.length_take]; rfl)) ?_; (with_reducible refine (impl_FundamentalOf.calls k4 _ _ (rd_L1 t462 x146_4) t459 t460 t494 true _ ?side1 ?side2 A58.out).mono ?_); (case side1 => repeat (first | exact (by repeat (first | (with_reducible exact HR493_0.out) | (with_reducible refine Kd.C_alloc ?_ _) | (with_reducible refine Kd.C_drewN ?_ _) | (with_reducible refine Kd.C_drew ?_) | exact HR493_0.out)) | (with_reducible refine Kd.C_alloc ?_ _) | (with_reducible refine Kd.C_drewN ?_ _) | (with_reducible refine Kd.C_drew ?_))); (case side2 => exact HC493_0.out); rintro e w86 ⟨v496, rfl, ho0, hb⟩; refine ⟨_, rfl, ?_⟩; have n0_ := Aside0.mk (Kd.N_elder' (by (with_reducible repeat (first | apply Kd.N_alloc | apply Kd.N_drewN | apply Kd.N_drew)); exact HO_9.out) (Kd.R_base ho0) hb); have n1_ := Aside0.mk (Kd.N_elder' (by (with_reducible repeat (first | apply Kd.N_alloc | apply Kd.N_drewN | apply Kd.N_drew)); exact HO_13.out) (Kd.R_base ho0) hb); have n2_ := Aside0.mk (Kd.N_elder' (by (with_reducible repeat (first | apply Kd.N_alloc | apply Kd.N_drewN | apply Kd.N_drew)); exact HO_144.out) (Kd.R_base ho0) hb); have n3_ := Aside0.mk (Kd.V_elder' (by (with_reducible repeat (first | apply Kd.V_alloc | apply Kd.V_drewN | apply Kd.V_drew)); exact HL493_0.out) (Kd.R_base ho0) hb); have n4_ := Aside0.mk (Kd.R_lower ho0 (below_size (by repeat (first | (with_reducible first | exact HB.out | apply below_alloc | apply pw_below_drewN | apply below_drew1) | exact HB.out)))); have n5_ := Aside0.mk (Kd.C_below (by repeat (first | (with_reducible exact HR493_0.out) | (with_reducible refine Kd.C_alloc ?_ _) | (with_reducible refine Kd.C_drewN ?_ _) | (with_reducible refine Kd.C_drew ?_) | exact HR493_0.out)) hb); have n6_ := Aside0.mk (below_step (by repeat (first | (with_reducible first | exact HB.out | apply below_alloc | apply pw_below_drewN | apply below_drew1) | exact HB.out)) hb); clear HO_9; clear HO_13; clear HO_144; clear HL493_0; clear HR493_0; clear HB; have HO_9 := n0_; have HO_13 := n1_; have HO_144 := n2_; have HL493_0 := n3_; have HO497 := n4_; have HR493_0 := n5_; have HB := n6_; clear n0_ n1_ n2_ n3_ n4_ n5_ n6_; (try clear hb); (try clear hb2); (try clear hk); (try clear hi); (try clear ho0); obtain ⟨Ao87, co87, eo87⟩ := Kd.N_slice HO_13.out; subst eo87; obtain ⟨Ao88, co88, eo88⟩ := Kd.R_slice HO497.out; subst eo88) | (go_at_call 31; (with_reducible refine (laws_vHas.calls k4 _ _ t470 _ _ t494 false _ ?side1 ?side2 ?side3 ?side4 A60.out).mono ?_); (case side1 => repeat (first | exact (Kd.N_reads' HO_13.out).2.2 | (with_reducible refine Kd.C_alloc ?_ _) | (with_reducible refine Kd.C_drewN ?_ _) | (with_reducible refine Kd.C_drew ?_))); (case side2 => exact (Kd.N_reads' HO_13.out).2.1); (case side3 => repeat (first | exact (Kd.R_reads' HO497.out).2.2 | (with_reducible refine Kd.C_alloc ?_ _) | (with_reducible refine Kd.C_drewN ?_ _) | (with_reducible refine Kd.C_drew ?_))); (case side4 => exact (Kd.R_reads' HO497.out).2.1); rintro e w' ⟨rfl, ⟨nd, rfl⟩⟩))
                   go_ret
                   exact ⟨by first | rfl | (simp [errW_none, errW_some] <;> rfl) | (simp [*, errW_none, errW_some] <;> rfl), by repeat (first | (with_reducible first | exact HB.out | apply below_alloc | apply pw_below_drewN | apply below_drew1) | exact HB.out)⟩
                 ·replace c59 := Bool.eq_false_iff.mpr c59
                  subst c59
                  have H1 : (some false) = some r := by rw [if_neg (show ¬ (false = true) by decide)] at H; exact H
                  clear H
                  have H := H1
                  clear H1
                  obtain rfl := Option.some.inj H
                  have p493 : 0 ≤ (x146_4 : Int) := of_decide_eq_true (by first | (with_reducible assumption) | assumption)
                  have q493 : x146_4 < (t462.length : Int) := of_decide_eq_true (by first | (with_reducible assumption) | assumption)
                  obtain ⟨ad493, A493_0, c493_0, e493, hx493_0, hl493_0, hi493_0⟩ := at_L1 (Kd.N_reads' HO_144.out).2.2 x146_4 p493 q493
                  cases e493
                  obtain ⟨ce493, hce493, hMe493, hcc493⟩ := Kd.N_get HO_144.out [] x146_4 p493 (by first | exact q493 | exact of_decide_eq_true (by first | (with_reducible assumption) | assumption) | (have e_ := (Kd.N_reads' HO_144.out).1; omega))
                  obtain ⟨ua493_0, uc493_0, rfl, ul493_0, ge493_0⟩ := Kd.FK_slice_open hMe493
                  have hv493_0 := hcc493 0 _ rfl
                  rw [Nat.add_zero, show ((Kd.slice 3 (Kd.int .i64))).sz = 1 from rfl, Nat.mul_one] at hv493_0
                  replace hv493_0 := Option.some.inj (hv493_0.symm.trans hx493_0)
                  injection hv493_0 with hva_ hvn_ hvc_
                  rw [hva_] at ge493_0
                  rw [hvc_] at ul493_0
                  have HL493_0 := Aside0.mk (show Kd.V (Kd.int .i64) 3 _ w.heap.size _ _ (rd_L1 t462 x146_4) from Kd.V_mk ul493_0 ge493_0)
                  clear hva_ hvn_ hvc_ ge493_0 ul493_0
                  clear hcc493 hce493
                  have HR493_0 := Aside0.mk hi493_0
                  have HC493_0 := Aside0.mk hl493_0
                  clear hi493_0 hl493_0
                  replace p493 := eq_true p493
                  replace q493 := eq_true q493
                  go_wp2_with (first | ((with_reducible refine gate_callee (f := 30) rfl ?_); refine goesL_ (some 155) rfl rfl Try.func30 (by kernel_rfl) rfl #[.slice A493_0 (rd_L1 t462 x146_4).length c493_0, .int .i64 t459, .int .i64 t460] rfl (by (try simp only [List.map_toArray, List.map_cons, List.map_nil]); first | done | rfl | (simp only [List.length_drop, List.length_take]; rfl)) ?_; (with_reducible refine (impl_FundamentalOf.calls k4 _ _ (rd_L1 t462 x146_4) t459 t460 t494 false _ ?side1 ?side2 A58.out).mono ?_); (case side1 => repeat (first | exact (by repeat (first | (with_reducible exact HR493_0.out) | (with_reducible refine Kd.C_alloc ?_ _) | (with_reducible refine Kd.C_drewN ?_ _) | (with_reducible refine Kd.C_drew ?_) | exact HR493_0.out)) | (with_reducible refine Kd.C_alloc ?_ _) | (with_reducible refine Kd.C_drewN ?_ _) | (with_reducible refine Kd.C_drew ?_))); (case side2 => exact HC493_0.out); rintro e w89 ⟨v496, rfl, ho0, hb⟩; refine ⟨_, rfl, ?_⟩; have n0_ := Aside0.mk (Kd.N_elder' (by (with_reducible repeat (first | apply Kd.N_alloc | apply Kd.N_drewN | apply Kd.N_drew)); exact HO_9.out) (Kd.R_base ho0) hb); have n1_ := Aside0.mk (Kd.N_elder' (by (with_reducible repeat (first | apply Kd.N_alloc | apply Kd.N_drewN | apply Kd.N_drew)); exact HO_13.out) (Kd.R_base ho0) hb); have n2_ := Aside0.mk (Kd.N_elder' (by (with_reducible repeat (first | apply Kd.N_alloc | apply Kd.N_drewN | apply Kd.N_drew)); exact HO_144.out) (Kd.R_base ho0) hb); have n3_ := Aside0.mk (Kd.V_elder' (by (with_reducible repeat (first | apply Kd.V_alloc | apply Kd.V_drewN | apply Kd.V_drew)); exact HL493_0.out) (Kd.R_base ho0) hb); have n4_ := Aside0.mk (Kd.R_lower ho0 (below_size (by repeat (first | (with_reducible first | exact HB.out | apply below_alloc | apply pw_below_drewN | apply below_drew1) | exact HB.out)))); have n5_ := Aside0.mk (Kd.C_below (by repeat (first | (with_reducible exact HR493_0.out) | (with_reducible refine Kd.C_alloc ?_ _) | (with_reducible refine Kd.C_drewN ?_ _) | (with_reducible refine Kd.C_drew ?_) | exact HR493_0.out)) hb); have n6_ := Aside0.mk (below_step (by repeat (first | (with_reducible first | exact HB.out | apply below_alloc | apply pw_below_drewN | apply below_drew1) | exact HB.out)) hb); clear HO_9; clear HO_13; clear HO_144; clear HL493_0; clear HR493_0; clear HB; have HO_9 := n0_; have HO_13 := n1_; have HO_144 := n2_; have HL493_0 := n3_; have HO497 := n4_; have HR493_0 := n5_; have HB := n6_; clear n0_ n1_ n2_ n3_ n4_ n5_ n6_; (try clear hb); (try clear hb2); (try clear hk); (try clear hi); (try clear ho0)))
                  go_ret
                  exact ⟨by first | rfl | (simp [errW_none, errW_some] <;> rfl) | (simp [*, errW_none, errW_some] <;> rfl), by repeat (first | (with_reducible first | exact HB.out | apply below_alloc | apply pw_below_drewN | apply below_drew1) | exact HB.out)⟩
                ·rw [if_neg c57] at H
                 exact absurd H (by simp)
               ·rw [if_neg c56] at H
                exact absurd H (by simp)
              ·rw [if_neg c55] at H
               have c55b0 : decide (x146_4 < (t462.length : Int)) = false := decide_eq_false c55
               clear c55
               have H' := Aside0.mk H
               clear H
               obtain ⟨Ao90, co90, eo90⟩ := Kd.N_slice HO_13.out
               subst eo90
               go_wp2
               go_loopg [196] k4 (fun kq v196 w' => ∃ (x196_5 : Int), v196 = .int .i64 x196_5 ∧ Aside0 (laws_FnAllHurwitz.l2 kq t462 t470 (t470.length : Int) x196_5 = some r) ∧ Aside0 (kq ≤ k4) ∧ Aside0 (Kd.N (Kd.slice 3 (Kd.int .i64)) 22 w' w.heap.size (fun k_ => some k_ ≠ ((.slice Ao90 t470.length co90) : Value).ownBlock) (.slice Ao54 t462.length co54) t462) ∧ Aside0 (Kd.N (Kd.slice 3 (Kd.int .i64)) 22 w' w.heap.size (fun k_ => some k_ ≠ ((.slice Ao54 t462.length co54) : Value).ownBlock) (.slice Ao90 t470.length co90) t470) ∧ Aside0 (Below w.heap.size w w'))
               case atStart => exact ⟨(0), (by first | rfl | (simp; done) | (simp [*]; done)), H', ⟨Nat.le_refl _⟩, ⟨by (with_reducible repeat (first | apply Kd.N_alloc | apply Kd.N_drewN | apply Kd.N_drew)); exact HO_9.out⟩, ⟨by (with_reducible repeat (first | apply Kd.N_alloc | apply Kd.N_drewN | apply Kd.N_drew)); exact Kd.N_mono HO_13.out (fun _ hk => hk.1)⟩, ⟨by repeat (first | (with_reducible first | exact HB.out | apply below_alloc | apply pw_below_drewN | apply below_drew1) | exact HB.out)⟩⟩
               case round =>
                clear H'
                try clear c1
                try clear c2
                try clear p2
                try clear c3
                try clear c4
                try clear p4
                try clear q4
                try clear hx4
                try clear qi4
                try clear c5
                try clear p5
                try clear q5
                try clear hx5
                try clear c6
                try clear p6
                try clear c7
                try clear c16
                try clear c16b0
                try clear c16b1
                try clear c16b2
                try clear c18
                try clear c19
                try clear c19b0
                try clear c19b1
                try clear c19b2
                try clear c20
                try clear c21
                try clear c22
                try clear c23
                try clear c24
                try clear c26
                try clear c27
                try clear c28
                try clear c30
                try clear c34
                try clear c42
                try clear c42b0
                try clear c42b1
                try clear c42b2
                try clear c46
                try clear c48
                try clear c48b0
                try clear c49
                try clear c49b0
                try clear p49
                try clear q49
                try clear hx49
                try clear qi49
                try clear c50
                try clear c50b0
                try clear p50
                try clear q50
                try clear hx50
                try clear c51
                try clear c51b0
                try clear c51b1
                try clear c52
                try clear c52b0
                try clear c53
                try clear c55
                try clear c55b0
                try clear c56
                try clear c56b0
                try clear c57
                try clear c57b0
                try clear c59
                try clear c61
                try clear c62
                try clear c62b0
                try clear c62b1
                try clear c63
                try clear c63b0
                try clear p64
                try clear c67
                try clear c67b0
                try clear c67b1
                try clear c68
                try clear c68b0
                try clear c70
                try clear c70b0
                try clear c71
                try clear c71b0
                try clear c73
                try clear hx492_0
                try clear hx493_0
                try clear hx499_0
                try clear hx500_0
                try clear p2
                try clear p4
                try clear p49
                try clear p492
                try clear p493
                try clear p499
                try clear p500
                try clear p6
                try clear q4
                try clear q49
                try clear q492
                try clear q493
                try clear q499
                try clear q500
                obtain ⟨x196_5, rfl, HA, HK5, HO_9, HO_194, HB⟩ := hrel
                cases gk with
                | zero => exact absurd HA.out (by simp [laws_FnAllHurwitz.l2])
                | succ k5 =>
                 have H := HA.out
                 clear HA
                 simp only [laws_FnAllHurwitz.l2] at H
                 by_cases c91 : x196_5 < (t470.length : Int)
                 ·rw [if_pos c91] at H
                  have c91b0 : decide (x196_5 < (t470.length : Int)) = true := decide_eq_true c91
                  clear c91
                  by_cases c92 : 0 ≤ x196_5
                  ·rw [if_pos c92] at H
                   have c92b0 : decide (0 ≤ x196_5) = true := decide_eq_true c92
                   clear c92
                   by_cases c93 : x196_5 < (t470.length : Int)
                   ·rw [if_pos c93] at H
                    have c93b0 : decide (x196_5 < (t470.length : Int)) = true := decide_eq_true c93
                    clear c93
                    replace H := Option.bind_eq_some_iff.mp H
                    obtain ⟨t503, A940, H⟩ := H
                    replace H : (if t503 = true then (laws_FnAllHurwitz.l2 k5 t462 t470 (t470.length : Int) (wrap64 (x196_5 + 1))) else (some false)) = some r := H
                    have A94 := Aside0.mk A940
                    clear A940
                    by_cases c95 : t503 = true
                    ·subst c95
                     have H1 : (laws_FnAllHurwitz.l2 k5 t462 t470 (t470.length : Int) (wrap64 (x196_5 + 1))) = some r := by rw [if_pos rfl] at H; exact H
                     clear H
                     have H := H1
                     clear H1
                     have H' := Aside0.mk H
                     clear H
                     have p502 : 0 ≤ (x196_5 : Int) := of_decide_eq_true (by first | (with_reducible assumption) | assumption)
                     have q502 : x196_5 < (t470.length : Int) := of_decide_eq_true (by first | (with_reducible assumption) | assumption)
                     obtain ⟨ad502, A502_0, c502_0, e502, hx502_0, hl502_0, hi502_0⟩ := at_L1 (Kd.N_reads' HO_194.out).2.2 x196_5 p502 q502
                     cases e502
                     obtain ⟨ce502, hce502, hMe502, hcc502⟩ := Kd.N_get HO_194.out [] x196_5 p502 (by first | exact q502 | exact of_decide_eq_true (by first | (with_reducible assumption) | assumption) | (have e_ := (Kd.N_reads' HO_194.out).1; omega))
                     obtain ⟨ua502_0, uc502_0, rfl, ul502_0, ge502_0⟩ := Kd.FK_slice_open hMe502
                     have hv502_0 := hcc502 0 _ rfl
                     rw [Nat.add_zero, show ((Kd.slice 3 (Kd.int .i64))).sz = 1 from rfl, Nat.mul_one] at hv502_0
                     replace hv502_0 := Option.some.inj (hv502_0.symm.trans hx502_0)
                     injection hv502_0 with hva_ hvn_ hvc_
                     rw [hva_] at ge502_0
                     rw [hvc_] at ul502_0
                     have HL502_0 := Aside0.mk (show Kd.V (Kd.int .i64) 3 _ w.heap.size _ _ (rd_L1 t470 x196_5) from Kd.V_mk ul502_0 ge502_0)
                     clear hva_ hvn_ hvc_ ge502_0 ul502_0
                     clear hcc502 hce502
                     have HR502_0 := Aside0.mk hi502_0
                     have HC502_0 := Aside0.mk hl502_0
                     clear hi502_0 hl502_0
                     replace p502 := eq_true p502
                     replace q502 := eq_true q502
                     go_wp2_with (first | ((with_reducible refine gate_callee (f := 31) rfl ?_); refine goesL_ (some 202) rfl rfl Try.func31 (by kernel_rfl) rfl #[.slice Ao54 t462.length co54, .slice A502_0 (rd_L1 t470 x196_5).length c502_0] rfl (by (try simp only [List.map_toArray, List.map_cons, List.map_nil]); first | done | rfl | (simp only [List.length_drop, List.length_take]; rfl)) ?_; (with_reducible refine (laws_vHas.calls k5 _ _ t462 _ _ (rd_L1 t470 x196_5) true _ ?side1 ?side2 ?side3 ?side4 A94.out).mono ?_); (case side1 => repeat (first | exact (Kd.N_reads' HO_9.out).2.2 | (with_reducible refine Kd.C_alloc ?_ _) | (with_reducible refine Kd.C_drewN ?_ _) | (with_reducible refine Kd.C_drew ?_))); (case side2 => exact (Kd.N_reads' HO_9.out).2.1); (case side3 => repeat (first | exact (by repeat (first | (with_reducible exact HR502_0.out) | (with_reducible refine Kd.C_alloc ?_ _) | (with_reducible refine Kd.C_drewN ?_ _) | (with_reducible refine Kd.C_drew ?_) | exact HR502_0.out)) | (with_reducible refine Kd.C_alloc ?_ _) | (with_reducible refine Kd.C_drewN ?_ _) | (with_reducible refine Kd.C_drew ?_))); (case side4 => exact HC502_0.out); rintro e w' ⟨rfl, ⟨nd, rfl⟩⟩; refine ⟨_, rfl, ?_⟩))
                     go_roundg k5
                     case measure => have := HJ9.out; have := HJ37.out; have := HK3.out; have := HK4.out; have := HK5.out; omega
                     case rel => exact ⟨(wrap64 (x196_5 + 1)), (by first | rfl | (simp; done) | (simp [*]; done)), H', ⟨by have := HJ9.out; have := HJ37.out; have := HK3.out; have := HK4.out; have := HK5.out; omega⟩, ⟨by (with_reducible repeat (first | apply Kd.N_alloc | apply Kd.N_drewN | apply Kd.N_drew)); exact HO_9.out⟩, ⟨by (with_reducible repeat (first | apply Kd.N_alloc | apply Kd.N_drewN | apply Kd.N_drew)); exact HO_194.out⟩, ⟨by repeat (first | (with_reducible first | exact HB.out | apply below_alloc | apply pw_below_drewN | apply below_drew1) | exact HB.out)⟩⟩
                    ·replace c95 := Bool.eq_false_iff.mpr c95
                     subst c95
                     have H1 : (some false) = some r := by rw [if_neg (show ¬ (false = true) by decide)] at H; exact H
                     clear H
                     have H := H1
                     clear H1
                     obtain rfl := Option.some.inj H
                     have p502 : 0 ≤ (x196_5 : Int) := of_decide_eq_true (by first | (with_reducible assumption) | assumption)
                     have q502 : x196_5 < (t470.length : Int) := of_decide_eq_true (by first | (with_reducible assumption) | assumption)
                     obtain ⟨ad502, A502_0, c502_0, e502, hx502_0, hl502_0, hi502_0⟩ := at_L1 (Kd.N_reads' HO_194.out).2.2 x196_5 p502 q502
                     cases e502
                     obtain ⟨ce502, hce502, hMe502, hcc502⟩ := Kd.N_get HO_194.out [] x196_5 p502 (by first | exact q502 | exact of_decide_eq_true (by first | (with_reducible assumption) | assumption) | (have e_ := (Kd.N_reads' HO_194.out).1; omega))
                     obtain ⟨ua502_0, uc502_0, rfl, ul502_0, ge502_0⟩ := Kd.FK_slice_open hMe502
                     have hv502_0 := hcc502 0 _ rfl
                     rw [Nat.add_zero, show ((Kd.slice 3 (Kd.int .i64))).sz = 1 from rfl, Nat.mul_one] at hv502_0
                     replace hv502_0 := Option.some.inj (hv502_0.symm.trans hx502_0)
                     injection hv502_0 with hva_ hvn_ hvc_
                     rw [hva_] at ge502_0
                     rw [hvc_] at ul502_0
                     have HL502_0 := Aside0.mk (show Kd.V (Kd.int .i64) 3 _ w.heap.size _ _ (rd_L1 t470 x196_5) from Kd.V_mk ul502_0 ge502_0)
                     clear hva_ hvn_ hvc_ ge502_0 ul502_0
                     clear hcc502 hce502
                     have HR502_0 := Aside0.mk hi502_0
                     have HC502_0 := Aside0.mk hl502_0
                     clear hi502_0 hl502_0
                     replace p502 := eq_true p502
                     replace q502 := eq_true q502
                     go_wp2_with (first | ((with_reducible refine gate_callee (f := 31) rfl ?_); refine goesL_ (some 202) rfl rfl Try.func31 (by kernel_rfl) rfl #[.slice Ao54 t462.length co54, .slice A502_0 (rd_L1 t470 x196_5).length c502_0] rfl (by (try simp only [List.map_toArray, List.map_cons, List.map_nil]); first | done | rfl | (simp only [List.length_drop, List.length_take]; rfl)) ?_; (with_reducible refine (laws_vHas.calls k5 _ _ t462 _ _ (rd_L1 t470 x196_5) false _ ?side1 ?side2 ?side3 ?side4 A94.out).mono ?_); (case side1 => repeat (first | exact (Kd.N_reads' HO_9.out).2.2 | (with_reducible refine Kd.C_alloc ?_ _) | (with_reducible refine Kd.C_drewN ?_ _) | (with_reducible refine Kd.C_drew ?_))); (case side2 => exact (Kd.N_reads' HO_9.out).2.1); (case side3 => repeat (first | exact (by repeat (first | (with_reducible exact HR502_0.out) | (with_reducible refine Kd.C_alloc ?_ _) | (with_reducible refine Kd.C_drewN ?_ _) | (with_reducible refine Kd.C_drew ?_) | exact HR502_0.out)) | (with_reducible refine Kd.C_alloc ?_ _) | (with_reducible refine Kd.C_drewN ?_ _) | (with_reducible refine Kd.C_drew ?_))); (case side4 => exact HC502_0.out); rintro e w' ⟨rfl, ⟨nd, rfl⟩⟩; refine ⟨_, rfl, ?_⟩))
                     go_ret
                     exact ⟨by first | rfl | (simp [errW_none, errW_some] <;> rfl) | (simp [*, errW_none, errW_some] <;> rfl), by repeat (first | (with_reducible first | exact HB.out | apply below_alloc | apply pw_below_drewN | apply below_drew1) | exact HB.out)⟩
                   ·rw [if_neg c93] at H
                    exact absurd H (by simp)
                  ·rw [if_neg c92] at H
                   exact absurd H (by simp)
                 ·rw [if_neg c91] at H
                  have c91b0 : decide (x196_5 < (t470.length : Int)) = false := decide_eq_false c91
                  clear c91
                  obtain rfl := Option.some.inj H
                  go_wp2
                  go_ret
                  exact ⟨by first | rfl | (simp [errW_none, errW_some] <;> rfl) | (simp [*, errW_none, errW_some] <;> rfl), by repeat (first | (with_reducible first | exact HB.out | apply below_alloc | apply pw_below_drewN | apply below_drew1) | exact HB.out)⟩
           ·replace c53 := Bool.eq_false_iff.mpr c53
            subst c53
            have H1 : (some true) = some r := by rw [if_neg (show ¬ (false = true) by decide)] at H; exact H
            clear H
            have H := H1
            clear H1
            obtain rfl := Option.some.inj H
            go_wp2
            go_ret
            exact ⟨by first | rfl | (simp [errW_none, errW_some] <;> rfl) | (simp [*, errW_none, errW_some] <;> rfl), by repeat (first | (with_reducible first | exact HB.out | apply below_alloc | apply pw_below_drewN | apply below_drew1) | exact HB.out)⟩

/-- THE ONE PURE STATEMENT of laws_FnAllHurwitz: yours. -/
def laws_FnAllHurwitz.Pure : Prop := ∀ (l0 : List Int) (l1 : List Int), l0.length ≤ maxLen → l0.length * 1 ≤ 140737488351232 → (∀ x ∈ l0, (Lit.int .u8 x).wf = true) → l1.length ≤ maxLen → l1.length * 1 ≤ 140737488351232 → (∀ x ∈ l1, (Lit.int .u8 x).wf = true) → ∃ k, laws_FnAllHurwitz.f k l0 l1 = some true
theorem laws_FnAllHurwitz.walk (P : laws_FnAllHurwitz.Pure) (a0 : Option Addr) (len0 cap0 : Nat) (z0 : List Int) (a1 : Option Addr) (len1 cap1 : Nat) (z1 : List Int) (w : World) (w0 : (a0 = none ∧ len0 = 0 ∧ cap0 = 0 ∧ z0 = []) ∨ ∃ x, a0 = some x ∧ len0 ≤ cap0 ∧ cap0 ≤ maxLen ∧ z0.length = cap0 ∧ (∀ i, i < z0.length → w.cell? (x.add i) = some (.int .u8 (z0.getD i 0))) ∧ ∀ n ∈ z0, (Lit.int .u8 n).wf = true) (y0 : len0 * 1 ≤ 140737488351232) (w1 : (a1 = none ∧ len1 = 0 ∧ cap1 = 0 ∧ z1 = []) ∨ ∃ x, a1 = some x ∧ len1 ≤ cap1 ∧ cap1 ≤ maxLen ∧ z1.length = cap1 ∧ (∀ i, i < z1.length → w.cell? (x.add i) = some (.int .u8 (z1.getD i 0))) ∧ ∀ n ∈ z1, (Lit.int .u8 n).wf = true) (y1 : len1 * 1 ≤ 140737488351232) :
  Calls Try.prog 5 #[.slice a0 len0 cap0, .slice a1 len1 cap1] w fun e w' => e = .returned (.bool true) ∧ Below w.heap.size w w' := by
 obtain ⟨l0, rfl, hr0, hm0, hw0, hc0⟩ := ReadsInt.ofRowC w0
 obtain ⟨l1, rfl, hr1, hm1, hw1, hc1⟩ := ReadsInt.ofRowC w1
 obtain ⟨k, h⟩ := P l0 l1 hm0 y0 hw0 hm1 y1 hw1
 refine (laws_FnAllHurwitz.calls k _ _ l0 _ _ l1 true w (Kd.C_of_reads (d := (0 : Int)) (h1 := fun _ => rfl) hr0) hc0 (Kd.C_of_reads (d := (0 : Int)) (h1 := fun _ => rfl) hr1) hc1 h).mono ?_
 rintro e w' ⟨rfl, hd⟩
 exact ⟨rfl, hd⟩

end Go.Proofs.Ytgpoljimomfbbaa.P

-- UhuFactors
namespace Go.Proofs.Ytgpoljimomfbbaa.P
open Go.RowKit Go.Proofs.YtgpoljimomfbbaaW.PrintWords Go.Proofs.YtgpoljimomfbbaaW.PrintLast
set_option linter.unusedVariables false
set_option linter.unusedSimpArgs false
/-- All lists that are visited. -/
def allF : Nat → List Int → Int → List (List Int)
  | 0, x, _ => [x]
  | p + 1, x, m => allL (fun n => allF p (x ++ [n]) n) m.toNat 1
def foldO {σ : Type} (step : σ → List Int → Option σ) : σ → List (List Int) → Option σ
  | s, [] => some s
  | s, u :: us => (step s u).bind fun s1 => foldO step s1 us
theorem foldO_append {σ : Type} (step : σ → List Int → Option σ) (M : List (List Int)) : ∀ (L : List (List Int)) (s : σ), foldO step s (L ++ M) = (foldO step s L).bind fun s1 => foldO step s1 M
  | [], s => rfl
  | u :: L, s => by
    rw [List.cons_append, foldO, foldO]
    cases step s u with
    | none => rfl
    | some s1 => exact foldO_append step M L s1
theorem fallS_fold {σ : Type} (step : σ → List Int → Option σ) (p : Nat) : ∀ (x : List Int) (m : Int) (s : σ), fallS step p x m s = foldO step s (allF p x m) := by
  induction p with
  | zero =>
    intro x m s
    show step s x = (step s x).bind fun s1 => some s1
    cases step s x <;> rfl
  | succ p ih =>
    intro x m s
    show fallL (fun s n => fallS step p (x ++ [n]) n s) m.toNat 1 s = foldO step s (allL (fun n => allF p (x ++ [n]) n) m.toNat 1)
    have key : ∀ (j : Nat) (n : Int) (s : σ), fallL (fun s n => fallS step p (x ++ [n]) n s) j n s = foldO step s (allL (fun n => allF p (x ++ [n]) n) j n) := by
      intro j
      induction j with
      | zero => intro n s; rfl
      | succ j ihj =>
        intro n s
        rw [fallL, allL, foldO_append, ih]
        congr 1
        funext s1
        exact ihj (n + 1) s1
    exact key _ _ _
theorem allL_filter (f g : Int → List (List Int)) (q : List Int → Bool) (h : ∀ n, g n = (f n).filter q) : ∀ (j : Nat) (n : Int), allL g j n = (allL f j n).filter q
  | 0, n => rfl
  | j + 1, n => by rw [allL, allL, List.filter_append, h, allL_filter f g q h j (n + 1)]
theorem allS_filter (a b : Int) (p : Nat) : ∀ (x : List Int) (m : Int), allS a b p x m = (allF p x m).filter (fun u => huIs u a b) := by
  induction p with
  | zero =>
    intro x m
    show (if huIs x a b = true then [x] else []) = [x].filter (fun u => huIs u a b)
    by_cases h : huIs x a b = true
    · rw [if_pos h, List.filter_cons_of_pos (p := fun u => huIs u a b) h]
      rfl
    · rw [if_neg h, List.filter_cons_of_neg (p := fun u => huIs u a b) h]
      rfl
  | succ p ih =>
    intro x m
    unfold allS allF
    exact allL_filter _ _ _ (fun n => ih _ _) _ _
/-- A list whose numbers do not rise and lie between 1 and 40, and end no lower than m. -/
def Down (x : List Int) (m : Int) : Prop := (∀ n ∈ x, 1 ≤ n ∧ n ≤ 40) ∧ falls x = true ∧ (∀ n ∈ x, m ≤ n)
theorem fallsFrom_snoc (n : Int) : ∀ (l : List Int) (q : Int), fallsFrom q l = true → (∀ y ∈ l, n ≤ y) → n ≤ q → fallsFrom q (l ++ [n]) = true
  | [], q, _, _, h => by simp [fallsFrom, h]
  | y :: l, q, h, hl, _ => by
    rw [fallsFrom, Bool.and_eq_true] at h
    rw [List.cons_append, fallsFrom, Bool.and_eq_true]
    exact ⟨h.1, fallsFrom_snoc n l y h.2 (fun z hz => hl z (List.mem_cons_of_mem _ hz)) (hl y List.mem_cons_self)⟩
theorem falls_snoc (n : Int) (l : List Int) (h : falls l = true) (hl : ∀ y ∈ l, n ≤ y) : falls (l ++ [n]) = true := by
  cases l with
  | nil => rfl
  | cons y l => exact fallsFrom_snoc n l y h (fun z hz => hl z (List.mem_cons_of_mem _ hz)) (hl y List.mem_cons_self)
theorem down_snoc {x : List Int} {m n : Int} (h : Down x m) (h1 : 1 ≤ n) (h2 : n ≤ m) (hm : m ≤ 40) : Down (x ++ [n]) n := by
  obtain ⟨d1, d2, d3⟩ := h
  refine ⟨fun y hy => ?_, falls_snoc n x d2 (fun y hy => Int.le_trans h2 (d3 y hy)), fun y hy => ?_⟩
  · rcases List.mem_append.1 hy with hy | hy
    · exact d1 y hy
    · rw [List.mem_singleton] at hy; omega
  · rcases List.mem_append.1 hy with hy | hy
    · exact Int.le_trans h2 (d3 y hy)
    · rw [List.mem_singleton] at hy; omega
theorem allF_down (p : Nat) : ∀ (x : List Int) (m : Int), m ≤ 40 → Down x m → ∀ u ∈ allF p x m, (∀ n ∈ u, 1 ≤ n ∧ n ≤ 40) ∧ falls u = true ∧ u.length = x.length + p := by
  induction p with
  | zero =>
    intro x m _ h u hu
    rw [allF, List.mem_singleton] at hu
    subst hu
    exact ⟨h.1, h.2.1, rfl⟩
  | succ p ih =>
    intro x m hm h u hu
    obtain ⟨i, h1, h2, h3⟩ := allL_mem _ u _ _ hu
    have hi : i ≤ m := by omega
    have := ih (x ++ [i]) i (by omega) (down_snoc h h1 hi hm) u h3
    rw [List.length_append, List.length_singleton] at this
    exact ⟨this.1, this.2.1, by omega⟩
theorem mul_40 {x y Y : Int} (h1 : 0 ≤ x) (h2 : x ≤ 40) (h3 : 0 ≤ y) (h4 : y ≤ Y) : 0 ≤ x * y ∧ x * y ≤ 40 * Y := ⟨Int.mul_nonneg h1 h3, Int.mul_le_mul h2 h4 h3 (by omega)⟩
theorem facL_is : ∀ (u : List Int) (s p : Int), (∀ n ∈ u, 1 ≤ n ∧ n ≤ 40) → -1000000 ≤ s → s + 1600 * (u.length : Int) ≤ 1000000 → 1 ≤ p → p * 40 ^ u.length ≤ 1000000000000 → facL u s p = (s + sqs u, p * prd u)
  | [], s, p, _, _, _, _, _ => by simp [facL, sqs, prd]
  | n :: u, s, p, h, h1, h2, h3, h4 => by
    obtain ⟨n1, n2⟩ := h n List.mem_cons_self
    rw [List.length_cons] at h2 h4
    have hq := mul_40 (x := n) (y := n) (Y := 40) (by omega) n2 (by omega) n2
    have hpow : (1 : Int) ≤ (40 : Int) ^ u.length := by
      have := Nat.one_le_pow u.length 40 (by decide)
      exact_mod_cast this
    have hpn : p * n ≤ p * 40 := Int.mul_le_mul_of_nonneg_left n2 (by omega)
    have hpn1 : 1 ≤ p * n := by
      have := Int.mul_le_mul_of_nonneg_left n1 (show 0 ≤ p by omega)
      omega
    have h5 : p * n * (40 : Int) ^ u.length ≤ 1000000000000 := by
      refine Int.le_trans (Int.mul_le_mul_of_nonneg_right hpn (by omega)) ?_
      have e : p * 40 * (40 : Int) ^ u.length = p * (40 ^ (u.length + 1)) := by rw [Int.pow_succ, Int.mul_comm ((40 : Int) ^ u.length) 40, Int.mul_assoc]
      rw [e]
      exact h4
    have h6 : p * n ≤ 1000000000000 := by
      have := Int.mul_le_mul_of_nonneg_left hpow (show 0 ≤ p * n by omega)
      omega
    have w1 : wrap64 (n * n) = n * n := by unfold wrap64; omega
    have w2 : wrap64 (s + n * n) = s + n * n := by unfold wrap64; omega
    have w3 : wrap64 (p * n) = p * n := by unfold wrap64; omega
    have ih := facL_is u (s + n * n) (p * n) (fun y hy => h y (List.mem_cons_of_mem _ hy)) (by omega) (by push_cast at h2; omega) hpn1 h5
    rw [facL, w1, w2, w3, ih, sqs, prd, Int.add_assoc, Int.mul_assoc]
/-- The factor of a list, if it has one. -/
def hasF (b : Int) (u : List Int) (a : Nat) : Prop := 1 ≤ a ∧ a ≤ 20 ∧ sqs u = (a : Int) * prd u + b
theorem sqs_nn : ∀ u : List Int, 0 ≤ sqs u
  | [] => Int.le_refl _
  | n :: u => by
    rw [sqs]
    have := sqs_nn u
    have h2 : 0 ≤ n * n := by
      rcases Int.le_total 0 n with h | h
      · exact Int.mul_nonneg h h
      · exact Int.mul_nonneg_of_nonpos_of_nonpos h h
    omega
theorem sqs_40 : ∀ u : List Int, (∀ n ∈ u, 1 ≤ n ∧ n ≤ 40) → sqs u ≤ 1600 * (u.length : Int)
  | [], _ => by simp [sqs]
  | n :: u, h => by
    have ih := sqs_40 u (fun y hy => h y (List.mem_cons_of_mem _ hy))
    obtain ⟨n1, n2⟩ := h n List.mem_cons_self
    have hq := mul_40 (x := n) (y := n) (Y := 40) (by omega) n2 (by omega) n2
    rw [sqs, List.length_cons]
    push_cast
    omega
theorem fac_one {b : Int} (hb : -50 ≤ b ∧ b ≤ 50) (u : List Int) (h : ∀ n ∈ u, 1 ≤ n ∧ n ≤ 40) (hl : u.length ≤ 4) (hs : List Bool) (hh : hs.length = 21) : ∃ hs', facStep b hs u = some hs' ∧ hs'.length = 21 ∧ ∀ a : Nat, a ≤ 20 → (hs'[a]? = some true ↔ hs[a]? = some true ∨ hasF b u a) := by
  have w0 : wrap64 (-b) = -b := by unfold wrap64; omega
  have hpow : (40 : Int) ^ u.length ≤ 2560000 := by
    have : (40 : Nat) ^ u.length ≤ 40 ^ 4 := Nat.pow_le_pow_right (by decide) hl
    have e : (40 : Nat) ^ 4 = 2560000 := by decide
    rw [e] at this
    have e3 : (40 : Int) ^ u.length = (((40 : Nat) ^ u.length : Nat) : Int) := by rw [Int.natCast_pow]; rfl
    rw [e3]
    generalize (40 : Nat) ^ u.length = q at this
    omega
  have hf := facL_is u (-b) 1 h (by omega) (by omega) (by omega) (by omega)
  have hp1 := prd_pos (fun n hn => (h n hn).1)
  have hq := sqs_40 u h
  have hq0 := sqs_nn u
  unfold facStep
  rw [w0, hf, Int.one_mul]
  show ∃ hs', facEnd hs (-b + sqs u) (prd u) = some hs' ∧ _
  unfold facEnd
  have key : ∀ a : Nat, hasF b u a → 0 < -b + sqs u ∧ Int.tmod (-b + sqs u) (prd u) = 0 ∧ Int.tdiv (-b + sqs u) (prd u) = (a : Int) := by
    rintro a ⟨a1, a2, a3⟩
    have e : -b + sqs u = (a : Int) * prd u := by omega
    have hpos : 1 ≤ (a : Int) * prd u := by
      have := Int.mul_le_mul_of_nonneg_right (show (1 : Int) ≤ (a : Int) by omega) (show 0 ≤ prd u by omega)
      omega
    refine ⟨by omega, ?_, ?_⟩
    · rw [e]; exact Int.mul_tmod_left _ _
    · rw [e]; exact Int.mul_tdiv_cancel _ (by omega)
  by_cases s1 : 0 < -b + sqs u
  · rw [if_pos s1, if_neg (by omega)]
    by_cases m0 : Int.tmod (-b + sqs u) (prd u) = 0
    · rw [if_pos m0]
      obtain ⟨q, hq2⟩ : ∃ q, q = Int.tdiv (-b + sqs u) (prd u) := ⟨_, rfl⟩
      have e : q * prd u = -b + sqs u := by
        rw [hq2]
        exact Int.tdiv_mul_cancel (Int.dvd_of_tmod_eq_zero m0)
      have q0 : 1 ≤ q := by
        by_cases h1 : 1 ≤ q
        · exact h1
        · have h1 : q ≤ 0 := by omega
          have := Int.mul_nonpos_of_nonpos_of_nonneg h1 (show 0 ≤ prd u by omega)
          omega
      have q3 : q ≤ -b + sqs u := by
        have := Int.mul_le_mul_of_nonneg_left hp1 (show 0 ≤ q by omega)
        omega
      have w1 : wrap64 (Int.tdiv (-b + sqs u) (prd u)) = q := by rw [← hq2]; unfold wrap64; omega
      rw [w1]
      by_cases q1 : q ≤ 20
      · rw [if_pos q1, if_pos (by omega)]
        refine ⟨_, rfl, by rw [List.length_set]; exact hh, fun a ha => ?_⟩
        rw [List.getElem?_set]
        constructor
        · intro h1
          split at h1
          · rename_i h2
            refine .inr ⟨by omega, by omega, ?_⟩
            have : (a : Int) = q := by omega
            rw [this]
            omega
          · exact .inl h1
        · rintro (h1 | h1)
          · split
            · split
              · rfl
              · omega
            · exact h1
          · have := (key a h1).2.2
            rw [if_pos (by omega), if_pos (by omega)]
      · rw [if_neg q1]
        refine ⟨hs, rfl, hh, fun a ha => ⟨.inl, ?_⟩⟩
        rintro (h1 | h1)
        · exact h1
        · have := (key a h1).2.2
          omega
    · rw [if_neg m0]
      refine ⟨hs, rfl, hh, fun a ha => ⟨.inl, ?_⟩⟩
      rintro (h1 | h1)
      · exact h1
      · exact absurd (key a h1).2.1 m0
  · rw [if_neg s1]
    refine ⟨hs, rfl, hh, fun a ha => ⟨.inl, ?_⟩⟩
    rintro (h1 | h1)
    · exact h1
    · exact absurd (key a h1).1 s1
theorem fac_all {b : Int} (hb : -50 ≤ b ∧ b ≤ 50) : ∀ (L : List (List Int)) (hs : List Bool), (∀ u ∈ L, (∀ n ∈ u, 1 ≤ n ∧ n ≤ 40) ∧ u.length ≤ 4) → hs.length = 21 → ∃ hs', foldO (facStep b) hs L = some hs' ∧ hs'.length = 21 ∧ ∀ a : Nat, a ≤ 20 → (hs'[a]? = some true ↔ hs[a]? = some true ∨ ∃ u ∈ L, hasF b u a)
  | [], hs, _, hh => ⟨hs, rfl, hh, fun a _ => by simp⟩
  | u :: L, hs, h, hh => by
    obtain ⟨h1, e1, l1, k1⟩ := fac_one hb u (h u List.mem_cons_self).1 (h u List.mem_cons_self).2 hs hh
    obtain ⟨h2, e2, l2, k2⟩ := fac_all hb L h1 (fun v hv => h v (List.mem_cons_of_mem _ hv)) l1
    refine ⟨h2, by rw [foldO, e1]; exact e2, l2, fun a ha => ?_⟩
    rw [k2 a ha, k1 a ha]
    simp only [List.mem_cons, exists_eq_or_imp]
    exact or_assoc
/-- What FactorsFor tells. -/
def triedF (a0 a1 a2 : Int) : Bool := inB 3 4 a0 && inB (-50) 50 a1 && inB 1 40 a2
theorem gv_fac {a b : Int} (ha : 1 ≤ a ∧ a ≤ 20) (hb : -50 ≤ b ∧ b ≤ 50) : huGv a b = true := by
  simp only [huGv, inB_iff, Bool.and_eq_true]
  exact ⟨ha, hb⟩
theorem has_all {p : Nat} (hp : 3 ≤ p ∧ p ≤ 4) {b m : Int} (hm : m ≤ 40) (a : Nat) (ha : 1 ≤ a ∧ a ≤ 20) : (∃ u ∈ allF p [] m, hasF b u a) ↔ 0 < (allS (a : Int) b p [] m).length := by
  rw [allS_filter, List.length_pos_iff_exists_mem]
  have hd : Down [] m := ⟨by simp, rfl, by simp⟩
  constructor
  · rintro ⟨u, hu, h1, h2, h3⟩
    obtain ⟨d1, d2, d3⟩ := allF_down p [] m hm hd u hu
    refine ⟨u, List.mem_filter.2 ⟨hu, ?_⟩⟩
    simp only [List.length_nil, Nat.zero_add] at d3
    exact huIs_iff.2 ⟨by omega, fun x hx => by have := d1 x hx; omega, d2, h3⟩
  · rintro ⟨u, hu⟩
    obtain ⟨h1, h2⟩ := List.mem_filter.1 hu
    exact ⟨u, h1, ha.1, ha.2, (huIs_iff.1 h2).2.2.2⟩
theorem fac_both (a0 a1 a2 : Int) : ∃ r : List Int × Bool, Ev (fun k => spec_FactorsFor.f k a0 a1 a2) r ∧ impl_FactorsFor.f a0 a1 a2 = some r ∧ r.1.length ≤ 21 ∧ (triedF a0 a1 a2 = true → ∀ f ∈ r.1, ∃ u, huIs u f a1 = true ∧ u.length = a0.toNat ∧ 1 ≤ f ∧ f ≤ 20) ∧ (triedF a0 a1 a2 = false → r.1 = []) := by
  have e1 : spec_huTask.f a0 1 a1 a2 = some (triedF a0 a1 a2) := by
    unfold spec_huTask.f triedF
    rw [l1In_inB, huGiven_is, l1In_inB]
    have : huGv 1 a1 = inB (-50) 50 a1 := by
      unfold huGv
      rw [inB_iff.2 (show (1 : Int) ≤ 1 ∧ (1 : Int) ≤ 20 by omega), Bool.true_and]
    rw [this]
    cases inB 3 4 a0 <;> cases inB (-50) 50 a1 <;> rfl
  have e2 : impl_areTried.f a0 a1 a2 = some (triedF a0 a1 a2) := by
    unfold impl_areTried.f triedF
    rw [within_inB, within_inB, within_inB]
    cases inB 3 4 a0 <;> cases inB (-50) 50 a1 <;> rfl
  unfold spec_FactorsFor.f impl_FactorsFor.f
  cases ht : triedF a0 a1 a2 with
  | false =>
    refine ⟨([], false), Ev.bind0 e1 ?_, ?_, by simp, by simp, by simp⟩
    · rw [ht]
      simp only [Bool.false_eq_true, if_false]
      exact Ev.is rfl
    · rw [e2, ht]
      rfl
  | true =>
    have ht2 := ht
    unfold triedF at ht2
    simp only [Bool.and_eq_true, inB_iff] at ht2
    obtain ⟨⟨⟨t1, t2⟩, hb⟩, hm⟩ := ht2
    obtain ⟨p, rfl⟩ : ∃ p : Nat, a0 = (p : Int) := ⟨a0.toNat, by omega⟩
    have hp : 3 ≤ p ∧ p ≤ 4 := by omega
    have hd : Down [] a2 := ⟨by simp, rfl, by simp⟩
    obtain ⟨hs, f1, f2, f3⟩ := fac_all hb (allF p [] a2) (List.replicate 21 false) (fun u hu => by
      obtain ⟨d1, d2, d3⟩ := allF_down p [] a2 hm.2 hd u hu
      simp only [List.length_nil, Nat.zero_add] at d3
      exact ⟨d1, by omega⟩) (by simp)
    have f4 : ∀ a : Nat, 1 ≤ a → a ≤ 20 → (hs[a]? = some true ↔ 0 < (allS (a : Int) a1 p [] a2).length) := by
      intro a ha1 ha2
      rw [f3 a ha2, ← has_all hp hm.2 a ⟨ha1, ha2⟩]
      constructor
      · rintro (h | h)
        · rw [List.getElem?_replicate] at h
          split at h <;> simp at h
        · exact h
      · exact .inr
    have f0 : hs[0]? ≠ some true := by
      rw [Ne, f3 0 (by omega)]
      rintro (h | ⟨u, _, h, _⟩)
      · simp [List.getElem?_replicate] at h
      · omega
    have hloop : ∀ (d i : Nat) (o : List Int), i + d = 21 → 1 ≤ i → o.length ≤ i → Ev (fun k => spec_FactorsFor.l0 k (p : Int) a1 a2 o (i : Int)) (o ++ foundF (hs.drop i) (i : Int), true) := by
      intro d
      induction d with
      | zero =>
        intro i o hi h1 ho
        have c1 : ¬ (i : Int) ≤ 20 := by omega
        rw [List.drop_of_length_le (by omega), foundF, List.append_nil]
        exact Ev.step (f := fun _ => some (o, true)) (fun k => by simp only [spec_FactorsFor.l0, c1, if_false]) (Ev.is rfl)
      | succ d ih =>
        intro i o hi h1 ho
        have c1 : (i : Int) ≤ 20 := by omega
        have hil : i < hs.length := by omega
        have e := huAll_ev (a := (i : Int)) (b := a1) (gv_fac (by omega) hb) p [] a2 hm.2 (by simp; omega) hp.2
        have w1 : wrap64 ((i : Int) + 1) = ((i + 1 : Nat) : Int) := by unfold wrap64; omega
        have c2 : o.length < 17592186044416 := by omega
        have hk := f4 i h1 (by omega)
        rw [List.getElem?_eq_getElem hil] at hk
        rw [List.drop_eq_getElem_cons hil, foundF]
        refine Ev.step (fun k => by simp only [spec_FactorsFor.l0, c1, if_true, w1]; rfl) (Ev.bind e ?_)
        by_cases c3 : ((allS (i : Int) a1 p [] a2).length : Int) > 0
        · have hb2 : hs[i] = true := Option.some.inj (hk.2 (by omega))
          simp only [c3, c2, if_true, hb2]
          have := ih (i + 1) (o ++ [(i : Int)]) (by omega) (by omega) (by rw [List.length_append, List.length_singleton]; omega)
          rw [List.append_assoc] at this
          exact this
        · have hb2 : hs[i] = false := by
            cases hv : hs[i] with
            | false => rfl
            | true => exact absurd (hk.1 (by rw [hv])) (by omega)
          simp only [c3, if_false, hb2, Bool.false_eq_true]
          exact ih (i + 1) o (by omega) (by omega) (by omega)
    have hl0 : 0 < hs.length := by omega
    have e0 : foundF hs 0 = foundF (hs.drop 1) ((1 : Nat) : Int) := by
      have h1 : hs = hs[0] :: hs.drop 1 := by
        have := List.drop_eq_getElem_cons hl0
        rwa [List.drop_zero] at this
      have h2 : hs[0] = false := by
        cases hv : hs[0] with
        | false => rfl
        | true => exact absurd (by rw [List.getElem?_eq_getElem hl0, hv]) f0
      rw [h1, foundF, h2]
      simp
    have flen : ∀ (l : List Bool) (i : Int), (foundF l i).length ≤ l.length := by
      intro l
      induction l with
      | nil => intro i; simp [foundF]
      | cons h l ih =>
        intro i
        rw [foundF]
        have := ih (i + 1)
        split <;> simp <;> omega
    have fmem : ∀ (l : List Bool) (i : Int) (f : Int), f ∈ foundF l i → ∃ j : Nat, f = i + j ∧ l[j]? = some true := by
      intro l
      induction l with
      | nil => intro i f hf; simp [foundF] at hf
      | cons h l ih =>
        intro i f hf
        rw [foundF] at hf
        split at hf
        · rename_i hh
          rcases List.mem_cons.1 hf with rfl | hf
          · exact ⟨0, by omega, by simp [hh]⟩
          · obtain ⟨j, h1, h2⟩ := ih (i + 1) f hf
            exact ⟨j + 1, by omega, by simpa using h2⟩
        · obtain ⟨j, h1, h2⟩ := ih (i + 1) f hf
          exact ⟨j + 1, by omega, by simpa using h2⟩
    refine ⟨(foundF hs 0, true), Ev.bind0 e1 ?_, ?_, by have := flen hs 0; simp only; omega, fun _ f hf => ?_, by simp⟩
    · rw [ht]
      simp only [if_true]
      rw [e0]
      exact hloop 20 1 [] (by omega) (by omega) (by simp)
    · rw [e2, ht]
      have c1 : 0 ≤ (p : Int) ∧ (p : Int) ≤ 900 ∧ a2 ≤ 1000000 := by omega
      simp only [Option.bind_some, if_true, c1, and_self, Int.toNat_natCast]
      rw [fallS_fold, f1]
      rfl
    · obtain ⟨j, rfl, hj⟩ := fmem hs 0 f hf
      have hjl : j < 21 := by
        have := (List.getElem?_eq_some_iff.1 hj).1
        omega
      have hj1 : 1 ≤ j := by
        rcases Nat.eq_zero_or_pos j with h | h
        · subst h; exact absurd hj f0
        · exact h
      have hpos := (f4 j hj1 (by omega)).1 hj
      obtain ⟨u, hu⟩ := List.length_pos_iff_exists_mem.1 hpos
      obtain ⟨h1, h2⟩ := allS_is _ _ _ _ _ u hu
      refine ⟨u, by rw [Int.zero_add]; exact h1, by simpa using h2, by omega, by omega⟩
end Go.Proofs.Ytgpoljimomfbbaa.P
