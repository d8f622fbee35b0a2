/- Each solution has a way down along which the sum falls, to a fundamental one, and is made again from it by the word up. No condition. -/
import Derived.Test.YtgpoljimomfbbaaPackFnWaysOfHurwitz4
-- PFFnWaysOfHurwitz
namespace Go.Proofs.Ytgpoljimomfbbaa.P
open Go.RowKit Go.Proofs.YtgpoljimomfbbaaW.PrintWords Go.Proofs.YtgpoljimomfbbaaW.PrintLast
set_option linter.unusedVariables false
set_option linter.unusedSimpArgs false

/-! ### laws_FnWaysOfHurwitz: function 6 -/
mutual
def laws_FnWaysOfHurwitz.j0 : Nat → List Int → Int → Int → List (List Int) → Bool → List Int → List Int → Bool → Bool → Option (Bool)
 | 0, _, _, _, _, _, _, _, _, _ => none
 | k + 1, x5, x6, x7, x8, x11, x12, x14, x18, x114 => if x114 = true then (some false) else (if x11 = true then (if 0 < (x8.length : Int) then ((laws_vSame.f k (rd_L1 x8 0) x5).bind fun t673 => (if t673 = true then (if 0 ≤ (wrap64 ((x8.length : Int) - 1)) then (if (wrap64 ((x8.length : Int) - 1)) < (x8.length : Int) then ((laws_vSame.f k (rd_L1 x8 (wrap64 ((x8.length : Int) - 1))) x12).bind fun t675 => (if t675 = true then (if (x18 != ((x8.length : Int) == 1)) = true then (laws_FnWaysOfHurwitz.j1 k x5 x6 x7 x8 x12 x14 true) else (laws_FnWaysOfHurwitz.j1 k x5 x6 x7 x8 x12 x14 ((x14.length : Int) != (wrap64 ((x8.length : Int) - 1))))) else (laws_FnWaysOfHurwitz.j1 k x5 x6 x7 x8 x12 x14 true))) else (none)) else (none)) else (laws_FnWaysOfHurwitz.j1 k x5 x6 x7 x8 x12 x14 true))) else (none)) else (some true))
def laws_FnWaysOfHurwitz.j1 : Nat → List Int → Int → Int → List (List Int) → List Int → List Int → Bool → Option (Bool)
 | 0, _, _, _, _, _, _, _ => none
 | k + 1, x5, x6, x7, x8, x12, x14, x148 => if x148 = true then (some false) else (laws_FnWaysOfHurwitz.l0 k x5 x6 x7 x8 x12 x14 x8 (x8.length : Int) 0)
def laws_FnWaysOfHurwitz.l0 : Nat → List Int → Int → Int → List (List Int) → List Int → List Int → List (List Int) → Int → Int → Option (Bool)
 | 0, _, _, _, _, _, _, _, _, _ => none
 | k + 1, x5, x6, x7, x8, x12, x14, x149, x150, x151 => if x151 < x150 then (if 0 ≤ x151 then (if x151 < (x149.length : Int) then ((impl_IsFundamental.f k (rd_L1 x149 x151) x6 x7).bind fun bt677 => (if bt677.2 = true then (if (bt677.1 != (x151 == (wrap64 ((x8.length : Int) - 1)))) = true then (some false) else ((laws_vSolves.f k (rd_L1 x149 x151) x6 x7).bind fun t679 => (if t679 = true then (if x151 > 0 then ((laws_vSum.f k (rd_L1 x149 x151)).bind fun t680 => (if 0 ≤ (wrap64 (x151 - 1)) then (if (wrap64 (x151 - 1)) < (x8.length : Int) then ((laws_vSum.f k (rd_L1 x8 (wrap64 (x151 - 1)))).bind fun t682 => (if t680 ≥ t682 then (some false) else (laws_FnWaysOfHurwitz.l0 k x5 x6 x7 x8 x12 x14 x149 x150 (wrap64 (x151 + 1))))) else (none)) else (none))) else (laws_FnWaysOfHurwitz.l0 k x5 x6 x7 x8 x12 x14 x149 x150 (wrap64 (x151 + 1)))) else (some false)))) else (some false))) else (none)) else (none)) else (if (x14.length : Int) > 40 then (some true) else ((impl_ClimbHurwitz.f k x12 x6 x7 x14).bind fun bt683 => (if bt683.2 = true then ((laws_vSame.f k bt683.1 x5).bind fun t687 => (some t687)) else (some false))))
end
def laws_FnWaysOfHurwitz.f (k : Nat) (l0 : List Int) (l1 : List Int) : Option (Bool) := (laws_big.f l0 l1).bind fun t641 => (if t641 = true then (some true) else ((spec_DrawWayDown.f k l0).bind fun bt642 => ((impl_WayDown.f k bt642.1 bt642.2.1 bt642.2.2).bind fun bt647 => ((spec_WayDown.f k bt642.1 bt642.2.1 bt642.2.2).bind fun bt651 => ((impl_FundamentalOf.f k bt642.1 bt642.2.1 bt642.2.2).bind fun bt655 => ((impl_WordUp.f k bt642.1 bt642.2.1 bt642.2.2).bind fun bt659 => ((spec_WordUp.f k bt642.1 bt642.2.1 bt642.2.2).bind fun bt663 => ((impl_IsFundamental.f k bt642.1 bt642.2.1 bt642.2.2).bind fun bt667 => (if (bt647.2 != bt651.2) = true then (laws_FnWaysOfHurwitz.j0 k bt642.1 bt642.2.1 bt642.2.2 bt647.1 bt651.2 bt655.1 bt659.1 bt667.1 true) else ((laws_vSameLists.f k bt647.1 bt651.1).bind fun t669 => (if t669 = true then (if (bt655.2 != bt647.2) = true then (laws_FnWaysOfHurwitz.j0 k bt642.1 bt642.2.1 bt642.2.2 bt647.1 bt651.2 bt655.1 bt659.1 bt667.1 true) else (if (bt659.2 != bt663.2) = true then (laws_FnWaysOfHurwitz.j0 k bt642.1 bt642.2.1 bt642.2.2 bt647.1 bt651.2 bt655.1 bt659.1 bt667.1 true) else ((laws_vSame.f k bt659.1 bt663.1).bind fun t670 => (if t670 = true then (if (bt667.2 != bt647.2) = true then (laws_FnWaysOfHurwitz.j0 k bt642.1 bt642.2.1 bt642.2.2 bt647.1 bt651.2 bt655.1 bt659.1 bt667.1 true) else ((laws_vSolves.f k bt642.1 bt642.2.1 bt642.2.2).bind fun t671 => (laws_FnWaysOfHurwitz.j0 k bt642.1 bt642.2.1 bt642.2.2 bt647.1 bt651.2 bt655.1 bt659.1 bt667.1 (bt647.2 != t671)))) else (laws_FnWaysOfHurwitz.j0 k bt642.1 bt642.2.1 bt642.2.2 bt647.1 bt651.2 bt655.1 bt659.1 bt667.1 true))))) else (laws_FnWaysOfHurwitz.j0 k bt642.1 bt642.2.1 bt642.2.2 bt647.1 bt651.2 bt655.1 bt659.1 bt667.1 true))))))))))))
theorem laws_FnWaysOfHurwitz.mono_l : ∀ k, (∀ y0 y1 y2 y3 y4 y5 y6 y7 y8, LeO (laws_FnWaysOfHurwitz.j0 k y0 y1 y2 y3 y4 y5 y6 y7 y8) (laws_FnWaysOfHurwitz.j0 (k + 1) y0 y1 y2 y3 y4 y5 y6 y7 y8)) ∧ (∀ y0 y1 y2 y3 y4 y5 y6, LeO (laws_FnWaysOfHurwitz.j1 k y0 y1 y2 y3 y4 y5 y6) (laws_FnWaysOfHurwitz.j1 (k + 1) y0 y1 y2 y3 y4 y5 y6)) ∧ (∀ y0 y1 y2 y3 y4 y5 y6 y7 y8, LeO (laws_FnWaysOfHurwitz.l0 k y0 y1 y2 y3 y4 y5 y6 y7 y8) (laws_FnWaysOfHurwitz.l0 (k + 1) y0 y1 y2 y3 y4 y5 y6 y7 y8))
 | 0 => ⟨fun _ _ _ _ _ _ _ _ _ r h => by simp [laws_FnWaysOfHurwitz.j0] at h, fun _ _ _ _ _ _ _ r h => by simp [laws_FnWaysOfHurwitz.j1] at h, fun _ _ _ _ _ _ _ _ _ r h => by simp [laws_FnWaysOfHurwitz.l0] at h⟩
 | k + 1 => by
  obtain ⟨ih0, ih1, ih2⟩ := laws_FnWaysOfHurwitz.mono_l k
  refine ⟨?_, ?_, ?_⟩
  ·intro y0 y1 y2 y3 y4 y5 y6 y7 y8
   unfold laws_FnWaysOfHurwitz.j0
   repeat' first
   | (with_reducible exact ih0 _ _ _ _ _ _ _ _ _)
   | (with_reducible exact ih1 _ _ _ _ _ _ _)
   | (with_reducible exact ih2 _ _ _ _ _ _ _ _ _)
   | (with_reducible exact impl_ClimbHurwitz.mono _ _ _ _ _)
   | (with_reducible exact impl_FundamentalOf.mono _ _ _ _)
   | (with_reducible exact impl_IsFundamental.mono _ _ _ _)
   | (with_reducible exact impl_WayDown.mono _ _ _ _)
   | (with_reducible exact impl_WordUp.mono _ _ _ _)
   | (with_reducible exact laws_vSame.mono _ _ _)
   | (with_reducible exact laws_vSameLists.mono _ _ _)
   | (with_reducible exact laws_vSolves.mono _ _ _ _)
   | (with_reducible exact laws_vSum.mono _ _)
   | (with_reducible exact spec_DrawWayDown.mono _ _)
   | (with_reducible exact spec_WayDown.mono _ _ _ _)
   | (with_reducible exact spec_WordUp.mono _ _ _ _)
   | (with_reducible exact LeO.refl _)
   | (with_reducible exact LeO.none _)
   | (with_reducible refine LeO.ite ?_ ?_)
   | (with_reducible refine LeO.bind ?_ (fun _ => ?_))
   | exact ih0 _ _ _ _ _ _ _ _ _
   | exact ih1 _ _ _ _ _ _ _
   | exact ih2 _ _ _ _ _ _ _ _ _
   | exact impl_ClimbHurwitz.mono _ _ _ _ _
   | exact impl_FundamentalOf.mono _ _ _ _
   | exact impl_IsFundamental.mono _ _ _ _
   | exact impl_WayDown.mono _ _ _ _
   | exact impl_WordUp.mono _ _ _ _
   | exact laws_vSame.mono _ _ _
   | exact laws_vSameLists.mono _ _ _
   | exact laws_vSolves.mono _ _ _ _
   | exact laws_vSum.mono _ _
   | exact spec_DrawWayDown.mono _ _
   | exact spec_WayDown.mono _ _ _ _
   | exact spec_WordUp.mono _ _ _ _
   | exact LeO.none _
   | refine LeO.ite ?_ ?_
   | refine LeO.bind ?_ (fun _ => ?_)
  ·intro y0 y1 y2 y3 y4 y5 y6
   unfold laws_FnWaysOfHurwitz.j1
   repeat' first
   | (with_reducible exact ih0 _ _ _ _ _ _ _ _ _)
   | (with_reducible exact ih1 _ _ _ _ _ _ _)
   | (with_reducible exact ih2 _ _ _ _ _ _ _ _ _)
   | (with_reducible exact impl_ClimbHurwitz.mono _ _ _ _ _)
   | (with_reducible exact impl_FundamentalOf.mono _ _ _ _)
   | (with_reducible exact impl_IsFundamental.mono _ _ _ _)
   | (with_reducible exact impl_WayDown.mono _ _ _ _)
   | (with_reducible exact impl_WordUp.mono _ _ _ _)
   | (with_reducible exact laws_vSame.mono _ _ _)
   | (with_reducible exact laws_vSameLists.mono _ _ _)
   | (with_reducible exact laws_vSolves.mono _ _ _ _)
   | (with_reducible exact laws_vSum.mono _ _)
   | (with_reducible exact spec_DrawWayDown.mono _ _)
   | (with_reducible exact spec_WayDown.mono _ _ _ _)
   | (with_reducible exact spec_WordUp.mono _ _ _ _)
   | (with_reducible exact LeO.refl _)
   | (with_reducible exact LeO.none _)
   | (with_reducible refine LeO.ite ?_ ?_)
   | (with_reducible refine LeO.bind ?_ (fun _ => ?_))
   | exact ih0 _ _ _ _ _ _ _ _ _
   | exact ih1 _ _ _ _ _ _ _
   | exact ih2 _ _ _ _ _ _ _ _ _
   | exact impl_ClimbHurwitz.mono _ _ _ _ _
   | exact impl_FundamentalOf.mono _ _ _ _
   | exact impl_IsFundamental.mono _ _ _ _
   | exact impl_WayDown.mono _ _ _ _
   | exact impl_WordUp.mono _ _ _ _
   | exact laws_vSame.mono _ _ _
   | exact laws_vSameLists.mono _ _ _
   | exact laws_vSolves.mono _ _ _ _
   | exact laws_vSum.mono _ _
   | exact spec_DrawWayDown.mono _ _
   | exact spec_WayDown.mono _ _ _ _
   | exact spec_WordUp.mono _ _ _ _
   | exact LeO.none _
   | refine LeO.ite ?_ ?_
   | refine LeO.bind ?_ (fun _ => ?_)
  ·intro y0 y1 y2 y3 y4 y5 y6 y7 y8
   unfold laws_FnWaysOfHurwitz.l0
   repeat' first
   | (with_reducible exact ih0 _ _ _ _ _ _ _ _ _)
   | (with_reducible exact ih1 _ _ _ _ _ _ _)
   | (with_reducible exact ih2 _ _ _ _ _ _ _ _ _)
   | (with_reducible exact impl_ClimbHurwitz.mono _ _ _ _ _)
   | (with_reducible exact impl_FundamentalOf.mono _ _ _ _)
   | (with_reducible exact impl_IsFundamental.mono _ _ _ _)
   | (with_reducible exact impl_WayDown.mono _ _ _ _)
   | (with_reducible exact impl_WordUp.mono _ _ _ _)
   | (with_reducible exact laws_vSame.mono _ _ _)
   | (with_reducible exact laws_vSameLists.mono _ _ _)
   | (with_reducible exact laws_vSolves.mono _ _ _ _)
   | (with_reducible exact laws_vSum.mono _ _)
   | (with_reducible exact spec_DrawWayDown.mono _ _)
   | (with_reducible exact spec_WayDown.mono _ _ _ _)
   | (with_reducible exact spec_WordUp.mono _ _ _ _)
   | (with_reducible exact LeO.refl _)
   | (with_reducible exact LeO.none _)
   | (with_reducible refine LeO.ite ?_ ?_)
   | (with_reducible refine LeO.bind ?_ (fun _ => ?_))
   | exact ih0 _ _ _ _ _ _ _ _ _
   | exact ih1 _ _ _ _ _ _ _
   | exact ih2 _ _ _ _ _ _ _ _ _
   | exact impl_ClimbHurwitz.mono _ _ _ _ _
   | exact impl_FundamentalOf.mono _ _ _ _
   | exact impl_IsFundamental.mono _ _ _ _
   | exact impl_WayDown.mono _ _ _ _
   | exact impl_WordUp.mono _ _ _ _
   | exact laws_vSame.mono _ _ _
   | exact laws_vSameLists.mono _ _ _
   | exact laws_vSolves.mono _ _ _ _
   | exact laws_vSum.mono _ _
   | exact spec_DrawWayDown.mono _ _
   | exact spec_WayDown.mono _ _ _ _
   | exact spec_WordUp.mono _ _ _ _
   | exact LeO.none _
   | refine LeO.ite ?_ ?_
   | refine LeO.bind ?_ (fun _ => ?_)
theorem laws_FnWaysOfHurwitz.mono : ∀ a0 a1 k, LeO (laws_FnWaysOfHurwitz.f k a0 a1) (laws_FnWaysOfHurwitz.f (k + 1) a0 a1) := by
 intro a0 a1 k
 obtain ⟨ih0, ih1, ih2⟩ := laws_FnWaysOfHurwitz.mono_l k
 unfold laws_FnWaysOfHurwitz.f
 repeat' first
   | (with_reducible exact ih0 _ _ _ _ _ _ _ _ _)
   | (with_reducible exact ih1 _ _ _ _ _ _ _)
   | (with_reducible exact ih2 _ _ _ _ _ _ _ _ _)
   | (with_reducible exact impl_ClimbHurwitz.mono _ _ _ _ _)
   | (with_reducible exact impl_FundamentalOf.mono _ _ _ _)
   | (with_reducible exact impl_IsFundamental.mono _ _ _ _)
   | (with_reducible exact impl_WayDown.mono _ _ _ _)
   | (with_reducible exact impl_WordUp.mono _ _ _ _)
   | (with_reducible exact laws_vSame.mono _ _ _)
   | (with_reducible exact laws_vSameLists.mono _ _ _)
   | (with_reducible exact laws_vSolves.mono _ _ _ _)
   | (with_reducible exact laws_vSum.mono _ _)
   | (with_reducible exact spec_DrawWayDown.mono _ _)
   | (with_reducible exact spec_WayDown.mono _ _ _ _)
   | (with_reducible exact spec_WordUp.mono _ _ _ _)
   | (with_reducible exact LeO.refl _)
   | (with_reducible exact LeO.none _)
   | (with_reducible refine LeO.ite ?_ ?_)
   | (with_reducible refine LeO.bind ?_ (fun _ => ?_))
   | exact ih0 _ _ _ _ _ _ _ _ _
   | exact ih1 _ _ _ _ _ _ _
   | exact ih2 _ _ _ _ _ _ _ _ _
   | exact impl_ClimbHurwitz.mono _ _ _ _ _
   | exact impl_FundamentalOf.mono _ _ _ _
   | exact impl_IsFundamental.mono _ _ _ _
   | exact impl_WayDown.mono _ _ _ _
   | exact impl_WordUp.mono _ _ _ _
   | exact laws_vSame.mono _ _ _
   | exact laws_vSameLists.mono _ _ _
   | exact laws_vSolves.mono _ _ _ _
   | exact laws_vSum.mono _ _
   | exact spec_DrawWayDown.mono _ _
   | exact spec_WayDown.mono _ _ _ _
   | exact spec_WordUp.mono _ _ _ _
   | exact LeO.none _
   | refine LeO.ite ?_ ?_
   | refine LeO.bind ?_ (fun _ => ?_)
def laws_FnWaysOfHurwitz.T20 : Bool × List (List Nat × List Nat) := (true, [([], []), ([0], [0]), ([1], [1]), ([2], [2]), ([2], [2]), ([2], [2]), ([5, 2], [2, 5]), ([6, 2], [2, 6]), ([4, 7, 2], [2, 4, 7]), ([3, 8, 2], [2, 3, 8]), ([2, 9], [2, 9]), ([10, 2], [10]), ([11], [11]), ([11], [11]), ([11], [11]), ([12, 13, 14, 11, 11], [11, 12, 13, 14]), ([15, 11], [11, 15]), ([11, 16], [11, 16]), ([17, 15], [17]), ([18], [18]), ([19, 18], [18, 19]), ([20, 18, 18], [18, 20]), ([21], [21]), ([22, 21, 21], [21, 22]), ([21], [21]), ([21], [21]), ([25, 21], [21, 25]), ([24, 26, 21], [21, 24, 26]), ([27, 21], [21, 27]), ([28, 23, 21], [21, 28]), ([23, 29, 21], [21, 23, 29]), ([21, 30, 18], [18, 21, 30]), ([18, 31], [18, 31])])
def laws_FnWaysOfHurwitz.B20 : List Nat := [0, 1, 3, 7, 7, 7, 39, 103, 247, 511, 1023, 2047, 4095, 4095, 4095, 32767, 65535, 131071, 262143, 524287, 1048575, 2097151, 4194303, 8388607, 4194303, 4194303, 37748735, 121634815, 255852543, 536870911, 1073741823, 2147483647, 4294967295]
theorem laws_FnWaysOfHurwitz.tab20 : rtab .any (opsOf Try.f6 20) = laws_FnWaysOfHurwitz.T20 := by kernel_rfl
theorem laws_FnWaysOfHurwitz.bits20 : waitsOk laws_FnWaysOfHurwitz.T20.2 laws_FnWaysOfHurwitz.B20 = true := by kernel_rfl
abbrev b0WOH : Array Bool := #[false,false,false,false,false,false,false,false,false,false,false,false,false,false,false,false,false,false,false,false,false,false,false,false,false,false,false,false,false,false,false,false,false]
abbrev b1WOH : Array Bool := #[true,false,false,false,false,false,false,false,false,false,false,false,false,false,false,false,false,false,false,false,false,false,false,false,false,false,false,false,false,false,false,false,false]
abbrev b2WOH : Array Bool := #[true,true,false,false,false,false,false,false,false,false,false,false,false,false,false,false,false,false,false,false,false,false,false,false,false,false,false,false,false,false,false,false,false]
abbrev b3WOH : Array Bool := #[true,true,true,false,false,false,false,false,false,false,false,false,false,false,false,false,false,false,false,false,false,false,false,false,false,false,false,false,false,false,false,false,false]
abbrev b4WOH : Array Bool := #[true,true,true,true,false,false,false,false,false,false,false,false,false,false,false,false,false,false,false,false,false,false,false,false,false,false,false,false,false,false,false,false,false]
abbrev b5WOH : Array Bool := #[true,true,true,true,true,false,false,false,false,false,false,false,false,false,false,false,false,false,false,false,false,false,false,false,false,false,false,false,false,false,false,false,false]
abbrev b6WOH : Array Bool := #[true,true,true,true,true,true,false,false,false,false,false,false,false,false,false,false,false,false,false,false,false,false,false,false,false,false,false,false,false,false,false,false,false]
abbrev b7WOH : Array Bool := #[true,true,true,true,true,true,true,false,false,false,false,false,false,false,false,false,false,false,false,false,false,false,false,false,false,false,false,false,false,false,false,false,false]
abbrev b8WOH : Array Bool := #[true,true,true,true,true,true,true,true,false,false,false,false,false,false,false,false,false,false,false,false,false,false,false,false,false,false,false,false,false,false,false,false,false]
abbrev b9WOH : Array Bool := #[true,true,true,true,true,true,true,true,true,false,false,false,false,false,false,false,false,false,false,false,false,false,false,false,false,false,false,false,false,false,false,false,false]
abbrev b10WOH : Array Bool := #[true,true,true,true,true,true,true,true,true,true,false,false,false,false,false,false,false,false,false,false,false,false,false,false,false,false,false,false,false,false,false,false,false]
abbrev b11WOH : Array Bool := #[true,true,true,true,true,true,true,true,true,true,true,false,false,false,false,false,false,false,false,false,false,false,false,false,false,false,false,false,false,false,false,false,false]
abbrev b12WOH : Array Bool := #[true,true,true,true,true,true,true,true,true,true,true,true,false,false,false,false,false,false,false,false,false,false,false,false,false,false,false,false,false,false,false,false,false]
abbrev b13WOH : Array Bool := #[true,true,true,true,true,true,true,true,true,true,true,true,true,false,false,false,false,false,false,false,false,false,false,false,false,false,false,false,false,false,false,false,false]
abbrev b14WOH : Array Bool := #[true,true,true,true,true,true,true,true,true,true,true,true,true,true,false,false,false,false,false,false,false,false,false,false,false,false,false,false,false,false,false,false,false]
abbrev b15WOH : Array Bool := #[true,true,true,true,true,true,true,true,true,true,true,true,true,true,true,false,false,false,false,false,false,false,false,false,false,false,false,false,false,false,false,false,false]
abbrev b16WOH : Array Bool := #[true,true,true,true,true,true,true,true,true,true,true,true,true,true,true,true,false,false,false,false,false,false,false,false,false,false,false,false,false,false,false,false,false]
abbrev b17WOH : Array Bool := #[true,true,true,true,true,true,true,true,true,true,true,true,true,true,true,true,true,false,false,false,false,false,false,false,false,false,false,false,false,false,false,false,false]
abbrev b18WOH : Array Bool := #[true,true,true,true,true,true,true,true,true,true,true,true,true,true,true,true,true,true,false,false,false,false,false,false,false,false,false,false,false,false,false,false,false]
abbrev b19WOH : Array Bool := #[true,true,true,true,true,true,true,true,true,true,true,true,true,true,true,true,true,true,true,false,false,false,false,false,false,false,false,false,false,false,false,false,false]
abbrev b20WOH : Array Bool := #[true,true,true,true,true,true,true,true,true,true,true,true,true,true,true,true,true,true,true,true,false,false,false,false,false,false,false,false,false,false,false,false,false]
abbrev b21WOH : Array Bool := #[true,true,true,true,true,true,true,true,true,true,true,true,true,true,true,true,true,true,true,true,true,false,false,false,false,false,false,false,false,false,false,false,false]
abbrev b22WOH : Array Bool := #[true,true,true,true,true,true,true,true,true,true,true,true,true,true,true,true,true,true,true,true,true,true,false,false,false,false,false,false,false,false,false,false,false]
abbrev b23WOH : Array Bool := #[true,true,true,true,true,true,true,true,true,true,true,true,true,true,true,true,true,true,true,true,true,true,true,false,false,false,false,false,false,false,false,false,false]
abbrev b24WOH : Array Bool := #[true,true,true,true,true,true,true,true,true,true,true,true,true,true,true,true,true,true,true,true,true,true,true,true,false,false,false,false,false,false,false,false,false]
abbrev b25WOH : Array Bool := #[true,true,true,true,true,true,true,true,true,true,true,true,true,true,true,true,true,true,true,true,true,true,true,true,true,false,false,false,false,false,false,false,false]
abbrev b26WOH : Array Bool := #[true,true,true,true,true,true,true,true,true,true,true,true,true,true,true,true,true,true,true,true,true,true,true,true,true,true,false,false,false,false,false,false,false]
abbrev b27WOH : Array Bool := #[true,true,true,true,true,true,true,true,true,true,true,true,true,true,true,true,true,true,true,true,true,true,true,true,true,true,true,false,false,false,false,false,false]
abbrev b28WOH : Array Bool := #[true,true,true,true,true,true,true,true,true,true,true,true,true,true,true,true,true,true,true,true,true,true,true,true,true,true,true,true,false,false,false,false,false]
abbrev b29WOH : Array Bool := #[true,true,true,true,true,true,true,true,true,true,true,true,true,true,true,true,true,true,true,true,true,true,true,true,true,true,true,true,true,false,false,false,false]
abbrev b30WOH : Array Bool := #[true,true,true,true,true,true,true,true,true,true,true,true,true,true,true,true,true,true,true,true,true,true,true,true,true,true,true,true,true,true,false,false,false]
abbrev b31WOH : Array Bool := #[true,true,true,true,true,true,true,true,true,true,true,true,true,true,true,true,true,true,true,true,true,true,true,true,true,true,true,true,true,true,true,false,false]
abbrev b32WOH : Array Bool := #[true,true,true,true,true,true,true,true,true,true,true,true,true,true,true,true,true,true,true,true,true,true,true,true,true,true,true,true,true,true,true,true,false]
abbrev b33WOH : Array Bool := #[true,true,true,true,true,true,true,true,true,true,true,true,true,true,true,true,true,true,true,true,true,true,true,true,true,true,true,true,true,true,true,true,true]
abbrev b34WOH : Array Bool := #[true,true,true,true,true,true,true,true,true,true,true,true,true,true,true,true,true,true,true,true,true,true,true,false,true,false,false,false,false,false,false,false,false]
abbrev b35WOH : Array Bool := #[true,true,true,true,true,true,true,true,true,true,true,true,true,true,true,true,true,true,true,true,true,true,true,false,true,true,false,false,false,false,false,false,false]
abbrev b36WOH : Array Bool := #[true,true,true,true,true,true,true,true,true,true,true,true,true,true,true,true,true,true,true,true,true,true,true,false,true,true,true,false,false,false,false,false,false]
abbrev b37WOH : Array Bool := #[true,true,true,true,true,true,true,true,true,true,true,true,true,true,true,true,true,true,true,true,true,true,true,false,true,true,true,true,false,false,false,false,false]
abbrev b38WOH : Array Bool := #[true,true,true,true,true,true,true,true,true,true,true,true,true,true,true,true,true,true,true,true,true,true,true,false,true,true,true,true,true,false,false,false,false]
set_option maxHeartbeats 8000000 in
set_option maxRecDepth 100000 in
theorem laws_FnWaysOfHurwitz.calls (k : Nat) (A0 : Option Addr) (c0 : Nat) (l0 : List Int) (A1 : Option Addr) (c1 : Nat) (l1 : List Int) (r : Bool) (w : World) (hr0 : Kd.C (Kd.int .u8) w A0 l0.length l0) (hc0 : l0.length ≤ c0) (hr1 : Kd.C (Kd.int .u8) w A1 l1.length l1) (hc1 : l1.length ≤ c1) (h : laws_FnWaysOfHurwitz.f k l0 l1 = some r) :
  Calls Try.prog 6 #[.slice A0 l0.length c0, .slice A1 l1.length c1] w fun e w' => e = .returned (.bool r) ∧ Below w.heap.size w w' := by
 have HR0 := Aside0.mk hr0
 have HC0 := Aside0.mk hc0
 clear hr0 hc0
 have HR1 := Aside0.mk hr1
 have HC1 := Aside0.mk hc1
 clear hr1 hc1
 have HB := Aside0.mk (Below.refl w.heap.size w)
 have H : ((laws_big.f l0 l1).bind fun t641 => (if t641 = true then (some true) else ((spec_DrawWayDown.f k l0).bind fun bt642 => ((impl_WayDown.f k bt642.1 bt642.2.1 bt642.2.2).bind fun bt647 => ((spec_WayDown.f k bt642.1 bt642.2.1 bt642.2.2).bind fun bt651 => ((impl_FundamentalOf.f k bt642.1 bt642.2.1 bt642.2.2).bind fun bt655 => ((impl_WordUp.f k bt642.1 bt642.2.1 bt642.2.2).bind fun bt659 => ((spec_WordUp.f k bt642.1 bt642.2.1 bt642.2.2).bind fun bt663 => ((impl_IsFundamental.f k bt642.1 bt642.2.1 bt642.2.2).bind fun bt667 => (if (bt647.2 != bt651.2) = true then (laws_FnWaysOfHurwitz.j0 k bt642.1 bt642.2.1 bt642.2.2 bt647.1 bt651.2 bt655.1 bt659.1 bt667.1 true) else ((laws_vSameLists.f k bt647.1 bt651.1).bind fun t669 => (if t669 = true then (if (bt655.2 != bt647.2) = true then (laws_FnWaysOfHurwitz.j0 k bt642.1 bt642.2.1 bt642.2.2 bt647.1 bt651.2 bt655.1 bt659.1 bt667.1 true) else (if (bt659.2 != bt663.2) = true then (laws_FnWaysOfHurwitz.j0 k bt642.1 bt642.2.1 bt642.2.2 bt647.1 bt651.2 bt655.1 bt659.1 bt667.1 true) else ((laws_vSame.f k bt659.1 bt663.1).bind fun t670 => (if t670 = true then (if (bt667.2 != bt647.2) = true then (laws_FnWaysOfHurwitz.j0 k bt642.1 bt642.2.1 bt642.2.2 bt647.1 bt651.2 bt655.1 bt659.1 bt667.1 true) else ((laws_vSolves.f k bt642.1 bt642.2.1 bt642.2.2).bind fun t671 => (laws_FnWaysOfHurwitz.j0 k bt642.1 bt642.2.1 bt642.2.2 bt647.1 bt651.2 bt655.1 bt659.1 bt667.1 (bt647.2 != t671)))) else (laws_FnWaysOfHurwitz.j0 k bt642.1 bt642.2.1 bt642.2.2 bt647.1 bt651.2 bt655.1 bt659.1 bt667.1 true))))) else (laws_FnWaysOfHurwitz.j0 k bt642.1 bt642.2.1 bt642.2.2 bt647.1 bt651.2 bt655.1 bt659.1 bt667.1 true))))))))))))) = some r := h
 clear h
 replace H := Option.bind_eq_some_iff.mp H
 obtain ⟨t641, A30, H⟩ := H
 replace H : (if t641 = true then (some true) else ((spec_DrawWayDown.f k l0).bind fun bt642 => ((impl_WayDown.f k bt642.1 bt642.2.1 bt642.2.2).bind fun bt647 => ((spec_WayDown.f k bt642.1 bt642.2.1 bt642.2.2).bind fun bt651 => ((impl_FundamentalOf.f k bt642.1 bt642.2.1 bt642.2.2).bind fun bt655 => ((impl_WordUp.f k bt642.1 bt642.2.1 bt642.2.2).bind fun bt659 => ((spec_WordUp.f k bt642.1 bt642.2.1 bt642.2.2).bind fun bt663 => ((impl_IsFundamental.f k bt642.1 bt642.2.1 bt642.2.2).bind fun bt667 => (if (bt647.2 != bt651.2) = true then (laws_FnWaysOfHurwitz.j0 k bt642.1 bt642.2.1 bt642.2.2 bt647.1 bt651.2 bt655.1 bt659.1 bt667.1 true) else ((laws_vSameLists.f k bt647.1 bt651.1).bind fun t669 => (if t669 = true then (if (bt655.2 != bt647.2) = true then (laws_FnWaysOfHurwitz.j0 k bt642.1 bt642.2.1 bt642.2.2 bt647.1 bt651.2 bt655.1 bt659.1 bt667.1 true) else (if (bt659.2 != bt663.2) = true then (laws_FnWaysOfHurwitz.j0 k bt642.1 bt642.2.1 bt642.2.2 bt647.1 bt651.2 bt655.1 bt659.1 bt667.1 true) else ((laws_vSame.f k bt659.1 bt663.1).bind fun t670 => (if t670 = true then (if (bt667.2 != bt647.2) = true then (laws_FnWaysOfHurwitz.j0 k bt642.1 bt642.2.1 bt642.2.2 bt647.1 bt651.2 bt655.1 bt659.1 bt667.1 true) else ((laws_vSolves.f k bt642.1 bt642.2.1 bt642.2.2).bind fun t671 => (laws_FnWaysOfHurwitz.j0 k bt642.1 bt642.2.1 bt642.2.2 bt647.1 bt651.2 bt655.1 bt659.1 bt667.1 (bt647.2 != t671)))) else (laws_FnWaysOfHurwitz.j0 k bt642.1 bt642.2.1 bt642.2.2 bt647.1 bt651.2 bt655.1 bt659.1 bt667.1 true))))) else (laws_FnWaysOfHurwitz.j0 k bt642.1 bt642.2.1 bt642.2.2 bt647.1 bt651.2 bt655.1 bt659.1 bt667.1 true)))))))))))) = some r := H
 have A3 := Aside0.mk A30
 clear A30
 by_cases c4 : t641 = true
 ·subst c4
  have H1 : (some true) = some r := by rw [if_pos rfl] at H; exact H
  clear H; have H := H1; clear H1
  obtain rfl := Option.some.inj H
  go_enter Try.func6, Try.ntmps6
  go_wp2_with (first | ((with_reducible refine gate_callee (f := 19) rfl ?_); refine goesL_ (some 28) rfl rfl Try.func19 (by kernel_rfl) rfl #[.slice A0 l0.length c0, .slice A1 l1.length c1] rfl (by (try simp only [List.map_toArray, List.map_cons, List.map_nil]); first | done | rfl) ?_; (with_reducible refine (laws_big.calls _ _ l0 _ _ l1 true _ ?side1 ?side2 ?side3 ?side4 A3.out).mono ?_); (case side1 => repeat (first | exact HR0.out | (with_reducible refine Kd.C_alloc ?_ _) | (with_reducible refine Kd.C_drewN ?_ _) | (with_reducible refine Kd.C_drew ?_))); (case side2 => exact HC0.out); (case side3 => repeat (first | exact HR1.out | (with_reducible refine Kd.C_alloc ?_ _) | (with_reducible refine Kd.C_drewN ?_ _) | (with_reducible refine Kd.C_drew ?_))); (case side4 => exact HC1.out); rintro e w' ⟨rfl, ⟨nd, rfl⟩⟩; refine ⟨_, rfl, ?_⟩))
  go_ret
  exact ⟨by first | rfl | (simp [errW_none, errW_some] <;> rfl) | (simp [*, errW_none, errW_some] <;> rfl), by repeat (first | (with_reducible first | exact HB.out | apply below_alloc | apply pw_below_drewN | apply below_drew1) | exact HB.out)⟩
 ·as_aux_lemma =>
  replace c4 := Bool.eq_false_iff.mpr c4
  subst c4
  have H1 : ((spec_DrawWayDown.f k l0).bind fun bt642 => ((impl_WayDown.f k bt642.1 bt642.2.1 bt642.2.2).bind fun bt647 => ((spec_WayDown.f k bt642.1 bt642.2.1 bt642.2.2).bind fun bt651 => ((impl_FundamentalOf.f k bt642.1 bt642.2.1 bt642.2.2).bind fun bt655 => ((impl_WordUp.f k bt642.1 bt642.2.1 bt642.2.2).bind fun bt659 => ((spec_WordUp.f k bt642.1 bt642.2.1 bt642.2.2).bind fun bt663 => ((impl_IsFundamental.f k bt642.1 bt642.2.1 bt642.2.2).bind fun bt667 => (if (bt647.2 != bt651.2) = true then (laws_FnWaysOfHurwitz.j0 k bt642.1 bt642.2.1 bt642.2.2 bt647.1 bt651.2 bt655.1 bt659.1 bt667.1 true) else ((laws_vSameLists.f k bt647.1 bt651.1).bind fun t669 => (if t669 = true then (if (bt655.2 != bt647.2) = true then (laws_FnWaysOfHurwitz.j0 k bt642.1 bt642.2.1 bt642.2.2 bt647.1 bt651.2 bt655.1 bt659.1 bt667.1 true) else (if (bt659.2 != bt663.2) = true then (laws_FnWaysOfHurwitz.j0 k bt642.1 bt642.2.1 bt642.2.2 bt647.1 bt651.2 bt655.1 bt659.1 bt667.1 true) else ((laws_vSame.f k bt659.1 bt663.1).bind fun t670 => (if t670 = true then (if (bt667.2 != bt647.2) = true then (laws_FnWaysOfHurwitz.j0 k bt642.1 bt642.2.1 bt642.2.2 bt647.1 bt651.2 bt655.1 bt659.1 bt667.1 true) else ((laws_vSolves.f k bt642.1 bt642.2.1 bt642.2.2).bind fun t671 => (laws_FnWaysOfHurwitz.j0 k bt642.1 bt642.2.1 bt642.2.2 bt647.1 bt651.2 bt655.1 bt659.1 bt667.1 (bt647.2 != t671)))) else (laws_FnWaysOfHurwitz.j0 k bt642.1 bt642.2.1 bt642.2.2 bt647.1 bt651.2 bt655.1 bt659.1 bt667.1 true))))) else (laws_FnWaysOfHurwitz.j0 k bt642.1 bt642.2.1 bt642.2.2 bt647.1 bt651.2 bt655.1 bt659.1 bt667.1 true))))))))))) = some r := by rw [if_neg (show ¬ (false = true) by decide)] at H; exact H
  clear H; have H := H1; clear H1
  replace H := Option.bind_eq_some_iff.mp H
  obtain ⟨⟨t642, t643, t644⟩, A50, H⟩ := H
  replace H : ((impl_WayDown.f k t642 t643 t644).bind fun bt647 => ((spec_WayDown.f k t642 t643 t644).bind fun bt651 => ((impl_FundamentalOf.f k t642 t643 t644).bind fun bt655 => ((impl_WordUp.f k t642 t643 t644).bind fun bt659 => ((spec_WordUp.f k t642 t643 t644).bind fun bt663 => ((impl_IsFundamental.f k t642 t643 t644).bind fun bt667 => (if (bt647.2 != bt651.2) = true then (laws_FnWaysOfHurwitz.j0 k t642 t643 t644 bt647.1 bt651.2 bt655.1 bt659.1 bt667.1 true) else ((laws_vSameLists.f k bt647.1 bt651.1).bind fun t669 => (if t669 = true then (if (bt655.2 != bt647.2) = true then (laws_FnWaysOfHurwitz.j0 k t642 t643 t644 bt647.1 bt651.2 bt655.1 bt659.1 bt667.1 true) else (if (bt659.2 != bt663.2) = true then (laws_FnWaysOfHurwitz.j0 k t642 t643 t644 bt647.1 bt651.2 bt655.1 bt659.1 bt667.1 true) else ((laws_vSame.f k bt659.1 bt663.1).bind fun t670 => (if t670 = true then (if (bt667.2 != bt647.2) = true then (laws_FnWaysOfHurwitz.j0 k t642 t643 t644 bt647.1 bt651.2 bt655.1 bt659.1 bt667.1 true) else ((laws_vSolves.f k t642 t643 t644).bind fun t671 => (laws_FnWaysOfHurwitz.j0 k t642 t643 t644 bt647.1 bt651.2 bt655.1 bt659.1 bt667.1 (bt647.2 != t671)))) else (laws_FnWaysOfHurwitz.j0 k t642 t643 t644 bt647.1 bt651.2 bt655.1 bt659.1 bt667.1 true))))) else (laws_FnWaysOfHurwitz.j0 k t642 t643 t644 bt647.1 bt651.2 bt655.1 bt659.1 bt667.1 true)))))))))) = some r := H
  have A5 := Aside0.mk A50
  clear A50
  replace H := Option.bind_eq_some_iff.mp H
  obtain ⟨⟨t647, t648⟩, A60, H⟩ := H
  replace H : ((spec_WayDown.f k t642 t643 t644).bind fun bt651 => ((impl_FundamentalOf.f k t642 t643 t644).bind fun bt655 => ((impl_WordUp.f k t642 t643 t644).bind fun bt659 => ((spec_WordUp.f k t642 t643 t644).bind fun bt663 => ((impl_IsFundamental.f k t642 t643 t644).bind fun bt667 => (if (t648 != bt651.2) = true then (laws_FnWaysOfHurwitz.j0 k t642 t643 t644 t647 bt651.2 bt655.1 bt659.1 bt667.1 true) else ((laws_vSameLists.f k t647 bt651.1).bind fun t669 => (if t669 = true then (if (bt655.2 != t648) = true then (laws_FnWaysOfHurwitz.j0 k t642 t643 t644 t647 bt651.2 bt655.1 bt659.1 bt667.1 true) else (if (bt659.2 != bt663.2) = true then (laws_FnWaysOfHurwitz.j0 k t642 t643 t644 t647 bt651.2 bt655.1 bt659.1 bt667.1 true) else ((laws_vSame.f k bt659.1 bt663.1).bind fun t670 => (if t670 = true then (if (bt667.2 != t648) = true then (laws_FnWaysOfHurwitz.j0 k t642 t643 t644 t647 bt651.2 bt655.1 bt659.1 bt667.1 true) else ((laws_vSolves.f k t642 t643 t644).bind fun t671 => (laws_FnWaysOfHurwitz.j0 k t642 t643 t644 t647 bt651.2 bt655.1 bt659.1 bt667.1 (t648 != t671)))) else (laws_FnWaysOfHurwitz.j0 k t642 t643 t644 t647 bt651.2 bt655.1 bt659.1 bt667.1 true))))) else (laws_FnWaysOfHurwitz.j0 k t642 t643 t644 t647 bt651.2 bt655.1 bt659.1 bt667.1 true))))))))) = some r := H
  have A6 := Aside0.mk A60
  clear A60
  replace H := Option.bind_eq_some_iff.mp H
  obtain ⟨⟨t651, t652⟩, A70, H⟩ := H
  replace H : ((impl_FundamentalOf.f k t642 t643 t644).bind fun bt655 => ((impl_WordUp.f k t642 t643 t644).bind fun bt659 => ((spec_WordUp.f k t642 t643 t644).bind fun bt663 => ((impl_IsFundamental.f k t642 t643 t644).bind fun bt667 => (if (t648 != t652) = true then (laws_FnWaysOfHurwitz.j0 k t642 t643 t644 t647 t652 bt655.1 bt659.1 bt667.1 true) else ((laws_vSameLists.f k t647 t651).bind fun t669 => (if t669 = true then (if (bt655.2 != t648) = true then (laws_FnWaysOfHurwitz.j0 k t642 t643 t644 t647 t652 bt655.1 bt659.1 bt667.1 true) else (if (bt659.2 != bt663.2) = true then (laws_FnWaysOfHurwitz.j0 k t642 t643 t644 t647 t652 bt655.1 bt659.1 bt667.1 true) else ((laws_vSame.f k bt659.1 bt663.1).bind fun t670 => (if t670 = true then (if (bt667.2 != t648) = true then (laws_FnWaysOfHurwitz.j0 k t642 t643 t644 t647 t652 bt655.1 bt659.1 bt667.1 true) else ((laws_vSolves.f k t642 t643 t644).bind fun t671 => (laws_FnWaysOfHurwitz.j0 k t642 t643 t644 t647 t652 bt655.1 bt659.1 bt667.1 (t648 != t671)))) else (laws_FnWaysOfHurwitz.j0 k t642 t643 t644 t647 t652 bt655.1 bt659.1 bt667.1 true))))) else (laws_FnWaysOfHurwitz.j0 k t642 t643 t644 t647 t652 bt655.1 bt659.1 bt667.1 true)))))))) = some r := H
  have A7 := Aside0.mk A70
  clear A70
  replace H := Option.bind_eq_some_iff.mp H
  obtain ⟨⟨t655, t656⟩, A80, H⟩ := H
  replace H : ((impl_WordUp.f k t642 t643 t644).bind fun bt659 => ((spec_WordUp.f k t642 t643 t644).bind fun bt663 => ((impl_IsFundamental.f k t642 t643 t644).bind fun bt667 => (if (t648 != t652) = true then (laws_FnWaysOfHurwitz.j0 k t642 t643 t644 t647 t652 t655 bt659.1 bt667.1 true) else ((laws_vSameLists.f k t647 t651).bind fun t669 => (if t669 = true then (if (t656 != t648) = true then (laws_FnWaysOfHurwitz.j0 k t642 t643 t644 t647 t652 t655 bt659.1 bt667.1 true) else (if (bt659.2 != bt663.2) = true then (laws_FnWaysOfHurwitz.j0 k t642 t643 t644 t647 t652 t655 bt659.1 bt667.1 true) else ((laws_vSame.f k bt659.1 bt663.1).bind fun t670 => (if t670 = true then (if (bt667.2 != t648) = true then (laws_FnWaysOfHurwitz.j0 k t642 t643 t644 t647 t652 t655 bt659.1 bt667.1 true) else ((laws_vSolves.f k t642 t643 t644).bind fun t671 => (laws_FnWaysOfHurwitz.j0 k t642 t643 t644 t647 t652 t655 bt659.1 bt667.1 (t648 != t671)))) else (laws_FnWaysOfHurwitz.j0 k t642 t643 t644 t647 t652 t655 bt659.1 bt667.1 true))))) else (laws_FnWaysOfHurwitz.j0 k t642 t643 t644 t647 t652 t655 bt659.1 bt667.1 true))))))) = some r := H
  have A8 := Aside0.mk A80
  clear A80
  replace H := Option.bind_eq_some_iff.mp H
  obtain ⟨⟨t659, t660⟩, A90, H⟩ := H
  replace H : ((spec_WordUp.f k t642 t643 t644).bind fun bt663 => ((impl_IsFundamental.f k t642 t643 t644).bind fun bt667 => (if (t648 != t652) = true then (laws_FnWaysOfHurwitz.j0 k t642 t643 t644 t647 t652 t655 t659 bt667.1 true) else ((laws_vSameLists.f k t647 t651).bind fun t669 => (if t669 = true then (if (t656 != t648) = true then (laws_FnWaysOfHurwitz.j0 k t642 t643 t644 t647 t652 t655 t659 bt667.1 true) else (if (t660 != bt663.2) = true then (laws_FnWaysOfHurwitz.j0 k t642 t643 t644 t647 t652 t655 t659 bt667.1 true) else ((laws_vSame.f k t659 bt663.1).bind fun t670 => (if t670 = true then (if (bt667.2 != t648) = true then (laws_FnWaysOfHurwitz.j0 k t642 t643 t644 t647 t652 t655 t659 bt667.1 true) else ((laws_vSolves.f k t642 t643 t644).bind fun t671 => (laws_FnWaysOfHurwitz.j0 k t642 t643 t644 t647 t652 t655 t659 bt667.1 (t648 != t671)))) else (laws_FnWaysOfHurwitz.j0 k t642 t643 t644 t647 t652 t655 t659 bt667.1 true))))) else (laws_FnWaysOfHurwitz.j0 k t642 t643 t644 t647 t652 t655 t659 bt667.1 true)))))) = some r := H
  have A9 := Aside0.mk A90
  clear A90
  replace H := Option.bind_eq_some_iff.mp H
  obtain ⟨⟨t663, t664⟩, A100, H⟩ := H
  replace H : ((impl_IsFundamental.f k t642 t643 t644).bind fun bt667 => (if (t648 != t652) = true then (laws_FnWaysOfHurwitz.j0 k t642 t643 t644 t647 t652 t655 t659 bt667.1 true) else ((laws_vSameLists.f k t647 t651).bind fun t669 => (if t669 = true then (if (t656 != t648) = true then (laws_FnWaysOfHurwitz.j0 k t642 t643 t644 t647 t652 t655 t659 bt667.1 true) else (if (t660 != t664) = true then (laws_FnWaysOfHurwitz.j0 k t642 t643 t644 t647 t652 t655 t659 bt667.1 true) else ((laws_vSame.f k t659 t663).bind fun t670 => (if t670 = true then (if (bt667.2 != t648) = true then (laws_FnWaysOfHurwitz.j0 k t642 t643 t644 t647 t652 t655 t659 bt667.1 true) else ((laws_vSolves.f k t642 t643 t644).bind fun t671 => (laws_FnWaysOfHurwitz.j0 k t642 t643 t644 t647 t652 t655 t659 bt667.1 (t648 != t671)))) else (laws_FnWaysOfHurwitz.j0 k t642 t643 t644 t647 t652 t655 t659 bt667.1 true))))) else (laws_FnWaysOfHurwitz.j0 k t642 t643 t644 t647 t652 t655 t659 bt667.1 true))))) = some r := H
  have A10 := Aside0.mk A100
  clear A100
  replace H := Option.bind_eq_some_iff.mp H
  obtain ⟨⟨t667, t668⟩, A110, H⟩ := H
  replace H : (if (t648 != t652) = true then (laws_FnWaysOfHurwitz.j0 k t642 t643 t644 t647 t652 t655 t659 t667 true) else ((laws_vSameLists.f k t647 t651).bind fun t669 => (if t669 = true then (if (t656 != t648) = true then (laws_FnWaysOfHurwitz.j0 k t642 t643 t644 t647 t652 t655 t659 t667 true) else (if (t660 != t664) = true then (laws_FnWaysOfHurwitz.j0 k t642 t643 t644 t647 t652 t655 t659 t667 true) else ((laws_vSame.f k t659 t663).bind fun t670 => (if t670 = true then (if (t668 != t648) = true then (laws_FnWaysOfHurwitz.j0 k t642 t643 t644 t647 t652 t655 t659 t667 true) else ((laws_vSolves.f k t642 t643 t644).bind fun t671 => (laws_FnWaysOfHurwitz.j0 k t642 t643 t644 t647 t652 t655 t659 t667 (t648 != t671)))) else (laws_FnWaysOfHurwitz.j0 k t642 t643 t644 t647 t652 t655 t659 t667 true))))) else (laws_FnWaysOfHurwitz.j0 k t642 t643 t644 t647 t652 t655 t659 t667 true)))) = some r := H
  have A11 := Aside0.mk A110
  clear A110
  have HC12 := Aside0.mk H
  clear H
  go_enter Try.func6, Try.ntmps6
  go_upto_region 10 with (first | ((with_reducible refine gate_callee (f := 19) rfl ?_); refine goesL_ (some 28) rfl rfl Try.func19 (by kernel_rfl) rfl #[.slice A0 l0.length c0, .slice A1 l1.length c1] rfl (by (try simp only [List.map_toArray, List.map_cons, List.map_nil]); first | done | rfl) ?_; (with_reducible refine (laws_big.calls _ _ l0 _ _ l1 false _ ?side1 ?side2 ?side3 ?side4 A3.out).mono ?_); (case side1 => repeat (first | exact HR0.out | (with_reducible refine Kd.C_alloc ?_ _) | (with_reducible refine Kd.C_drewN ?_ _) | (with_reducible refine Kd.C_drew ?_))); (case side2 => exact HC0.out); (case side3 => repeat (first | exact HR1.out | (with_reducible refine Kd.C_alloc ?_ _) | (with_reducible refine Kd.C_drewN ?_ _) | (with_reducible refine Kd.C_drew ?_))); (case side4 => exact HC1.out); rintro e w' ⟨rfl, ⟨nd, rfl⟩⟩; refine ⟨_, rfl, ?_⟩) | ((with_reducible refine gate_callee (f := 33) rfl ?_); refine goesL_ (some 31) rfl rfl Try.func33 (by kernel_rfl) rfl #[.slice A0 l0.length c0] rfl (by (try simp only [List.map_toArray, List.map_cons, List.map_nil]); first | done | rfl) ?_; (with_reducible refine (spec_DrawWayDown.calls k _ _ l0 t642 t643 t644 _ ?side1 ?side2 A5.out).mono ?_); (case side1 => repeat (first | exact HR0.out | (with_reducible refine Kd.C_alloc ?_ _) | (with_reducible refine Kd.C_drewN ?_ _) | (with_reducible refine Kd.C_drew ?_))); (case side2 => exact HC0.out); rintro e w13 ⟨v645, rfl, ho0, hb⟩; refine ⟨_, rfl, ?_⟩; have n0_ := Aside0.mk (Kd.R_lower ho0 (below_size (by repeat (first | (with_reducible first | exact HB.out | apply below_alloc | apply pw_below_drewN | apply below_drew1) | exact HB.out)))); have n1_ := Aside0.mk (below_step (by repeat (first | (with_reducible first | exact HB.out | apply below_alloc | apply pw_below_drewN | apply below_drew1) | exact HB.out)) hb); clear HB; have HO646 := n0_; have HB := n1_; clear n0_ n1_; (try clear hb); (try clear hb2); (try clear hk); (try clear hi); (try clear ho0); obtain ⟨Ao14, co14, eo14⟩ := Kd.R_slice HO646.out; subst eo14) | ((with_reducible refine gate_callee (f := 34) rfl ?_); refine goesL_ (some 39) rfl rfl Try.func34 (by kernel_rfl) rfl #[.slice Ao14 t642.length co14, .int .i64 t643, .int .i64 t644] rfl (by (try simp only [List.map_toArray, List.map_cons, List.map_nil]); first | done | rfl) ?_; (with_reducible refine (impl_WayDown.calls k _ _ t642 t643 t644 t647 t648 _ ?side1 ?side2 A6.out).mono ?_); (case side1 => repeat (first | exact (Kd.R_reads' HO646.out).2.2 | (with_reducible refine Kd.C_alloc ?_ _) | (with_reducible refine Kd.C_drewN ?_ _) | (with_reducible refine Kd.C_drew ?_))); (case side2 => exact (Kd.R_reads' HO646.out).2.1); rintro e w15 ⟨v649, rfl, ho0, hb⟩; refine ⟨_, rfl, ?_⟩; have n0_ := Aside0.mk (Kd.R_below (by (with_reducible repeat (first | apply Kd.R_alloc | apply Kd.R_drewN | apply Kd.R_drew)); exact HO646.out) hb); have n1_ := Aside0.mk (Kd.S_lower (Kd.S_new' ho0 (Kd.R_lt (by (with_reducible repeat (first | apply Kd.R_alloc | apply Kd.R_drewN | apply Kd.R_drew)); exact HO646.out))) (below_size (by repeat (first | (with_reducible first | exact HB.out | apply below_alloc | apply pw_below_drewN | apply below_drew1) | exact HB.out)))); have n2_ := Aside0.mk (below_step (by repeat (first | (with_reducible first | exact HB.out | apply below_alloc | apply pw_below_drewN | apply below_drew1) | exact HB.out)) hb); clear HO646; clear HB; have HO646 := n0_; have HO650 := n1_; have HB := n2_; clear n0_ n1_ n2_; (try clear hb); (try clear hb2); (try clear hk); (try clear hi); (try clear ho0)) | ((with_reducible refine gate_callee (f := 35) rfl ?_); refine goesL_ (some 46) rfl rfl Try.func35 (by kernel_rfl) rfl #[.slice Ao14 t642.length co14, .int .i64 t643, .int .i64 t644] rfl (by (try simp only [List.map_toArray, List.map_cons, List.map_nil]); first | done | rfl) ?_; (with_reducible refine (spec_WayDown.calls k _ _ t642 t643 t644 t651 t652 _ ?side1 ?side2 A7.out).mono ?_); (case side1 => repeat (first | exact (Kd.R_reads' HO646.out).2.2 | (with_reducible refine Kd.C_alloc ?_ _) | (with_reducible refine Kd.C_drewN ?_ _) | (with_reducible refine Kd.C_drew ?_))); (case side2 => exact (Kd.R_reads' HO646.out).2.1); rintro e w16 ⟨v653, rfl, ho0, hb⟩; refine ⟨_, rfl, ?_⟩; have n0_ := Aside0.mk (Kd.R_below (by (with_reducible repeat (first | apply Kd.R_alloc | apply Kd.R_drewN | apply Kd.R_drew)); exact HO646.out) hb); have n1_ := Aside0.mk (Kd.S_elder' (by (with_reducible repeat (first | apply Kd.S_alloc | apply Kd.S_drewN | apply Kd.S_drew)); exact HO650.out) (Kd.S_base ho0) hb); have n2_ := Aside0.mk (Kd.S_lower (Kd.S_new' (Kd.S_new' ho0 (Kd.R_lt (by (with_reducible repeat (first | apply Kd.R_alloc | apply Kd.R_drewN | apply Kd.R_drew)); exact HO646.out))) (Kd.S_lt (by (with_reducible repeat (first | apply Kd.S_alloc | apply Kd.S_drewN | apply Kd.S_drew)); exact HO650.out))) (below_size (by repeat (first | (with_reducible first | exact HB.out | apply below_alloc | apply pw_below_drewN | apply below_drew1) | exact HB.out)))); have n3_ := Aside0.mk (below_step (by repeat (first | (with_reducible first | exact HB.out | apply below_alloc | apply pw_below_drewN | apply below_drew1) | exact HB.out)) hb); clear HO646; clear HO650; clear HB; have HO646 := n0_; have HO650 := n1_; have HO654 := n2_; have HB := n3_; clear n0_ n1_ n2_ n3_; (try clear hb); (try clear hb2); (try clear hk); (try clear hi); (try clear ho0)) | ((with_reducible refine gate_callee (f := 30) rfl ?_); refine goesL_ (some 53) rfl rfl Try.func30 (by kernel_rfl) rfl #[.slice Ao14 t642.length co14, .int .i64 t643, .int .i64 t644] rfl (by (try simp only [List.map_toArray, List.map_cons, List.map_nil]); first | done | rfl) ?_; (with_reducible refine (impl_FundamentalOf.calls k _ _ t642 t643 t644 t655 t656 _ ?side1 ?side2 A8.out).mono ?_); (case side1 => repeat (first | exact (Kd.R_reads' HO646.out).2.2 | (with_reducible refine Kd.C_alloc ?_ _) | (with_reducible refine Kd.C_drewN ?_ _) | (with_reducible refine Kd.C_drew ?_))); (case side2 => exact (Kd.R_reads' HO646.out).2.1); rintro e w17 ⟨v657, rfl, ho0, hb⟩; refine ⟨_, rfl, ?_⟩; have n0_ := Aside0.mk (Kd.R_elder' (by (with_reducible repeat (first | apply Kd.R_alloc | apply Kd.R_drewN | apply Kd.R_drew)); exact HO646.out) (Kd.R_base ho0) hb); have n1_ := Aside0.mk (Kd.S_elder' (by (with_reducible repeat (first | apply Kd.S_alloc | apply Kd.S_drewN | apply Kd.S_drew)); exact HO650.out) (Kd.R_base ho0) hb); have n2_ := Aside0.mk (Kd.S_elder' (by (with_reducible repeat (first | apply Kd.S_alloc | apply Kd.S_drewN | apply Kd.S_drew)); exact HO654.out) (Kd.R_base ho0) hb); have n3_ := Aside0.mk (Kd.R_lower (Kd.R_new' ho0 (Kd.R_lt (by (with_reducible repeat (first | apply Kd.R_alloc | apply Kd.R_drewN | apply Kd.R_drew)); exact HO646.out))) (below_size (by repeat (first | (with_reducible first | exact HB.out | apply below_alloc | apply pw_below_drewN | apply below_drew1) | exact HB.out)))); have n4_ := Aside0.mk (below_step (by repeat (first | (with_reducible first | exact HB.out | apply below_alloc | apply pw_below_drewN | apply below_drew1) | exact HB.out)) hb); clear HO646; clear HO650; clear HO654; clear HB; have HO646 := n0_; have HO650 := n1_; have HO654 := n2_; have HO658 := n3_; have HB := n4_; clear n0_ n1_ n2_ n3_ n4_; (try clear hb); (try clear hb2); (try clear hk); (try clear hi); (try clear ho0)) | ((with_reducible refine gate_callee (f := 36) rfl ?_); refine goesL_ (some 60) rfl rfl Try.func36 (by kernel_rfl) rfl #[.slice Ao14 t642.length co14, .int .i64 t643, .int .i64 t644] rfl (by (try simp only [List.map_toArray, List.map_cons, List.map_nil]); first | done | rfl) ?_; (with_reducible refine (impl_WordUp.calls k _ _ t642 t643 t644 t659 t660 _ ?side1 ?side2 A9.out).mono ?_); (case side1 => repeat (first | exact (Kd.R_reads' HO646.out).2.2 | (with_reducible refine Kd.C_alloc ?_ _) | (with_reducible refine Kd.C_drewN ?_ _) | (with_reducible refine Kd.C_drew ?_))); (case side2 => exact (Kd.R_reads' HO646.out).2.1); rintro e w18 ⟨v661, rfl, ho0, hb⟩; refine ⟨_, rfl, ?_⟩; have n0_ := Aside0.mk (Kd.R_elder' (by (with_reducible repeat (first | apply Kd.R_alloc | apply Kd.R_drewN | apply Kd.R_drew)); exact HO646.out) (Kd.R_base ho0) hb); have n1_ := Aside0.mk (Kd.S_elder' (by (with_reducible repeat (first | apply Kd.S_alloc | apply Kd.S_drewN | apply Kd.S_drew)); exact HO650.out) (Kd.R_base ho0) hb); have n2_ := Aside0.mk (Kd.S_elder' (by (with_reducible repeat (first | apply Kd.S_alloc | apply Kd.S_drewN | apply Kd.S_drew)); exact HO654.out) (Kd.R_base ho0) hb); have n3_ := Aside0.mk (Kd.R_elder' (by (with_reducible repeat (first | apply Kd.R_alloc | apply Kd.R_drewN | apply Kd.R_drew)); exact HO658.out) (Kd.R_base ho0) hb); have n4_ := Aside0.mk (Kd.R_lower (Kd.R_new' (Kd.R_new' ho0 (Kd.R_lt (by (with_reducible repeat (first | apply Kd.R_alloc | apply Kd.R_drewN | apply Kd.R_drew)); exact HO646.out))) (Kd.R_lt (by (with_reducible repeat (first | apply Kd.R_alloc | apply Kd.R_drewN | apply Kd.R_drew)); exact HO658.out))) (below_size (by repeat (first | (with_reducible first | exact HB.out | apply below_alloc | apply pw_below_drewN | apply below_drew1) | exact HB.out)))); have n5_ := Aside0.mk (below_step (by repeat (first | (with_reducible first | exact HB.out | apply below_alloc | apply pw_below_drewN | apply below_drew1) | exact HB.out)) hb); clear HO646; clear HO650; clear HO654; clear HO658; clear HB; have HO646 := n0_; have HO650 := n1_; have HO654 := n2_; have HO658 := n3_; have HO662 := n4_; have HB := n5_; clear n0_ n1_ n2_ n3_ n4_ n5_; (try clear hb); (try clear hb2); (try clear hk); (try clear hi); (try clear ho0)) | ((with_reducible refine gate_callee (f := 37) rfl ?_); refine goesL_ (some 67) rfl rfl Try.func37 (by kernel_rfl) rfl #[.slice Ao14 t642.length co14, .int .i64 t643, .int .i64 t644] rfl (by (try simp only [List.map_toArray, List.map_cons, List.map_nil]); first | done | rfl) ?_; (with_reducible refine (spec_WordUp.calls k _ _ t642 t643 t644 t663 t664 _ ?side1 ?side2 A10.out).mono ?_); (case side1 => repeat (first | exact (Kd.R_reads' HO646.out).2.2 | (with_reducible refine Kd.C_alloc ?_ _) | (with_reducible refine Kd.C_drewN ?_ _) | (with_reducible refine Kd.C_drew ?_))); (case side2 => exact (Kd.R_reads' HO646.out).2.1); rintro e w19 ⟨v665, rfl, ho0, hb⟩; refine ⟨_, rfl, ?_⟩; have n0_ := Aside0.mk (Kd.R_elder' (by (with_reducible repeat (first | apply Kd.R_alloc | apply Kd.R_drewN | apply Kd.R_drew)); exact HO646.out) (Kd.R_base ho0) hb); have n1_ := Aside0.mk (Kd.S_elder' (by (with_reducible repeat (first | apply Kd.S_alloc | apply Kd.S_drewN | apply Kd.S_drew)); exact HO650.out) (Kd.R_base ho0) hb); have n2_ := Aside0.mk (Kd.S_elder' (by (with_reducible repeat (first | apply Kd.S_alloc | apply Kd.S_drewN | apply Kd.S_drew)); exact HO654.out) (Kd.R_base ho0) hb); have n3_ := Aside0.mk (Kd.R_elder' (by (with_reducible repeat (first | apply Kd.R_alloc | apply Kd.R_drewN | apply Kd.R_drew)); exact HO658.out) (Kd.R_base ho0) hb); have n4_ := Aside0.mk (Kd.R_elder' (by (with_reducible repeat (first | apply Kd.R_alloc | apply Kd.R_drewN | apply Kd.R_drew)); exact HO662.out) (Kd.R_base ho0) hb); have n5_ := Aside0.mk (Kd.R_lower (Kd.R_new' (Kd.R_new' (Kd.R_new' ho0 (Kd.R_lt (by (with_reducible repeat (first | apply Kd.R_alloc | apply Kd.R_drewN | apply Kd.R_drew)); exact HO646.out))) (Kd.R_lt (by (with_reducible repeat (first | apply Kd.R_alloc | apply Kd.R_drewN | apply Kd.R_drew)); exact HO658.out))) (Kd.R_lt (by (with_reducible repeat (first | apply Kd.R_alloc | apply Kd.R_drewN | apply Kd.R_drew)); exact HO662.out))) (below_size (by repeat (first | (with_reducible first | exact HB.out | apply below_alloc | apply pw_below_drewN | apply below_drew1) | exact HB.out)))); have n6_ := Aside0.mk (below_step (by repeat (first | (with_reducible first | exact HB.out | apply below_alloc | apply pw_below_drewN | apply below_drew1) | exact HB.out)) hb); clear HO646; clear HO650; clear HO654; clear HO658; clear HO662; clear HB; have HO646 := n0_; have HO650 := n1_; have HO654 := n2_; have HO658 := n3_; have HO662 := n4_; have HO666 := n5_; have HB := n6_; clear n0_ n1_ n2_ n3_ n4_ n5_ n6_; (try clear hb); (try clear hb2); (try clear hk); (try clear hi); (try clear ho0)) | ((with_reducible refine gate_callee (f := 38) rfl ?_); refine goesL_ (some 74) rfl rfl Try.func38 (by kernel_rfl) rfl #[.slice Ao14 t642.length co14, .int .i64 t643, .int .i64 t644] rfl (by (try simp only [List.map_toArray, List.map_cons, List.map_nil]); first | done | rfl) ?_; (with_reducible refine (impl_IsFundamental.calls k _ _ t642 t643 t644 t667 t668 _ ?side1 ?side2 A11.out).mono ?_); (case side1 => repeat (first | exact (Kd.R_reads' HO646.out).2.2 | (with_reducible refine Kd.C_alloc ?_ _) | (with_reducible refine Kd.C_drewN ?_ _) | (with_reducible refine Kd.C_drew ?_))); (case side2 => exact (Kd.R_reads' HO646.out).2.1); rintro e w20 ⟨rfl, hb⟩; refine ⟨_, rfl, ?_⟩; have n0_ := Aside0.mk (Kd.R_below (by (with_reducible repeat (first | apply Kd.R_alloc | apply Kd.R_drewN | apply Kd.R_drew)); exact HO646.out) hb); have n1_ := Aside0.mk (Kd.S_below (by (with_reducible repeat (first | apply Kd.S_alloc | apply Kd.S_drewN | apply Kd.S_drew)); exact HO650.out) hb); have n2_ := Aside0.mk (Kd.S_below (by (with_reducible repeat (first | apply Kd.S_alloc | apply Kd.S_drewN | apply Kd.S_drew)); exact HO654.out) hb); have n3_ := Aside0.mk (Kd.R_below (by (with_reducible repeat (first | apply Kd.R_alloc | apply Kd.R_drewN | apply Kd.R_drew)); exact HO658.out) hb); have n4_ := Aside0.mk (Kd.R_below (by (with_reducible repeat (first | apply Kd.R_alloc | apply Kd.R_drewN | apply Kd.R_drew)); exact HO662.out) hb); have n5_ := Aside0.mk (Kd.R_below (by (with_reducible repeat (first | apply Kd.R_alloc | apply Kd.R_drewN | apply Kd.R_drew)); exact HO666.out) hb); have n6_ := Aside0.mk (below_step (by repeat (first | (with_reducible first | exact HB.out | apply below_alloc | apply pw_below_drewN | apply below_drew1) | exact HB.out)) hb); clear HO646; clear HO650; clear HO654; clear HO658; clear HO662; clear HO666; clear HB; have HO646 := n0_; have HO650 := n1_; have HO654 := n2_; have HO658 := n3_; have HO662 := n4_; have HO666 := n5_; have HB := n6_; clear n0_ n1_ n2_ n3_ n4_ n5_ n6_; (try clear hb); (try clear hb2); (try clear hk); (try clear hi)))
  (try simp only [Act.put, List.setIfInBounds_toArray, List.set_cons_zero, List.set_cons_succ])
  go_cut [114] (fun v114 wc => ∃ (kq : Nat) (x114_11 : Bool), v114 = .bool x114_11 ∧ Aside0 (laws_FnWaysOfHurwitz.j0 kq t642 t643 t644 t647 t652 t655 t659 t667 x114_11 = some r) ∧ Aside0 (kq ≤ k) ∧ Aside0 (Kd.R (Kd.int .i64) 3 wc w.heap.size (fun k_ => some k_ ≠ (v657 : Value).ownBlock ∧ some k_ ≠ (v661 : Value).ownBlock) (.slice Ao14 t642.length co14) t642) ∧ Aside0 (Kd.S (Kd.slice 3 (Kd.int .i64)) 22 wc w.heap.size (fun k_ => some k_ ≠ ((.slice Ao14 t642.length co14) : Value).ownBlock ∧ some k_ ≠ (v657 : Value).ownBlock ∧ some k_ ≠ (v661 : Value).ownBlock) v649 t647) ∧ Aside0 (Kd.R (Kd.int .i64) 3 wc w.heap.size (fun k_ => some k_ ≠ ((.slice Ao14 t642.length co14) : Value).ownBlock ∧ some k_ ≠ (v661 : Value).ownBlock) v657 t655) ∧ Aside0 (Kd.R (Kd.int .i64) 3 wc w.heap.size (fun k_ => some k_ ≠ ((.slice Ao14 t642.length co14) : Value).ownBlock ∧ some k_ ≠ (v657 : Value).ownBlock) v661 t659) ∧ Aside0 (Below w.heap.size w wc))
  case first => as_aux_lemma =>
   have H := HC12.out; clear HC12
   by_cases c21 : (t648 != t652) = true
   ·rw [if_pos c21] at H
    have c21b0 : (t648 != t652) = true := c21
    (try (have c21b1 : decide (t648 = t652) = false := by simpa using c21))
    (try (have c21b2 : (t648 == t652) = false := by simpa using c21))
    (try (have c21b3 : ¬ (t648 = t652) := by simpa using c21))
    clear c21
    (first | rw [c21b0] | (simp only [i64_w, i32_w]; rw [c21b0]) | skip)
    have H' := Aside0.mk H
    clear H
    go_wp2
    go_meet
    case rel => exact ⟨_, (true), (by first | rfl | (simp; done) | (simp [*]; done)), H', ⟨by first | omega | exact Nat.le_refl _⟩, ⟨by (with_reducible repeat (first | apply Kd.R_alloc | apply Kd.R_drewN | apply Kd.R_drew)); exact Kd.R_mono HO646.out (fun _ hk => ⟨hk.1.1.2, hk.1.2⟩)⟩, ⟨by (with_reducible repeat (first | apply Kd.S_alloc | apply Kd.S_drewN | apply Kd.S_drew)); exact Kd.S_mono HO650.out (fun _ hk => ⟨hk.1.1.1.1.2, ⟨hk.1.1.2, hk.1.2⟩⟩)⟩, ⟨by (with_reducible repeat (first | apply Kd.R_alloc | apply Kd.R_drewN | apply Kd.R_drew)); exact Kd.R_mono HO658.out (fun _ hk => ⟨hk.1.1.2, hk.1.2⟩)⟩, ⟨by (with_reducible repeat (first | apply Kd.R_alloc | apply Kd.R_drewN | apply Kd.R_drew)); exact Kd.R_mono HO662.out (fun _ hk => ⟨hk.1.1.2, hk.1.2⟩)⟩, ⟨by repeat (first | (with_reducible first | exact HB.out | apply below_alloc | apply pw_below_drewN | apply below_drew1) | exact HB.out)⟩⟩
   ·as_aux_lemma =>
    rw [if_neg c21] at H
    have c21b0 : (t648 != t652) = false := by simpa using c21
    (try (have c21b1 : decide (t648 = t652) = true := by simpa using c21))
    (try (have c21b2 : (t648 == t652) = true := by simpa using c21))
    clear c21
    (first | rw [c21b0] | (simp only [i64_w, i32_w]; rw [c21b0]) | skip)
    replace H := Option.bind_eq_some_iff.mp H
    obtain ⟨t669, A220, H⟩ := H
    replace H : (if t669 = true then (if (t656 != t648) = true then (laws_FnWaysOfHurwitz.j0 k t642 t643 t644 t647 t652 t655 t659 t667 true) else (if (t660 != t664) = true then (laws_FnWaysOfHurwitz.j0 k t642 t643 t644 t647 t652 t655 t659 t667 true) else ((laws_vSame.f k t659 t663).bind fun t670 => (if t670 = true then (if (t668 != t648) = true then (laws_FnWaysOfHurwitz.j0 k t642 t643 t644 t647 t652 t655 t659 t667 true) else ((laws_vSolves.f k t642 t643 t644).bind fun t671 => (laws_FnWaysOfHurwitz.j0 k t642 t643 t644 t647 t652 t655 t659 t667 (t648 != t671)))) else (laws_FnWaysOfHurwitz.j0 k t642 t643 t644 t647 t652 t655 t659 t667 true))))) else (laws_FnWaysOfHurwitz.j0 k t642 t643 t644 t647 t652 t655 t659 t667 true)) = some r := H
    have A22 := Aside0.mk A220
    clear A220
    by_cases c23 : t669 = true
    ·as_aux_lemma =>
     subst c23
     have H1 : (if (t656 != t648) = true then (laws_FnWaysOfHurwitz.j0 k t642 t643 t644 t647 t652 t655 t659 t667 true) else (if (t660 != t664) = true then (laws_FnWaysOfHurwitz.j0 k t642 t643 t644 t647 t652 t655 t659 t667 true) else ((laws_vSame.f k t659 t663).bind fun t670 => (if t670 = true then (if (t668 != t648) = true then (laws_FnWaysOfHurwitz.j0 k t642 t643 t644 t647 t652 t655 t659 t667 true) else ((laws_vSolves.f k t642 t643 t644).bind fun t671 => (laws_FnWaysOfHurwitz.j0 k t642 t643 t644 t647 t652 t655 t659 t667 (t648 != t671)))) else (laws_FnWaysOfHurwitz.j0 k t642 t643 t644 t647 t652 t655 t659 t667 true))))) = some r := by rw [if_pos rfl] at H; exact H
     clear H; have H := H1; clear H1
     by_cases c24 : (t656 != t648) = true
     ·as_aux_lemma =>
      rw [if_pos c24] at H
      have c24b0 : (t656 != t648) = true := c24
      (try (have c24b1 : decide (t656 = t648) = false := by simpa using c24))
      (try (have c24b2 : (t656 == t648) = false := by simpa using c24))
      (try (have c24b3 : ¬ (t656 = t648) := by simpa using c24))
      clear c24
      have H' := Aside0.mk H
      clear H
      obtain ⟨Ao25, co25, eo25⟩ := Kd.S_slice HO650.out
      subst eo25
      obtain ⟨Ao26, co26, eo26⟩ := Kd.S_slice HO654.out
      subst eo26
      go_wp2_with (first | (go_at_call 25; (with_reducible refine (laws_vSameLists.calls k _ _ t647 _ _ t651 true _ ?side1 ?side2 ?side3 ?side4 A22.out).mono ?_); (case side1 => repeat (first | exact (Kd.S_reads' HO650.out).2.2 | (with_reducible refine Kd.C_alloc ?_ _) | (with_reducible refine Kd.C_drewN ?_ _) | (with_reducible refine Kd.C_drew ?_))); (case side2 => exact (Kd.S_reads' HO650.out).2.1); (case side3 => repeat (first | exact (Kd.S_reads' HO654.out).2.2 | (with_reducible refine Kd.C_alloc ?_ _) | (with_reducible refine Kd.C_drewN ?_ _) | (with_reducible refine Kd.C_drew ?_))); (case side4 => exact (Kd.S_reads' HO654.out).2.1); rintro e w' ⟨rfl, ⟨nd, rfl⟩⟩))
      go_meet
      case rel => exact ⟨_, (true), (by first | rfl | (simp; done) | (simp [*]; done)), H', ⟨by first | omega | exact Nat.le_refl _⟩, ⟨by (with_reducible repeat (first | apply Kd.R_alloc | apply Kd.R_drewN | apply Kd.R_drew)); exact Kd.R_mono HO646.out (fun _ hk => ⟨hk.1.1.2, hk.1.2⟩)⟩, ⟨by (with_reducible repeat (first | apply Kd.S_alloc | apply Kd.S_drewN | apply Kd.S_drew)); exact Kd.S_mono HO650.out (fun _ hk => ⟨hk.1.1.1.1.2, ⟨hk.1.1.2, hk.1.2⟩⟩)⟩, ⟨by (with_reducible repeat (first | apply Kd.R_alloc | apply Kd.R_drewN | apply Kd.R_drew)); exact Kd.R_mono HO658.out (fun _ hk => ⟨hk.1.1.2, hk.1.2⟩)⟩, ⟨by (with_reducible repeat (first | apply Kd.R_alloc | apply Kd.R_drewN | apply Kd.R_drew)); exact Kd.R_mono HO662.out (fun _ hk => ⟨hk.1.1.2, hk.1.2⟩)⟩, ⟨by repeat (first | (with_reducible first | exact HB.out | apply below_alloc | apply pw_below_drewN | apply below_drew1) | exact HB.out)⟩⟩
     ·as_aux_lemma =>
      rw [if_neg c24] at H
      have c24b0 : (t656 != t648) = false := by simpa using c24
      (try (have c24b1 : decide (t656 = t648) = true := by simpa using c24))
      (try (have c24b2 : (t656 == t648) = true := by simpa using c24))
      clear c24
      by_cases c27 : (t660 != t664) = true
      ·as_aux_lemma =>
       rw [if_pos c27] at H
       have c27b0 : (t660 != t664) = true := c27
       (try (have c27b1 : decide (t660 = t664) = false := by simpa using c27))
       (try (have c27b2 : (t660 == t664) = false := by simpa using c27))
       (try (have c27b3 : ¬ (t660 = t664) := by simpa using c27))
       clear c27
       have H' := Aside0.mk H
       clear H
       obtain ⟨Ao28, co28, eo28⟩ := Kd.S_slice HO650.out
       subst eo28
       obtain ⟨Ao29, co29, eo29⟩ := Kd.S_slice HO654.out
       subst eo29
       go_wp2_with (first | (go_at_call 25; (with_reducible refine (laws_vSameLists.calls k _ _ t647 _ _ t651 true _ ?side1 ?side2 ?side3 ?side4 A22.out).mono ?_); (case side1 => repeat (first | exact (Kd.S_reads' HO650.out).2.2 | (with_reducible refine Kd.C_alloc ?_ _) | (with_reducible refine Kd.C_drewN ?_ _) | (with_reducible refine Kd.C_drew ?_))); (case side2 => exact (Kd.S_reads' HO650.out).2.1); (case side3 => repeat (first | exact (Kd.S_reads' HO654.out).2.2 | (with_reducible refine Kd.C_alloc ?_ _) | (with_reducible refine Kd.C_drewN ?_ _) | (with_reducible refine Kd.C_drew ?_))); (case side4 => exact (Kd.S_reads' HO654.out).2.1); rintro e w' ⟨rfl, ⟨nd, rfl⟩⟩))
       go_meet
       case rel => exact ⟨_, (true), (by first | rfl | (simp; done) | (simp [*]; done)), H', ⟨by first | omega | exact Nat.le_refl _⟩, ⟨by (with_reducible repeat (first | apply Kd.R_alloc | apply Kd.R_drewN | apply Kd.R_drew)); exact Kd.R_mono HO646.out (fun _ hk => ⟨hk.1.1.2, hk.1.2⟩)⟩, ⟨by (with_reducible repeat (first | apply Kd.S_alloc | apply Kd.S_drewN | apply Kd.S_drew)); exact Kd.S_mono HO650.out (fun _ hk => ⟨hk.1.1.1.1.2, ⟨hk.1.1.2, hk.1.2⟩⟩)⟩, ⟨by (with_reducible repeat (first | apply Kd.R_alloc | apply Kd.R_drewN | apply Kd.R_drew)); exact Kd.R_mono HO658.out (fun _ hk => ⟨hk.1.1.2, hk.1.2⟩)⟩, ⟨by (with_reducible repeat (first | apply Kd.R_alloc | apply Kd.R_drewN | apply Kd.R_drew)); exact Kd.R_mono HO662.out (fun _ hk => ⟨hk.1.1.2, hk.1.2⟩)⟩, ⟨by repeat (first | (with_reducible first | exact HB.out | apply below_alloc | apply pw_below_drewN | apply below_drew1) | exact HB.out)⟩⟩
      ·as_aux_lemma =>
       rw [if_neg c27] at H
       have c27b0 : (t660 != t664) = false := by simpa using c27
       (try (have c27b1 : decide (t660 = t664) = true := by simpa using c27))
       (try (have c27b2 : (t660 == t664) = true := by simpa using c27))
       clear c27
       replace H := Option.bind_eq_some_iff.mp H
       obtain ⟨t670, A300, H⟩ := H
       replace H : (if t670 = true then (if (t668 != t648) = true then (laws_FnWaysOfHurwitz.j0 k t642 t643 t644 t647 t652 t655 t659 t667 true) else ((laws_vSolves.f k t642 t643 t644).bind fun t671 => (laws_FnWaysOfHurwitz.j0 k t642 t643 t644 t647 t652 t655 t659 t667 (t648 != t671)))) else (laws_FnWaysOfHurwitz.j0 k t642 t643 t644 t647 t652 t655 t659 t667 true)) = some r := H
       have A30 := Aside0.mk A300
       clear A300
       by_cases c31 : t670 = true
       ·as_aux_lemma =>
        subst c31
        have H1 : (if (t668 != t648) = true then (laws_FnWaysOfHurwitz.j0 k t642 t643 t644 t647 t652 t655 t659 t667 true) else ((laws_vSolves.f k t642 t643 t644).bind fun t671 => (laws_FnWaysOfHurwitz.j0 k t642 t643 t644 t647 t652 t655 t659 t667 (t648 != t671)))) = some r := by rw [if_pos rfl] at H; exact H
        clear H; have H := H1; clear H1
        by_cases c32 : (t668 != t648) = true
        ·as_aux_lemma =>
         rw [if_pos c32] at H
         have c32b0 : (t668 != t648) = true := c32
         (try (have c32b1 : decide (t668 = t648) = false := by simpa using c32))
         (try (have c32b2 : (t668 == t648) = false := by simpa using c32))
         (try (have c32b3 : ¬ (t668 = t648) := by simpa using c32))
         clear c32
         have H' := Aside0.mk H
         clear H
         obtain ⟨Ao33, co33, eo33⟩ := Kd.S_slice HO650.out
         subst eo33
         obtain ⟨Ao34, co34, eo34⟩ := Kd.S_slice HO654.out
         subst eo34
         go_wp2_with (first | (go_at_call 25; (with_reducible refine (laws_vSameLists.calls k _ _ t647 _ _ t651 true _ ?side1 ?side2 ?side3 ?side4 A22.out).mono ?_); (case side1 => repeat (first | exact (Kd.S_reads' HO650.out).2.2 | (with_reducible refine Kd.C_alloc ?_ _) | (with_reducible refine Kd.C_drewN ?_ _) | (with_reducible refine Kd.C_drew ?_))); (case side2 => exact (Kd.S_reads' HO650.out).2.1); (case side3 => repeat (first | exact (Kd.S_reads' HO654.out).2.2 | (with_reducible refine Kd.C_alloc ?_ _) | (with_reducible refine Kd.C_drewN ?_ _) | (with_reducible refine Kd.C_drew ?_))); (case side4 => exact (Kd.S_reads' HO654.out).2.1); rintro e w' ⟨rfl, ⟨nd, rfl⟩⟩; obtain ⟨Ao35, co35, eo35⟩ := Kd.R_slice HO662.out; subst eo35; obtain ⟨Ao36, co36, eo36⟩ := Kd.R_slice HO666.out; subst eo36) | (go_at_call 29; (with_reducible refine (laws_vSame.calls k _ _ t659 _ _ t663 true _ ?side1 ?side2 ?side3 ?side4 A30.out).mono ?_); (case side1 => repeat (first | exact (Kd.R_reads' HO662.out).2.2 | (with_reducible refine Kd.C_alloc ?_ _) | (with_reducible refine Kd.C_drewN ?_ _) | (with_reducible refine Kd.C_drew ?_))); (case side2 => exact (Kd.R_reads' HO662.out).2.1); (case side3 => repeat (first | exact (Kd.R_reads' HO666.out).2.2 | (with_reducible refine Kd.C_alloc ?_ _) | (with_reducible refine Kd.C_drewN ?_ _) | (with_reducible refine Kd.C_drew ?_))); (case side4 => exact (Kd.R_reads' HO666.out).2.1); rintro e w' ⟨rfl, ⟨nd, rfl⟩⟩))
         go_meet
         case rel => exact ⟨_, (true), (by first | rfl | (simp; done) | (simp [*]; done)), H', ⟨by first | omega | exact Nat.le_refl _⟩, ⟨by (with_reducible repeat (first | apply Kd.R_alloc | apply Kd.R_drewN | apply Kd.R_drew)); exact Kd.R_mono HO646.out (fun _ hk => ⟨hk.1.1.2, hk.1.2⟩)⟩, ⟨by (with_reducible repeat (first | apply Kd.S_alloc | apply Kd.S_drewN | apply Kd.S_drew)); exact Kd.S_mono HO650.out (fun _ hk => ⟨hk.1.1.1.1.2, ⟨hk.1.1.2, hk.1.2⟩⟩)⟩, ⟨by (with_reducible repeat (first | apply Kd.R_alloc | apply Kd.R_drewN | apply Kd.R_drew)); exact Kd.R_mono HO658.out (fun _ hk => ⟨hk.1.1.2, hk.1.2⟩)⟩, ⟨by (with_reducible repeat (first | apply Kd.R_alloc | apply Kd.R_drewN | apply Kd.R_drew)); exact Kd.R_mono HO662.out (fun _ hk => ⟨hk.1.1.2, hk.1.2⟩)⟩, ⟨by repeat (first | (with_reducible first | exact HB.out | apply below_alloc | apply pw_below_drewN | apply below_drew1) | exact HB.out)⟩⟩
        ·as_aux_lemma =>
         rw [if_neg c32] at H
         have c32b0 : (t668 != t648) = false := by simpa using c32
         (try (have c32b1 : decide (t668 = t648) = true := by simpa using c32))
         (try (have c32b2 : (t668 == t648) = true := by simpa using c32))
         clear c32
         replace H := Option.bind_eq_some_iff.mp H
         obtain ⟨t671, A370, H⟩ := H
         replace H : (laws_FnWaysOfHurwitz.j0 k t642 t643 t644 t647 t652 t655 t659 t667 (t648 != t671)) = some r := H
         have A37 := Aside0.mk A370
         clear A370
         have H' := Aside0.mk H
         clear H
         obtain ⟨Ao38, co38, eo38⟩ := Kd.S_slice HO650.out
         subst eo38
         obtain ⟨Ao39, co39, eo39⟩ := Kd.S_slice HO654.out
         subst eo39
         go_wp2_with (first | (go_at_call 25; (with_reducible refine (laws_vSameLists.calls k _ _ t647 _ _ t651 true _ ?side1 ?side2 ?side3 ?side4 A22.out).mono ?_); (case side1 => repeat (first | exact (Kd.S_reads' HO650.out).2.2 | (with_reducible refine Kd.C_alloc ?_ _) | (with_reducible refine Kd.C_drewN ?_ _) | (with_reducible refine Kd.C_drew ?_))); (case side2 => exact (Kd.S_reads' HO650.out).2.1); (case side3 => repeat (first | exact (Kd.S_reads' HO654.out).2.2 | (with_reducible refine Kd.C_alloc ?_ _) | (with_reducible refine Kd.C_drewN ?_ _) | (with_reducible refine Kd.C_drew ?_))); (case side4 => exact (Kd.S_reads' HO654.out).2.1); rintro e w' ⟨rfl, ⟨nd, rfl⟩⟩; obtain ⟨Ao40, co40, eo40⟩ := Kd.R_slice HO662.out; subst eo40; obtain ⟨Ao41, co41, eo41⟩ := Kd.R_slice HO666.out; subst eo41) | (go_at_call 29; (with_reducible refine (laws_vSame.calls k _ _ t659 _ _ t663 true _ ?side1 ?side2 ?side3 ?side4 A30.out).mono ?_); (case side1 => repeat (first | exact (Kd.R_reads' HO662.out).2.2 | (with_reducible refine Kd.C_alloc ?_ _) | (with_reducible refine Kd.C_drewN ?_ _) | (with_reducible refine Kd.C_drew ?_))); (case side2 => exact (Kd.R_reads' HO662.out).2.1); (case side3 => repeat (first | exact (Kd.R_reads' HO666.out).2.2 | (with_reducible refine Kd.C_alloc ?_ _) | (with_reducible refine Kd.C_drewN ?_ _) | (with_reducible refine Kd.C_drew ?_))); (case side4 => exact (Kd.R_reads' HO666.out).2.1); rintro e w' ⟨rfl, ⟨nd, rfl⟩⟩) | (go_at_call 39; (with_reducible refine (laws_vSolves.calls k _ _ t642 t643 t644 t671 _ ?side1 ?side2 A37.out).mono ?_); (case side1 => repeat (first | exact (Kd.R_reads' HO646.out).2.2 | (with_reducible refine Kd.C_alloc ?_ _) | (with_reducible refine Kd.C_drewN ?_ _) | (with_reducible refine Kd.C_drew ?_))); (case side2 => exact (Kd.R_reads' HO646.out).2.1); rintro e w42 ⟨rfl, hb⟩; have n0_ := Aside0.mk (Kd.R_below (by (with_reducible repeat (first | apply Kd.R_alloc | apply Kd.R_drewN | apply Kd.R_drew)); exact HO646.out) hb); have n1_ := Aside0.mk (Kd.S_below (by (with_reducible repeat (first | apply Kd.S_alloc | apply Kd.S_drewN | apply Kd.S_drew)); exact HO650.out) hb); have n2_ := Aside0.mk (Kd.S_below (by (with_reducible repeat (first | apply Kd.S_alloc | apply Kd.S_drewN | apply Kd.S_drew)); exact HO654.out) hb); have n3_ := Aside0.mk (Kd.R_below (by (with_reducible repeat (first | apply Kd.R_alloc | apply Kd.R_drewN | apply Kd.R_drew)); exact HO658.out) hb); have n4_ := Aside0.mk (Kd.R_below (by (with_reducible repeat (first | apply Kd.R_alloc | apply Kd.R_drewN | apply Kd.R_drew)); exact HO662.out) hb); have n5_ := Aside0.mk (Kd.R_below (by (with_reducible repeat (first | apply Kd.R_alloc | apply Kd.R_drewN | apply Kd.R_drew)); exact HO666.out) hb); have n6_ := Aside0.mk (below_step (by repeat (first | (with_reducible first | exact HB.out | apply below_alloc | apply pw_below_drewN | apply below_drew1) | exact HB.out)) hb); clear HO646; clear HO650; clear HO654; clear HO658; clear HO662; clear HO666; clear HB; have HO646 := n0_; have HO650 := n1_; have HO654 := n2_; have HO658 := n3_; have HO662 := n4_; have HO666 := n5_; have HB := n6_; clear n0_ n1_ n2_ n3_ n4_ n5_ n6_; (try clear hb); (try clear hb2); (try clear hk); (try clear hi)))
         go_meet
         case rel => exact ⟨_, ((t648 != t671)), (by first | rfl | (simp; done) | (simp [*]; done)), H', ⟨by first | omega | exact Nat.le_refl _⟩, ⟨by (with_reducible repeat (first | apply Kd.R_alloc | apply Kd.R_drewN | apply Kd.R_drew)); exact Kd.R_mono HO646.out (fun _ hk => ⟨hk.1.1.2, hk.1.2⟩)⟩, ⟨by (with_reducible repeat (first | apply Kd.S_alloc | apply Kd.S_drewN | apply Kd.S_drew)); exact Kd.S_mono HO650.out (fun _ hk => ⟨hk.1.1.1.1.2, ⟨hk.1.1.2, hk.1.2⟩⟩)⟩, ⟨by (with_reducible repeat (first | apply Kd.R_alloc | apply Kd.R_drewN | apply Kd.R_drew)); exact Kd.R_mono HO658.out (fun _ hk => ⟨hk.1.1.2, hk.1.2⟩)⟩, ⟨by (with_reducible repeat (first | apply Kd.R_alloc | apply Kd.R_drewN | apply Kd.R_drew)); exact Kd.R_mono HO662.out (fun _ hk => ⟨hk.1.1.2, hk.1.2⟩)⟩, ⟨by repeat (first | (with_reducible first | exact HB.out | apply below_alloc | apply pw_below_drewN | apply below_drew1) | exact HB.out)⟩⟩
       ·as_aux_lemma =>
        replace c31 := Bool.eq_false_iff.mpr c31
        subst c31
        have H1 : (laws_FnWaysOfHurwitz.j0 k t642 t643 t644 t647 t652 t655 t659 t667 true) = some r := by rw [if_neg (show ¬ (false = true) by decide)] at H; exact H
        clear H; have H := H1; clear H1
        have H' := Aside0.mk H
        clear H
        obtain ⟨Ao43, co43, eo43⟩ := Kd.S_slice HO650.out
        subst eo43
        obtain ⟨Ao44, co44, eo44⟩ := Kd.S_slice HO654.out
        subst eo44
        go_wp2_with (first | (go_at_call 25; (with_reducible refine (laws_vSameLists.calls k _ _ t647 _ _ t651 true _ ?side1 ?side2 ?side3 ?side4 A22.out).mono ?_); (case side1 => repeat (first | exact (Kd.S_reads' HO650.out).2.2 | (with_reducible refine Kd.C_alloc ?_ _) | (with_reducible refine Kd.C_drewN ?_ _) | (with_reducible refine Kd.C_drew ?_))); (case side2 => exact (Kd.S_reads' HO650.out).2.1); (case side3 => repeat (first | exact (Kd.S_reads' HO654.out).2.2 | (with_reducible refine Kd.C_alloc ?_ _) | (with_reducible refine Kd.C_drewN ?_ _) | (with_reducible refine Kd.C_drew ?_))); (case side4 => exact (Kd.S_reads' HO654.out).2.1); rintro e w' ⟨rfl, ⟨nd, rfl⟩⟩; obtain ⟨Ao45, co45, eo45⟩ := Kd.R_slice HO662.out; subst eo45; obtain ⟨Ao46, co46, eo46⟩ := Kd.R_slice HO666.out; subst eo46) | (go_at_call 29; (with_reducible refine (laws_vSame.calls k _ _ t659 _ _ t663 false _ ?side1 ?side2 ?side3 ?side4 A30.out).mono ?_); (case side1 => repeat (first | exact (Kd.R_reads' HO662.out).2.2 | (with_reducible refine Kd.C_alloc ?_ _) | (with_reducible refine Kd.C_drewN ?_ _) | (with_reducible refine Kd.C_drew ?_))); (case side2 => exact (Kd.R_reads' HO662.out).2.1); (case side3 => repeat (first | exact (Kd.R_reads' HO666.out).2.2 | (with_reducible refine Kd.C_alloc ?_ _) | (with_reducible refine Kd.C_drewN ?_ _) | (with_reducible refine Kd.C_drew ?_))); (case side4 => exact (Kd.R_reads' HO666.out).2.1); rintro e w' ⟨rfl, ⟨nd, rfl⟩⟩))
        go_meet
        case rel => exact ⟨_, (true), (by first | rfl | (simp; done) | (simp [*]; done)), H', ⟨by first | omega | exact Nat.le_refl _⟩, ⟨by (with_reducible repeat (first | apply Kd.R_alloc | apply Kd.R_drewN | apply Kd.R_drew)); exact Kd.R_mono HO646.out (fun _ hk => ⟨hk.1.1.2, hk.1.2⟩)⟩, ⟨by (with_reducible repeat (first | apply Kd.S_alloc | apply Kd.S_drewN | apply Kd.S_drew)); exact Kd.S_mono HO650.out (fun _ hk => ⟨hk.1.1.1.1.2, ⟨hk.1.1.2, hk.1.2⟩⟩)⟩, ⟨by (with_reducible repeat (first | apply Kd.R_alloc | apply Kd.R_drewN | apply Kd.R_drew)); exact Kd.R_mono HO658.out (fun _ hk => ⟨hk.1.1.2, hk.1.2⟩)⟩, ⟨by (with_reducible repeat (first | apply Kd.R_alloc | apply Kd.R_drewN | apply Kd.R_drew)); exact Kd.R_mono HO662.out (fun _ hk => ⟨hk.1.1.2, hk.1.2⟩)⟩, ⟨by repeat (first | (with_reducible first | exact HB.out | apply below_alloc | apply pw_below_drewN | apply below_drew1) | exact HB.out)⟩⟩
    ·as_aux_lemma =>
     replace c23 := Bool.eq_false_iff.mpr c23
     subst c23
     have H1 : (laws_FnWaysOfHurwitz.j0 k t642 t643 t644 t647 t652 t655 t659 t667 true) = some r := by rw [if_neg (show ¬ (false = true) by decide)] at H; exact H
     clear H; have H := H1; clear H1
     have H' := Aside0.mk H
     clear H
     obtain ⟨Ao47, co47, eo47⟩ := Kd.S_slice HO650.out
     subst eo47
     obtain ⟨Ao48, co48, eo48⟩ := Kd.S_slice HO654.out
     subst eo48
     go_wp2_with (first | (go_at_call 25; (with_reducible refine (laws_vSameLists.calls k _ _ t647 _ _ t651 false _ ?side1 ?side2 ?side3 ?side4 A22.out).mono ?_); (case side1 => repeat (first | exact (Kd.S_reads' HO650.out).2.2 | (with_reducible refine Kd.C_alloc ?_ _) | (with_reducible refine Kd.C_drewN ?_ _) | (with_reducible refine Kd.C_drew ?_))); (case side2 => exact (Kd.S_reads' HO650.out).2.1); (case side3 => repeat (first | exact (Kd.S_reads' HO654.out).2.2 | (with_reducible refine Kd.C_alloc ?_ _) | (with_reducible refine Kd.C_drewN ?_ _) | (with_reducible refine Kd.C_drew ?_))); (case side4 => exact (Kd.S_reads' HO654.out).2.1); rintro e w' ⟨rfl, ⟨nd, rfl⟩⟩))
     go_meet
     case rel => exact ⟨_, (true), (by first | rfl | (simp; done) | (simp [*]; done)), H', ⟨by first | omega | exact Nat.le_refl _⟩, ⟨by (with_reducible repeat (first | apply Kd.R_alloc | apply Kd.R_drewN | apply Kd.R_drew)); exact Kd.R_mono HO646.out (fun _ hk => ⟨hk.1.1.2, hk.1.2⟩)⟩, ⟨by (with_reducible repeat (first | apply Kd.S_alloc | apply Kd.S_drewN | apply Kd.S_drew)); exact Kd.S_mono HO650.out (fun _ hk => ⟨hk.1.1.1.1.2, ⟨hk.1.1.2, hk.1.2⟩⟩)⟩, ⟨by (with_reducible repeat (first | apply Kd.R_alloc | apply Kd.R_drewN | apply Kd.R_drew)); exact Kd.R_mono HO658.out (fun _ hk => ⟨hk.1.1.2, hk.1.2⟩)⟩, ⟨by (with_reducible repeat (first | apply Kd.R_alloc | apply Kd.R_drewN | apply Kd.R_drew)); exact Kd.R_mono HO662.out (fun _ hk => ⟨hk.1.1.2, hk.1.2⟩)⟩, ⟨by repeat (first | (with_reducible first | exact HB.out | apply below_alloc | apply pw_below_drewN | apply below_drew1) | exact HB.out)⟩⟩
  case rest => as_aux_lemma =>
   clear HC12
   try clear c1
   try clear c2
   try clear p2
   try clear c3
   try clear c4
   try clear c6
   try clear c19
   try clear c21
   try clear c21b0
   try clear c21b1
   try clear c21b2
   try clear c23
   try clear c24
   try clear c24b0
   try clear c24b1
   try clear c24b2
   try clear c27
   try clear c27b0
   try clear c27b1
   try clear c27b2
   try clear c30
   try clear c31
   try clear c32
   try clear c32b0
   try clear c32b1
   try clear c32b2
   try clear c33
   try clear c34
   try clear c35
   try clear c36
   try clear c37
   try clear c38
   obtain ⟨kq, x114_11, rfl, HA, HJ11, HO_5, HO_8, HO_12, HO_14, HB⟩ := hcut
   cases kq with
   | zero => exact absurd HA.out (by simp [laws_FnWaysOfHurwitz.j0])
   | succ kj11 =>
    have H := HA.out; clear HA
    simp only [laws_FnWaysOfHurwitz.j0] at H
    by_cases c49 : x114_11 = true
    ·subst c49
     have H1 : (some false) = some r := by rw [if_pos rfl] at H; exact H
     clear H; have H := H1; clear H1
     obtain rfl := Option.some.inj H
     go_wp2
     go_ret
     exact ⟨by first | rfl | (simp [errW_none, errW_some] <;> rfl) | (simp [*, errW_none, errW_some] <;> rfl), by repeat (first | (with_reducible first | exact HB.out | apply below_alloc | apply pw_below_drewN | apply below_drew1) | exact HB.out)⟩
    ·as_aux_lemma =>
     replace c49 := Bool.eq_false_iff.mpr c49
     subst c49
     have H1 : (if t652 = true then (if 0 < (t647.length : Int) then ((laws_vSame.f kj11 (rd_L1 t647 0) t642).bind fun t673 => (if t673 = true then (if 0 ≤ (wrap64 ((t647.length : Int) - 1)) then (if (wrap64 ((t647.length : Int) - 1)) < (t647.length : Int) then ((laws_vSame.f kj11 (rd_L1 t647 (wrap64 ((t647.length : Int) - 1))) t655).bind fun t675 => (if t675 = true then (if (t667 != ((t647.length : Int) == 1)) = true then (laws_FnWaysOfHurwitz.j1 kj11 t642 t643 t644 t647 t655 t659 true) else (laws_FnWaysOfHurwitz.j1 kj11 t642 t643 t644 t647 t655 t659 ((t659.length : Int) != (wrap64 ((t647.length : Int) - 1))))) else (laws_FnWaysOfHurwitz.j1 kj11 t642 t643 t644 t647 t655 t659 true))) else (none)) else (none)) else (laws_FnWaysOfHurwitz.j1 kj11 t642 t643 t644 t647 t655 t659 true))) else (none)) else (some true)) = some r := by rw [if_neg (show ¬ (false = true) by decide)] at H; exact H
     clear H; have H := H1; clear H1
     by_cases c50 : t652 = true
     ·as_aux_lemma =>
      subst c50
      have H1 : (if 0 < (t647.length : Int) then ((laws_vSame.f kj11 (rd_L1 t647 0) t642).bind fun t673 => (if t673 = true then (if 0 ≤ (wrap64 ((t647.length : Int) - 1)) then (if (wrap64 ((t647.length : Int) - 1)) < (t647.length : Int) then ((laws_vSame.f kj11 (rd_L1 t647 (wrap64 ((t647.length : Int) - 1))) t655).bind fun t675 => (if t675 = true then (if (t667 != ((t647.length : Int) == 1)) = true then (laws_FnWaysOfHurwitz.j1 kj11 t642 t643 t644 t647 t655 t659 true) else (laws_FnWaysOfHurwitz.j1 kj11 t642 t643 t644 t647 t655 t659 ((t659.length : Int) != (wrap64 ((t647.length : Int) - 1))))) else (laws_FnWaysOfHurwitz.j1 kj11 t642 t643 t644 t647 t655 t659 true))) else (none)) else (none)) else (laws_FnWaysOfHurwitz.j1 kj11 t642 t643 t644 t647 t655 t659 true))) else (none)) = some r := by rw [if_pos rfl] at H; exact H
      clear H; have H := H1; clear H1
      have HC51 := Aside0.mk H
      clear H
      go_upto_region 14 with (fail)
      go_cut [148] (fun v148 wc => ∃ (kq : Nat) (x148_50 : Bool), v148 = .bool x148_50 ∧ Aside0 (laws_FnWaysOfHurwitz.j1 kq t642 t643 t644 t647 t655 t659 x148_50 = some r) ∧ Aside0 (kq ≤ kj11) ∧ Aside0 (Kd.R (Kd.int .i64) 3 wc w.heap.size (fun k_ => some k_ ≠ (v657 : Value).ownBlock ∧ some k_ ≠ (v661 : Value).ownBlock) (.slice Ao14 t642.length co14) t642) ∧ Aside0 (Kd.S (Kd.slice 3 (Kd.int .i64)) 22 wc w.heap.size (fun k_ => some k_ ≠ ((.slice Ao14 t642.length co14) : Value).ownBlock ∧ some k_ ≠ (v657 : Value).ownBlock ∧ some k_ ≠ (v661 : Value).ownBlock) v649 t647) ∧ Aside0 (Kd.R (Kd.int .i64) 3 wc w.heap.size (fun k_ => some k_ ≠ ((.slice Ao14 t642.length co14) : Value).ownBlock ∧ some k_ ≠ (v661 : Value).ownBlock) v657 t655) ∧ Aside0 (Kd.R (Kd.int .i64) 3 wc w.heap.size (fun k_ => some k_ ≠ ((.slice Ao14 t642.length co14) : Value).ownBlock ∧ some k_ ≠ (v657 : Value).ownBlock) v661 t659) ∧ Aside0 (Below w.heap.size w wc))
      case first => as_aux_lemma =>
       have H := HC51.out; clear HC51
       by_cases c52 : 0 < (t647.length : Int)
       rotate_left
       ·rw [if_neg c52] at H
        exact absurd H (by simp)
       as_aux_lemma =>
       rw [if_pos c52] at H
       have c52b0 : decide (0 < (t647.length : Int)) = true := decide_eq_true c52
       have c52b1 : decide (0 < t647.length) = true := decide_eq_true (by omega)
       clear c52
       (first | rw [c52b0] | (simp only [i64_w, i32_w]; rw [c52b0]) | skip)
       replace H := Option.bind_eq_some_iff.mp H
       obtain ⟨t673, A530, H⟩ := H
       replace H : (if t673 = true then (if 0 ≤ (wrap64 ((t647.length : Int) - 1)) then (if (wrap64 ((t647.length : Int) - 1)) < (t647.length : Int) then ((laws_vSame.f kj11 (rd_L1 t647 (wrap64 ((t647.length : Int) - 1))) t655).bind fun t675 => (if t675 = true then (if (t667 != ((t647.length : Int) == 1)) = true then (laws_FnWaysOfHurwitz.j1 kj11 t642 t643 t644 t647 t655 t659 true) else (laws_FnWaysOfHurwitz.j1 kj11 t642 t643 t644 t647 t655 t659 ((t659.length : Int) != (wrap64 ((t647.length : Int) - 1))))) else (laws_FnWaysOfHurwitz.j1 kj11 t642 t643 t644 t647 t655 t659 true))) else (none)) else (none)) else (laws_FnWaysOfHurwitz.j1 kj11 t642 t643 t644 t647 t655 t659 true)) = some r := H
       have A53 := Aside0.mk A530
       clear A530
       by_cases c54 : t673 = true
       ·as_aux_lemma =>
        subst c54
        have H1 : (if 0 ≤ (wrap64 ((t647.length : Int) - 1)) then (if (wrap64 ((t647.length : Int) - 1)) < (t647.length : Int) then ((laws_vSame.f kj11 (rd_L1 t647 (wrap64 ((t647.length : Int) - 1))) t655).bind fun t675 => (if t675 = true then (if (t667 != ((t647.length : Int) == 1)) = true then (laws_FnWaysOfHurwitz.j1 kj11 t642 t643 t644 t647 t655 t659 true) else (laws_FnWaysOfHurwitz.j1 kj11 t642 t643 t644 t647 t655 t659 ((t659.length : Int) != (wrap64 ((t647.length : Int) - 1))))) else (laws_FnWaysOfHurwitz.j1 kj11 t642 t643 t644 t647 t655 t659 true))) else (none)) else (none)) = some r := by rw [if_pos rfl] at H; exact H
        clear H; have H := H1; clear H1
        obtain ⟨ji55, hji55⟩ : ∃ j_ : Int, (wrap64 ((t647.length : Int) - 1)) = j_ := ⟨_, rfl⟩
        replace H : (if 0 ≤ (ji55) then (if (ji55) < (t647.length : Int) then ((laws_vSame.f kj11 (rd_L1 t647 (ji55)) t655).bind fun t675 => (if t675 = true then (if (t667 != ((t647.length : Int) == 1)) = true then (laws_FnWaysOfHurwitz.j1 kj11 t642 t643 t644 t647 t655 t659 true) else (laws_FnWaysOfHurwitz.j1 kj11 t642 t643 t644 t647 t655 t659 ((t659.length : Int) != (ji55)))) else (laws_FnWaysOfHurwitz.j1 kj11 t642 t643 t644 t647 t655 t659 true))) else (none)) else (none)) = some r := by first | (rw [hji55] at H; exact H) | (simp only [hji55] at H ⊢; exact H)
        (try rw [hji55] at A53)
        have hji55w : (IntKind.i64.wrap ((t647.length : Int) - 1)) = ji55 := (i64_w _).trans hji55
        by_cases c56 : 0 ≤ (ji55)
        rotate_left
        ·rw [if_neg c56] at H
         exact absurd H (by simp)
        as_aux_lemma =>
        rw [if_pos c56] at H
        have c56b0 : decide (0 ≤ (ji55)) = true := decide_eq_true c56
        clear c56
        by_cases c57 : (ji55) < (t647.length : Int)
        rotate_left
        ·rw [if_neg c57] at H
         exact absurd H (by simp)
        as_aux_lemma =>
        rw [if_pos c57] at H
        have c57b0 : decide ((ji55) < (t647.length : Int)) = true := decide_eq_true c57
        clear c57
        replace H := Option.bind_eq_some_iff.mp H
        obtain ⟨t675, A580, H⟩ := H
        replace H : (if t675 = true then (if (t667 != ((t647.length : Int) == 1)) = true then (laws_FnWaysOfHurwitz.j1 kj11 t642 t643 t644 t647 t655 t659 true) else (laws_FnWaysOfHurwitz.j1 kj11 t642 t643 t644 t647 t655 t659 ((t659.length : Int) != (ji55)))) else (laws_FnWaysOfHurwitz.j1 kj11 t642 t643 t644 t647 t655 t659 true)) = some r := H
        have A58 := Aside0.mk A580
        clear A580
        by_cases c59 : t675 = true
        ·as_aux_lemma =>
         subst c59
         have H1 : (if (t667 != ((t647.length : Int) == 1)) = true then (laws_FnWaysOfHurwitz.j1 kj11 t642 t643 t644 t647 t655 t659 true) else (laws_FnWaysOfHurwitz.j1 kj11 t642 t643 t644 t647 t655 t659 ((t659.length : Int) != (ji55)))) = some r := by rw [if_pos rfl] at H; exact H
         clear H; have H := H1; clear H1
         by_cases c60 : (t667 != ((t647.length : Int) == 1)) = true
         ·as_aux_lemma =>
          rw [if_pos c60] at H
          have c60b0 : (t667 != ((t647.length : Int) == 1)) = true := c60
          (try (have c60b1 : decide (t667 = ((t647.length : Int) == 1)) = false := by simpa using c60))
          (try (have c60b2 : (t667 == ((t647.length : Int) == 1)) = false := by simpa using c60))
          (try (have c60b3 : ¬ (t667 = ((t647.length : Int) == 1)) := by simpa using c60))
          clear c60
          have H' := Aside0.mk H
          clear H
          obtain ⟨Ao61, co61, eo61⟩ := Kd.S_slice HO_8.out
          subst eo61
          have p672 : 0 ≤ (0 : Int) := (by omega)
          have q672 : 0 < (t647.length : Int) := of_decide_eq_true (by first | (with_reducible assumption) | assumption)
          obtain ⟨ad672, A672_0, c672_0, e672, hx672_0, hl672_0, hi672_0⟩ := at_L1 (Kd.S_reads' HO_8.out).2.2 0 p672 q672
          cases e672
          obtain ⟨ce672, hce672, hMe672, hcc672⟩ := Kd.S_get HO_8.out [] 0 p672 (by first | exact q672 | exact of_decide_eq_true (by first | (with_reducible assumption) | assumption) | (have e_ := (Kd.S_reads' HO_8.out).1; omega))
          obtain ⟨ve672_0, rfl, ge672_0⟩ := hMe672
          have hv672_0 := hcc672 0 _ rfl
          rw [Nat.add_zero, show ((Kd.slice 3 (Kd.int .i64))).sz = 1 from rfl, Nat.mul_one] at hv672_0
          replace hv672_0 := Option.some.inj (hv672_0.symm.trans hx672_0)
          rw [hv672_0] at ge672_0
          have HL672_0 := Aside0.mk (show Kd.R (Kd.int .i64) 3 _ _ _ _ (rd_L1 t647 0) from ge672_0)
          clear hv672_0 ge672_0; clear hcc672 hce672
          have qi672 : (0 < t647.length) = True := eq_true (by omega)
          (try rw [show ((0 : Int)).toNat = 0 from rfl] at hx672_0)
          (try rw [Addr.add_zero'] at hx672_0)
          have HR672_0 := Aside0.mk hi672_0
          have HC672_0 := Aside0.mk hl672_0
          clear hi672_0 hl672_0; replace p672 := eq_true p672; replace q672 := eq_true q672
          go_wp2_with (first | ((with_reducible refine gate_callee (f := 29) rfl ?_); refine goesL_ (some 121) rfl rfl Try.func29 (by kernel_rfl) rfl #[.slice A672_0 (rd_L1 t647 0).length c672_0, .slice Ao14 t642.length co14] rfl (by (try simp only [List.map_toArray, List.map_cons, List.map_nil]); first | done | rfl) ?_; (with_reducible refine (laws_vSame.calls kj11 _ _ (rd_L1 t647 0) _ _ t642 true _ ?side1 ?side2 ?side3 ?side4 A53.out).mono ?_); (case side1 => repeat (first | exact (by repeat (first | (with_reducible exact HR672_0.out) | (with_reducible refine Kd.C_alloc ?_ _) | (with_reducible refine Kd.C_drewN ?_ _) | (with_reducible refine Kd.C_drew ?_) | exact HR672_0.out)) | (with_reducible refine Kd.C_alloc ?_ _) | (with_reducible refine Kd.C_drewN ?_ _) | (with_reducible refine Kd.C_drew ?_))); (case side2 => exact HC672_0.out); (case side3 => repeat (first | exact (Kd.R_reads' HO_5.out).2.2 | (with_reducible refine Kd.C_alloc ?_ _) | (with_reducible refine Kd.C_drewN ?_ _) | (with_reducible refine Kd.C_drew ?_))); (case side4 => exact (Kd.R_reads' HO_5.out).2.1); rintro e w' ⟨rfl, ⟨nd, rfl⟩⟩; refine ⟨_, rfl, ?_⟩; have p674 : 0 ≤ ((ji55) : Int) := of_decide_eq_true (by first | (with_reducible assumption) | assumption); have q674 : (ji55) < (t647.length : Int) := of_decide_eq_true (by first | (with_reducible assumption) | assumption); obtain ⟨ad674, A674_0, c674_0, e674, hx674_0, hl674_0, hi674_0⟩ := at_L1 (Kd.S_reads' HO_8.out).2.2 (ji55) p674 q674; obtain rfl : ad672 = ad674 := (by injection e674); obtain ⟨ce674, hce674, hMe674, hcc674⟩ := Kd.S_get HO_8.out [] (ji55) p674 (by first | exact q674 | exact of_decide_eq_true (by first | (with_reducible assumption) | assumption) | (have e_ := (Kd.S_reads' HO_8.out).1; omega)); obtain ⟨ve674_0, rfl, ge674_0⟩ := hMe674; have hv674_0 := hcc674 0 _ rfl; rw [Nat.add_zero, show ((Kd.slice 3 (Kd.int .i64))).sz = 1 from rfl, Nat.mul_one] at hv674_0; replace hv674_0 := Option.some.inj (hv674_0.symm.trans hx674_0); rw [hv674_0] at ge674_0; have HL674_0 := Aside0.mk (show Kd.R (Kd.int .i64) 3 _ _ _ _ (rd_L1 t647 (ji55)) from ge674_0); clear hv674_0 ge674_0; clear hcc674 hce674; have HR674_0 := Aside0.mk hi674_0; have HC674_0 := Aside0.mk hl674_0; clear hi674_0 hl674_0; replace p674 := eq_true p674; replace q674 := eq_true q674; obtain ⟨Ao62, co62, eo62⟩ := Kd.R_slice HO_12.out; subst eo62) | (go_at_call 29; (with_reducible refine (laws_vSame.calls kj11 _ _ (rd_L1 t647 (ji55)) _ _ t655 true _ ?side1 ?side2 ?side3 ?side4 A58.out).mono ?_); (case side1 => repeat (first | exact (by repeat (first | (with_reducible exact HR674_0.out) | (with_reducible refine Kd.C_alloc ?_ _) | (with_reducible refine Kd.C_drewN ?_ _) | (with_reducible refine Kd.C_drew ?_) | exact HR674_0.out)) | (with_reducible refine Kd.C_alloc ?_ _) | (with_reducible refine Kd.C_drewN ?_ _) | (with_reducible refine Kd.C_drew ?_))); (case side2 => exact HC674_0.out); (case side3 => repeat (first | exact (Kd.R_reads' HO_12.out).2.2 | (with_reducible refine Kd.C_alloc ?_ _) | (with_reducible refine Kd.C_drewN ?_ _) | (with_reducible refine Kd.C_drew ?_))); (case side4 => exact (Kd.R_reads' HO_12.out).2.1); rintro e w' ⟨rfl, ⟨nd, rfl⟩⟩))
          go_meet
          case rel => exact ⟨_, (true), (by first | rfl | (simp; done) | (simp [*]; done)), H', ⟨by have := HJ11.out; first | omega | exact Nat.le_refl _⟩, ⟨by (with_reducible repeat (first | apply Kd.R_alloc | apply Kd.R_drewN | apply Kd.R_drew)); exact HO_5.out⟩, ⟨by (with_reducible repeat (first | apply Kd.S_alloc | apply Kd.S_drewN | apply Kd.S_drew)); exact HO_8.out⟩, ⟨by (with_reducible repeat (first | apply Kd.R_alloc | apply Kd.R_drewN | apply Kd.R_drew)); exact HO_12.out⟩, ⟨by (with_reducible repeat (first | apply Kd.R_alloc | apply Kd.R_drewN | apply Kd.R_drew)); exact HO_14.out⟩, ⟨by repeat (first | (with_reducible first | exact HB.out | apply below_alloc | apply pw_below_drewN | apply below_drew1) | exact HB.out)⟩⟩
         ·as_aux_lemma =>
          rw [if_neg c60] at H
          have c60b0 : (t667 != ((t647.length : Int) == 1)) = false := by simpa using c60
          (try (have c60b1 : decide (t667 = ((t647.length : Int) == 1)) = true := by simpa using c60))
          (try (have c60b2 : (t667 == ((t647.length : Int) == 1)) = true := by simpa using c60))
          clear c60
          have H' := Aside0.mk H
          clear H
          obtain ⟨Ao63, co63, eo63⟩ := Kd.S_slice HO_8.out
          subst eo63
          have p672 : 0 ≤ (0 : Int) := (by omega)
          have q672 : 0 < (t647.length : Int) := of_decide_eq_true (by first | (with_reducible assumption) | assumption)
          obtain ⟨ad672, A672_0, c672_0, e672, hx672_0, hl672_0, hi672_0⟩ := at_L1 (Kd.S_reads' HO_8.out).2.2 0 p672 q672
          cases e672
          obtain ⟨ce672, hce672, hMe672, hcc672⟩ := Kd.S_get HO_8.out [] 0 p672 (by first | exact q672 | exact of_decide_eq_true (by first | (with_reducible assumption) | assumption) | (have e_ := (Kd.S_reads' HO_8.out).1; omega))
          obtain ⟨ve672_0, rfl, ge672_0⟩ := hMe672
          have hv672_0 := hcc672 0 _ rfl
          rw [Nat.add_zero, show ((Kd.slice 3 (Kd.int .i64))).sz = 1 from rfl, Nat.mul_one] at hv672_0
          replace hv672_0 := Option.some.inj (hv672_0.symm.trans hx672_0)
          rw [hv672_0] at ge672_0
          have HL672_0 := Aside0.mk (show Kd.R (Kd.int .i64) 3 _ _ _ _ (rd_L1 t647 0) from ge672_0)
          clear hv672_0 ge672_0; clear hcc672 hce672
          have qi672 : (0 < t647.length) = True := eq_true (by omega)
          (try rw [show ((0 : Int)).toNat = 0 from rfl] at hx672_0)
          (try rw [Addr.add_zero'] at hx672_0)
          have HR672_0 := Aside0.mk hi672_0
          have HC672_0 := Aside0.mk hl672_0
          clear hi672_0 hl672_0; replace p672 := eq_true p672; replace q672 := eq_true q672
          go_wp2_with (first | ((with_reducible refine gate_callee (f := 29) rfl ?_); refine goesL_ (some 121) rfl rfl Try.func29 (by kernel_rfl) rfl #[.slice A672_0 (rd_L1 t647 0).length c672_0, .slice Ao14 t642.length co14] rfl (by (try simp only [List.map_toArray, List.map_cons, List.map_nil]); first | done | rfl) ?_; (with_reducible refine (laws_vSame.calls kj11 _ _ (rd_L1 t647 0) _ _ t642 true _ ?side1 ?side2 ?side3 ?side4 A53.out).mono ?_); (case side1 => repeat (first | exact (by repeat (first | (with_reducible exact HR672_0.out) | (with_reducible refine Kd.C_alloc ?_ _) | (with_reducible refine Kd.C_drewN ?_ _) | (with_reducible refine Kd.C_drew ?_) | exact HR672_0.out)) | (with_reducible refine Kd.C_alloc ?_ _) | (with_reducible refine Kd.C_drewN ?_ _) | (with_reducible refine Kd.C_drew ?_))); (case side2 => exact HC672_0.out); (case side3 => repeat (first | exact (Kd.R_reads' HO_5.out).2.2 | (with_reducible refine Kd.C_alloc ?_ _) | (with_reducible refine Kd.C_drewN ?_ _) | (with_reducible refine Kd.C_drew ?_))); (case side4 => exact (Kd.R_reads' HO_5.out).2.1); rintro e w' ⟨rfl, ⟨nd, rfl⟩⟩; refine ⟨_, rfl, ?_⟩; have p674 : 0 ≤ ((ji55) : Int) := of_decide_eq_true (by first | (with_reducible assumption) | assumption); have q674 : (ji55) < (t647.length : Int) := of_decide_eq_true (by first | (with_reducible assumption) | assumption); obtain ⟨ad674, A674_0, c674_0, e674, hx674_0, hl674_0, hi674_0⟩ := at_L1 (Kd.S_reads' HO_8.out).2.2 (ji55) p674 q674; obtain rfl : ad672 = ad674 := (by injection e674); obtain ⟨ce674, hce674, hMe674, hcc674⟩ := Kd.S_get HO_8.out [] (ji55) p674 (by first | exact q674 | exact of_decide_eq_true (by first | (with_reducible assumption) | assumption) | (have e_ := (Kd.S_reads' HO_8.out).1; omega)); obtain ⟨ve674_0, rfl, ge674_0⟩ := hMe674; have hv674_0 := hcc674 0 _ rfl; rw [Nat.add_zero, show ((Kd.slice 3 (Kd.int .i64))).sz = 1 from rfl, Nat.mul_one] at hv674_0; replace hv674_0 := Option.some.inj (hv674_0.symm.trans hx674_0); rw [hv674_0] at ge674_0; have HL674_0 := Aside0.mk (show Kd.R (Kd.int .i64) 3 _ _ _ _ (rd_L1 t647 (ji55)) from ge674_0); clear hv674_0 ge674_0; clear hcc674 hce674; have HR674_0 := Aside0.mk hi674_0; have HC674_0 := Aside0.mk hl674_0; clear hi674_0 hl674_0; replace p674 := eq_true p674; replace q674 := eq_true q674; obtain ⟨Ao64, co64, eo64⟩ := Kd.R_slice HO_12.out; subst eo64) | (go_at_call 29; (with_reducible refine (laws_vSame.calls kj11 _ _ (rd_L1 t647 (ji55)) _ _ t655 true _ ?side1 ?side2 ?side3 ?side4 A58.out).mono ?_); (case side1 => repeat (first | exact (by repeat (first | (with_reducible exact HR674_0.out) | (with_reducible refine Kd.C_alloc ?_ _) | (with_reducible refine Kd.C_drewN ?_ _) | (with_reducible refine Kd.C_drew ?_) | exact HR674_0.out)) | (with_reducible refine Kd.C_alloc ?_ _) | (with_reducible refine Kd.C_drewN ?_ _) | (with_reducible refine Kd.C_drew ?_))); (case side2 => exact HC674_0.out); (case side3 => repeat (first | exact (Kd.R_reads' HO_12.out).2.2 | (with_reducible refine Kd.C_alloc ?_ _) | (with_reducible refine Kd.C_drewN ?_ _) | (with_reducible refine Kd.C_drew ?_))); (case side4 => exact (Kd.R_reads' HO_12.out).2.1); rintro e w' ⟨rfl, ⟨nd, rfl⟩⟩; obtain ⟨Ao65, co65, eo65⟩ := Kd.R_slice HO_14.out; subst eo65))
          go_meet
          case rel => exact ⟨_, (((t659.length : Int) != (ji55))), (by first | rfl | (simp; done) | (simp only [← hji55] <;> (first | rfl | simp)) | (simp [*]; done)), H', ⟨by have := HJ11.out; first | omega | exact Nat.le_refl _⟩, ⟨by (with_reducible repeat (first | apply Kd.R_alloc | apply Kd.R_drewN | apply Kd.R_drew)); exact HO_5.out⟩, ⟨by (with_reducible repeat (first | apply Kd.S_alloc | apply Kd.S_drewN | apply Kd.S_drew)); exact HO_8.out⟩, ⟨by (with_reducible repeat (first | apply Kd.R_alloc | apply Kd.R_drewN | apply Kd.R_drew)); exact HO_12.out⟩, ⟨by (with_reducible repeat (first | apply Kd.R_alloc | apply Kd.R_drewN | apply Kd.R_drew)); exact HO_14.out⟩, ⟨by repeat (first | (with_reducible first | exact HB.out | apply below_alloc | apply pw_below_drewN | apply below_drew1) | exact HB.out)⟩⟩
        ·as_aux_lemma =>
         replace c59 := Bool.eq_false_iff.mpr c59
         subst c59
         have H1 : (laws_FnWaysOfHurwitz.j1 kj11 t642 t643 t644 t647 t655 t659 true) = some r := by rw [if_neg (show ¬ (false = true) by decide)] at H; exact H
         clear H; have H := H1; clear H1
         have H' := Aside0.mk H
         clear H
         obtain ⟨Ao66, co66, eo66⟩ := Kd.S_slice HO_8.out
         subst eo66
         have p672 : 0 ≤ (0 : Int) := (by omega)
         have q672 : 0 < (t647.length : Int) := of_decide_eq_true (by first | (with_reducible assumption) | assumption)
         obtain ⟨ad672, A672_0, c672_0, e672, hx672_0, hl672_0, hi672_0⟩ := at_L1 (Kd.S_reads' HO_8.out).2.2 0 p672 q672
         cases e672
         obtain ⟨ce672, hce672, hMe672, hcc672⟩ := Kd.S_get HO_8.out [] 0 p672 (by first | exact q672 | exact of_decide_eq_true (by first | (with_reducible assumption) | assumption) | (have e_ := (Kd.S_reads' HO_8.out).1; omega))
         obtain ⟨ve672_0, rfl, ge672_0⟩ := hMe672
         have hv672_0 := hcc672 0 _ rfl
         rw [Nat.add_zero, show ((Kd.slice 3 (Kd.int .i64))).sz = 1 from rfl, Nat.mul_one] at hv672_0
         replace hv672_0 := Option.some.inj (hv672_0.symm.trans hx672_0)
         rw [hv672_0] at ge672_0
         have HL672_0 := Aside0.mk (show Kd.R (Kd.int .i64) 3 _ _ _ _ (rd_L1 t647 0) from ge672_0)
         clear hv672_0 ge672_0; clear hcc672 hce672
         have qi672 : (0 < t647.length) = True := eq_true (by omega)
         (try rw [show ((0 : Int)).toNat = 0 from rfl] at hx672_0)
         (try rw [Addr.add_zero'] at hx672_0)
         have HR672_0 := Aside0.mk hi672_0
         have HC672_0 := Aside0.mk hl672_0
         clear hi672_0 hl672_0; replace p672 := eq_true p672; replace q672 := eq_true q672
         go_wp2_with (first | ((with_reducible refine gate_callee (f := 29) rfl ?_); refine goesL_ (some 121) rfl rfl Try.func29 (by kernel_rfl) rfl #[.slice A672_0 (rd_L1 t647 0).length c672_0, .slice Ao14 t642.length co14] rfl (by (try simp only [List.map_toArray, List.map_cons, List.map_nil]); first | done | rfl) ?_; (with_reducible refine (laws_vSame.calls kj11 _ _ (rd_L1 t647 0) _ _ t642 true _ ?side1 ?side2 ?side3 ?side4 A53.out).mono ?_); (case side1 => repeat (first | exact (by repeat (first | (with_reducible exact HR672_0.out) | (with_reducible refine Kd.C_alloc ?_ _) | (with_reducible refine Kd.C_drewN ?_ _) | (with_reducible refine Kd.C_drew ?_) | exact HR672_0.out)) | (with_reducible refine Kd.C_alloc ?_ _) | (with_reducible refine Kd.C_drewN ?_ _) | (with_reducible refine Kd.C_drew ?_))); (case side2 => exact HC672_0.out); (case side3 => repeat (first | exact (Kd.R_reads' HO_5.out).2.2 | (with_reducible refine Kd.C_alloc ?_ _) | (with_reducible refine Kd.C_drewN ?_ _) | (with_reducible refine Kd.C_drew ?_))); (case side4 => exact (Kd.R_reads' HO_5.out).2.1); rintro e w' ⟨rfl, ⟨nd, rfl⟩⟩; refine ⟨_, rfl, ?_⟩; have p674 : 0 ≤ ((ji55) : Int) := of_decide_eq_true (by first | (with_reducible assumption) | assumption); have q674 : (ji55) < (t647.length : Int) := of_decide_eq_true (by first | (with_reducible assumption) | assumption); obtain ⟨ad674, A674_0, c674_0, e674, hx674_0, hl674_0, hi674_0⟩ := at_L1 (Kd.S_reads' HO_8.out).2.2 (ji55) p674 q674; obtain rfl : ad672 = ad674 := (by injection e674); obtain ⟨ce674, hce674, hMe674, hcc674⟩ := Kd.S_get HO_8.out [] (ji55) p674 (by first | exact q674 | exact of_decide_eq_true (by first | (with_reducible assumption) | assumption) | (have e_ := (Kd.S_reads' HO_8.out).1; omega)); obtain ⟨ve674_0, rfl, ge674_0⟩ := hMe674; have hv674_0 := hcc674 0 _ rfl; rw [Nat.add_zero, show ((Kd.slice 3 (Kd.int .i64))).sz = 1 from rfl, Nat.mul_one] at hv674_0; replace hv674_0 := Option.some.inj (hv674_0.symm.trans hx674_0); rw [hv674_0] at ge674_0; have HL674_0 := Aside0.mk (show Kd.R (Kd.int .i64) 3 _ _ _ _ (rd_L1 t647 (ji55)) from ge674_0); clear hv674_0 ge674_0; clear hcc674 hce674; have HR674_0 := Aside0.mk hi674_0; have HC674_0 := Aside0.mk hl674_0; clear hi674_0 hl674_0; replace p674 := eq_true p674; replace q674 := eq_true q674; obtain ⟨Ao67, co67, eo67⟩ := Kd.R_slice HO_12.out; subst eo67) | (go_at_call 29; (with_reducible refine (laws_vSame.calls kj11 _ _ (rd_L1 t647 (ji55)) _ _ t655 false _ ?side1 ?side2 ?side3 ?side4 A58.out).mono ?_); (case side1 => repeat (first | exact (by repeat (first | (with_reducible exact HR674_0.out) | (with_reducible refine Kd.C_alloc ?_ _) | (with_reducible refine Kd.C_drewN ?_ _) | (with_reducible refine Kd.C_drew ?_) | exact HR674_0.out)) | (with_reducible refine Kd.C_alloc ?_ _) | (with_reducible refine Kd.C_drewN ?_ _) | (with_reducible refine Kd.C_drew ?_))); (case side2 => exact HC674_0.out); (case side3 => repeat (first | exact (Kd.R_reads' HO_12.out).2.2 | (with_reducible refine Kd.C_alloc ?_ _) | (with_reducible refine Kd.C_drewN ?_ _) | (with_reducible refine Kd.C_drew ?_))); (case side4 => exact (Kd.R_reads' HO_12.out).2.1); rintro e w' ⟨rfl, ⟨nd, rfl⟩⟩))
         go_meet
         case rel => exact ⟨_, (true), (by first | rfl | (simp; done) | (simp [*]; done)), H', ⟨by have := HJ11.out; first | omega | exact Nat.le_refl _⟩, ⟨by (with_reducible repeat (first | apply Kd.R_alloc | apply Kd.R_drewN | apply Kd.R_drew)); exact HO_5.out⟩, ⟨by (with_reducible repeat (first | apply Kd.S_alloc | apply Kd.S_drewN | apply Kd.S_drew)); exact HO_8.out⟩, ⟨by (with_reducible repeat (first | apply Kd.R_alloc | apply Kd.R_drewN | apply Kd.R_drew)); exact HO_12.out⟩, ⟨by (with_reducible repeat (first | apply Kd.R_alloc | apply Kd.R_drewN | apply Kd.R_drew)); exact HO_14.out⟩, ⟨by repeat (first | (with_reducible first | exact HB.out | apply below_alloc | apply pw_below_drewN | apply below_drew1) | exact HB.out)⟩⟩
       ·as_aux_lemma =>
        replace c54 := Bool.eq_false_iff.mpr c54
        subst c54
        have H1 : (laws_FnWaysOfHurwitz.j1 kj11 t642 t643 t644 t647 t655 t659 true) = some r := by rw [if_neg (show ¬ (false = true) by decide)] at H; exact H
        clear H; have H := H1; clear H1
        have H' := Aside0.mk H
        clear H
        obtain ⟨Ao68, co68, eo68⟩ := Kd.S_slice HO_8.out
        subst eo68
        have p672 : 0 ≤ (0 : Int) := (by omega)
        have q672 : 0 < (t647.length : Int) := of_decide_eq_true (by first | (with_reducible assumption) | assumption)
        obtain ⟨ad672, A672_0, c672_0, e672, hx672_0, hl672_0, hi672_0⟩ := at_L1 (Kd.S_reads' HO_8.out).2.2 0 p672 q672
        cases e672
        obtain ⟨ce672, hce672, hMe672, hcc672⟩ := Kd.S_get HO_8.out [] 0 p672 (by first | exact q672 | exact of_decide_eq_true (by first | (with_reducible assumption) | assumption) | (have e_ := (Kd.S_reads' HO_8.out).1; omega))
        obtain ⟨ve672_0, rfl, ge672_0⟩ := hMe672
        have hv672_0 := hcc672 0 _ rfl
        rw [Nat.add_zero, show ((Kd.slice 3 (Kd.int .i64))).sz = 1 from rfl, Nat.mul_one] at hv672_0
        replace hv672_0 := Option.some.inj (hv672_0.symm.trans hx672_0)
        rw [hv672_0] at ge672_0
        have HL672_0 := Aside0.mk (show Kd.R (Kd.int .i64) 3 _ _ _ _ (rd_L1 t647 0) from ge672_0)
        clear hv672_0 ge672_0; clear hcc672 hce672
        have qi672 : (0 < t647.length) = True := eq_true (by omega)
        (try rw [show ((0 : Int)).toNat = 0 from rfl] at hx672_0)
        (try rw [Addr.add_zero'] at hx672_0)
        have HR672_0 := Aside0.mk hi672_0
        have HC672_0 := Aside0.mk hl672_0
        clear hi672_0 hl672_0; replace p672 := eq_true p672; replace q672 := eq_true q672
        go_wp2_with (first | ((with_reducible refine gate_callee (f := 29) rfl ?_); refine goesL_ (some 121) rfl rfl Try.func29 (by kernel_rfl) rfl #[.slice A672_0 (rd_L1 t647 0).length c672_0, .slice Ao14 t642.length co14] rfl (by (try simp only [List.map_toArray, List.map_cons, List.map_nil]); first | done | rfl) ?_; (with_reducible refine (laws_vSame.calls kj11 _ _ (rd_L1 t647 0) _ _ t642 false _ ?side1 ?side2 ?side3 ?side4 A53.out).mono ?_); (case side1 => repeat (first | exact (by repeat (first | (with_reducible exact HR672_0.out) | (with_reducible refine Kd.C_alloc ?_ _) | (with_reducible refine Kd.C_drewN ?_ _) | (with_reducible refine Kd.C_drew ?_) | exact HR672_0.out)) | (with_reducible refine Kd.C_alloc ?_ _) | (with_reducible refine Kd.C_drewN ?_ _) | (with_reducible refine Kd.C_drew ?_))); (case side2 => exact HC672_0.out); (case side3 => repeat (first | exact (Kd.R_reads' HO_5.out).2.2 | (with_reducible refine Kd.C_alloc ?_ _) | (with_reducible refine Kd.C_drewN ?_ _) | (with_reducible refine Kd.C_drew ?_))); (case side4 => exact (Kd.R_reads' HO_5.out).2.1); rintro e w' ⟨rfl, ⟨nd, rfl⟩⟩; refine ⟨_, rfl, ?_⟩))
        go_meet
        case rel => exact ⟨_, (true), (by first | rfl | (simp; done) | (simp [*]; done)), H', ⟨by have := HJ11.out; first | omega | exact Nat.le_refl _⟩, ⟨by (with_reducible repeat (first | apply Kd.R_alloc | apply Kd.R_drewN | apply Kd.R_drew)); exact HO_5.out⟩, ⟨by (with_reducible repeat (first | apply Kd.S_alloc | apply Kd.S_drewN | apply Kd.S_drew)); exact HO_8.out⟩, ⟨by (with_reducible repeat (first | apply Kd.R_alloc | apply Kd.R_drewN | apply Kd.R_drew)); exact HO_12.out⟩, ⟨by (with_reducible repeat (first | apply Kd.R_alloc | apply Kd.R_drewN | apply Kd.R_drew)); exact HO_14.out⟩, ⟨by repeat (first | (with_reducible first | exact HB.out | apply below_alloc | apply pw_below_drewN | apply below_drew1) | exact HB.out)⟩⟩
      case rest => as_aux_lemma =>
       clear HC51
       try clear c1
       try clear c2
       try clear p2
       try clear c3
       try clear c4
       try clear c5
       try clear c6
       try clear p6
       try clear q6
       try clear hx6
       try clear qi6
       try clear c19
       try clear c21
       try clear c21b0
       try clear c21b1
       try clear c21b2
       try clear c23
       try clear c24
       try clear c24b0
       try clear c24b1
       try clear c24b2
       try clear c27
       try clear c27b0
       try clear c27b1
       try clear c27b2
       try clear c29
       try clear c30
       try clear c31
       try clear c32
       try clear c32b0
       try clear c32b1
       try clear c32b2
       try clear c33
       try clear c34
       try clear c35
       try clear c36
       try clear c37
       try clear c38
       try clear c49
       try clear c50
       try clear c52
       try clear c52b0
       try clear c52b1
       try clear c54
       try clear c56
       try clear c56b0
       try clear c57
       try clear c57b0
       try clear c59
       try clear c60
       try clear c60b0
       try clear c60b1
       try clear c60b2
       try clear p64
       try clear c67
       try clear p67
       try clear q67
       try clear hx67
       try clear qi67
       try clear hx672_0
       try clear hx674_0
       try clear p2
       try clear p672
       try clear p674
       try clear q672
       try clear q674
       obtain ⟨kq, x148_50, rfl, HA, HJ50, HO_5, HO_8, HO_12, HO_14, HB⟩ := hcut
       cases kq with
       | zero => exact absurd HA.out (by simp [laws_FnWaysOfHurwitz.j1])
       | succ kj50 =>
        have H := HA.out; clear HA
        simp only [laws_FnWaysOfHurwitz.j1] at H
        by_cases c69 : x148_50 = true
        ·subst c69
         have H1 : (some false) = some r := by rw [if_pos rfl] at H; exact H
         clear H; have H := H1; clear H1
         obtain rfl := Option.some.inj H
         go_wp2
         go_ret
         exact ⟨by first | rfl | (simp [errW_none, errW_some] <;> rfl) | (simp [*, errW_none, errW_some] <;> rfl), by repeat (first | (with_reducible first | exact HB.out | apply below_alloc | apply pw_below_drewN | apply below_drew1) | exact HB.out)⟩
        ·as_aux_lemma =>
         replace c69 := Bool.eq_false_iff.mpr c69
         subst c69
         have H1 : (laws_FnWaysOfHurwitz.l0 kj50 t642 t643 t644 t647 t655 t659 t647 (t647.length : Int) 0) = some r := by rw [if_neg (show ¬ (false = true) by decide)] at H; exact H
         clear H; have H := H1; clear H1
         have H' := Aside0.mk H
         clear H
         obtain ⟨Ao70, co70, eo70⟩ := Kd.S_slice HO_8.out
         subst eo70
         go_wp2
         go_loopg [151] kj50 (fun kq v151 w' => ∃ (x151_3 : Int), v151 = .int .i64 x151_3 ∧ Aside0 (laws_FnWaysOfHurwitz.l0 kq t642 t643 t644 t647 t655 t659 t647 (t647.length : Int) x151_3 = some r) ∧ Aside0 (kq ≤ kj50) ∧ Aside0 (Kd.R (Kd.int .i64) 3 w' w.heap.size (fun k_ => some k_ ≠ (v657 : Value).ownBlock ∧ some k_ ≠ (v661 : Value).ownBlock) (.slice Ao14 t642.length co14) t642) ∧ Aside0 (Kd.S (Kd.slice 3 (Kd.int .i64)) 22 w' w.heap.size (fun k_ => some k_ ≠ ((.slice Ao14 t642.length co14) : Value).ownBlock ∧ some k_ ≠ (v657 : Value).ownBlock ∧ some k_ ≠ (v661 : Value).ownBlock) (.slice Ao70 t647.length co70) t647) ∧ Aside0 (Kd.R (Kd.int .i64) 3 w' w.heap.size (fun k_ => some k_ ≠ ((.slice Ao14 t642.length co14) : Value).ownBlock ∧ some k_ ≠ (v661 : Value).ownBlock) v657 t655) ∧ Aside0 (Kd.R (Kd.int .i64) 3 w' w.heap.size (fun k_ => some k_ ≠ ((.slice Ao14 t642.length co14) : Value).ownBlock ∧ some k_ ≠ (v657 : Value).ownBlock) v661 t659) ∧ Aside0 (Kd.S (Kd.slice 3 (Kd.int .i64)) 22 w' w.heap.size (fun k_ => some k_ ≠ ((.slice Ao14 t642.length co14) : Value).ownBlock ∧ some k_ ≠ (v657 : Value).ownBlock ∧ some k_ ≠ (v661 : Value).ownBlock) (.slice Ao70 t647.length co70) t647) ∧ Aside0 (Below w.heap.size w w'))
         case atStart => exact ⟨(0), (by first | rfl | (simp; done) | (simp [*]; done)), H', ⟨Nat.le_refl _⟩, ⟨by (with_reducible repeat (first | apply Kd.R_alloc | apply Kd.R_drewN | apply Kd.R_drew)); exact HO_5.out⟩, ⟨by (with_reducible repeat (first | apply Kd.S_alloc | apply Kd.S_drewN | apply Kd.S_drew)); exact HO_8.out⟩, ⟨by (with_reducible repeat (first | apply Kd.R_alloc | apply Kd.R_drewN | apply Kd.R_drew)); exact HO_12.out⟩, ⟨by (with_reducible repeat (first | apply Kd.R_alloc | apply Kd.R_drewN | apply Kd.R_drew)); exact HO_14.out⟩, ⟨by (with_reducible repeat (first | apply Kd.S_alloc | apply Kd.S_drewN | apply Kd.S_drew)); exact HO_8.out⟩, ⟨by repeat (first | (with_reducible first | exact HB.out | apply below_alloc | apply pw_below_drewN | apply below_drew1) | exact HB.out)⟩⟩
         case round => as_aux_lemma =>
          clear H'
          try clear c1
          try clear c2
          try clear p2
          try clear c3
          try clear c4
          try clear c5
          try clear c6
          try clear p6
          try clear q6
          try clear hx6
          try clear qi6
          try clear c19
          try clear c21
          try clear c21b0
          try clear c21b1
          try clear c21b2
          try clear c23
          try clear c24
          try clear c24b0
          try clear c24b1
          try clear c24b2
          try clear c27
          try clear c27b0
          try clear c27b1
          try clear c27b2
          try clear c29
          try clear c30
          try clear c31
          try clear c32
          try clear c32b0
          try clear c32b1
          try clear c32b2
          try clear c33
          try clear c34
          try clear c35
          try clear c36
          try clear c37
          try clear c38
          try clear c49
          try clear c50
          try clear c52
          try clear c52b0
          try clear c52b1
          try clear c54
          try clear c56
          try clear c56b0
          try clear c57
          try clear c57b0
          try clear c59
          try clear c60
          try clear c60b0
          try clear c60b1
          try clear c60b2
          try clear p64
          try clear c67
          try clear p67
          try clear q67
          try clear hx67
          try clear qi67
          try clear c69
          try clear hx672_0
          try clear hx674_0
          try clear p2
          try clear p6
          try clear p64
          try clear p67
          try clear p672
          try clear p674
          try clear q6
          try clear q67
          try clear q672
          try clear q674
          obtain ⟨x151_3, rfl, HA, HK3, HO_5, HO_8, HO_12, HO_14, HO_149, HB⟩ := hrel
          cases gk with
          | zero => exact absurd HA.out (by simp [laws_FnWaysOfHurwitz.l0])
          | succ k3 =>
           have H := HA.out; clear HA
           simp only [laws_FnWaysOfHurwitz.l0] at H
           by_cases c71 : x151_3 < (t647.length : Int)
           ·as_aux_lemma =>
            rw [if_pos c71] at H
            have c71b0 : decide (x151_3 < (t647.length : Int)) = true := decide_eq_true c71
            clear c71
            by_cases c72 : 0 ≤ x151_3
            rotate_left
            ·rw [if_neg c72] at H
             exact absurd H (by simp)
            as_aux_lemma =>
            rw [if_pos c72] at H
            have c72b0 : decide (0 ≤ x151_3) = true := decide_eq_true c72
            clear c72
            by_cases c73 : x151_3 < (t647.length : Int)
            rotate_left
            ·rw [if_neg c73] at H
             exact absurd H (by simp)
            as_aux_lemma =>
            rw [if_pos c73] at H
            have c73b0 : decide (x151_3 < (t647.length : Int)) = true := decide_eq_true c73
            clear c73
            replace H := Option.bind_eq_some_iff.mp H
            obtain ⟨⟨t677, t678⟩, A740, H⟩ := H
            replace H : (if t678 = true then (if (t677 != (x151_3 == (wrap64 ((t647.length : Int) - 1)))) = true then (some false) else ((laws_vSolves.f k3 (rd_L1 t647 x151_3) t643 t644).bind fun t679 => (if t679 = true then (if x151_3 > 0 then ((laws_vSum.f k3 (rd_L1 t647 x151_3)).bind fun t680 => (if 0 ≤ (wrap64 (x151_3 - 1)) then (if (wrap64 (x151_3 - 1)) < (t647.length : Int) then ((laws_vSum.f k3 (rd_L1 t647 (wrap64 (x151_3 - 1)))).bind fun t682 => (if t680 ≥ t682 then (some false) else (laws_FnWaysOfHurwitz.l0 k3 t642 t643 t644 t647 t655 t659 t647 (t647.length : Int) (wrap64 (x151_3 + 1))))) else (none)) else (none))) else (laws_FnWaysOfHurwitz.l0 k3 t642 t643 t644 t647 t655 t659 t647 (t647.length : Int) (wrap64 (x151_3 + 1)))) else (some false)))) else (some false)) = some r := H
            have A74 := Aside0.mk A740
            clear A740
            by_cases c75 : t678 = true
            ·as_aux_lemma =>
             subst c75
             have H1 : (if (t677 != (x151_3 == (wrap64 ((t647.length : Int) - 1)))) = true then (some false) else ((laws_vSolves.f k3 (rd_L1 t647 x151_3) t643 t644).bind fun t679 => (if t679 = true then (if x151_3 > 0 then ((laws_vSum.f k3 (rd_L1 t647 x151_3)).bind fun t680 => (if 0 ≤ (wrap64 (x151_3 - 1)) then (if (wrap64 (x151_3 - 1)) < (t647.length : Int) then ((laws_vSum.f k3 (rd_L1 t647 (wrap64 (x151_3 - 1)))).bind fun t682 => (if t680 ≥ t682 then (some false) else (laws_FnWaysOfHurwitz.l0 k3 t642 t643 t644 t647 t655 t659 t647 (t647.length : Int) (wrap64 (x151_3 + 1))))) else (none)) else (none))) else (laws_FnWaysOfHurwitz.l0 k3 t642 t643 t644 t647 t655 t659 t647 (t647.length : Int) (wrap64 (x151_3 + 1)))) else (some false)))) = some r := by rw [if_pos rfl] at H; exact H
             clear H; have H := H1; clear H1
             by_cases c76 : (t677 != (x151_3 == (wrap64 ((t647.length : Int) - 1)))) = true
             ·as_aux_lemma =>
              rw [if_pos c76] at H
              have c76b0 : (t677 != (x151_3 == (wrap64 ((t647.length : Int) - 1)))) = true := c76
              (try (have c76b1 : decide (t677 = (x151_3 == (wrap64 ((t647.length : Int) - 1)))) = false := by simpa using c76))
              (try (have c76b2 : (t677 == (x151_3 == (wrap64 ((t647.length : Int) - 1)))) = false := by simpa using c76))
              (try (have c76b3 : ¬ (t677 = (x151_3 == (wrap64 ((t647.length : Int) - 1)))) := by simpa using c76))
              clear c76
              obtain rfl := Option.some.inj H
              have p676 : 0 ≤ (x151_3 : Int) := of_decide_eq_true (by first | (with_reducible assumption) | assumption)
              have q676 : x151_3 < (t647.length : Int) := of_decide_eq_true (by first | (with_reducible assumption) | assumption)
              obtain ⟨ad676, A676_0, c676_0, e676, hx676_0, hl676_0, hi676_0⟩ := at_L1 (Kd.S_reads' HO_149.out).2.2 x151_3 p676 q676
              cases e676
              obtain ⟨ce676, hce676, hMe676, hcc676⟩ := Kd.S_get HO_149.out [] x151_3 p676 (by first | exact q676 | exact of_decide_eq_true (by first | (with_reducible assumption) | assumption) | (have e_ := (Kd.S_reads' HO_149.out).1; omega))
              obtain ⟨ve676_0, rfl, ge676_0⟩ := hMe676
              have hv676_0 := hcc676 0 _ rfl
              rw [Nat.add_zero, show ((Kd.slice 3 (Kd.int .i64))).sz = 1 from rfl, Nat.mul_one] at hv676_0
              replace hv676_0 := Option.some.inj (hv676_0.symm.trans hx676_0)
              rw [hv676_0] at ge676_0
              have HL676_0 := Aside0.mk (show Kd.R (Kd.int .i64) 3 _ _ _ _ (rd_L1 t647 x151_3) from ge676_0)
              clear hv676_0 ge676_0; clear hcc676 hce676
              have HR676_0 := Aside0.mk hi676_0
              have HC676_0 := Aside0.mk hl676_0
              clear hi676_0 hl676_0; replace p676 := eq_true p676; replace q676 := eq_true q676
              try go_wp2_with (first | ((with_reducible refine gate_callee (f := 38) rfl ?_); refine goesL_ (some 160) rfl rfl Try.func38 (by kernel_rfl) rfl #[.slice A676_0 (rd_L1 t647 x151_3).length c676_0, .int .i64 t643, .int .i64 t644] rfl (by (try simp only [List.map_toArray, List.map_cons, List.map_nil]); first | done | rfl) ?_; (with_reducible refine (impl_IsFundamental.calls k3 _ _ (rd_L1 t647 x151_3) t643 t644 t677 true _ ?side1 ?side2 A74.out).mono ?_); (case side1 => repeat (first | exact (by repeat (first | (with_reducible exact HR676_0.out) | (with_reducible refine Kd.C_alloc ?_ _) | (with_reducible refine Kd.C_drewN ?_ _) | (with_reducible refine Kd.C_drew ?_) | exact HR676_0.out)) | (with_reducible refine Kd.C_alloc ?_ _) | (with_reducible refine Kd.C_drewN ?_ _) | (with_reducible refine Kd.C_drew ?_))); (case side2 => exact HC676_0.out); rintro e w77 ⟨rfl, hb⟩; refine ⟨_, rfl, ?_⟩; have n0_ := Aside0.mk (Kd.R_below (by (with_reducible repeat (first | apply Kd.R_alloc | apply Kd.R_drewN | apply Kd.R_drew)); exact HO_5.out) hb); have n1_ := Aside0.mk (Kd.S_below (by (with_reducible repeat (first | apply Kd.S_alloc | apply Kd.S_drewN | apply Kd.S_drew)); exact HO_8.out) hb); have n2_ := Aside0.mk (Kd.R_below (by (with_reducible repeat (first | apply Kd.R_alloc | apply Kd.R_drewN | apply Kd.R_drew)); exact HO_12.out) hb); have n3_ := Aside0.mk (Kd.R_below (by (with_reducible repeat (first | apply Kd.R_alloc | apply Kd.R_drewN | apply Kd.R_drew)); exact HO_14.out) hb); have n4_ := Aside0.mk (Kd.S_below (by (with_reducible repeat (first | apply Kd.S_alloc | apply Kd.S_drewN | apply Kd.S_drew)); exact HO_149.out) hb); have n5_ := Aside0.mk (Kd.R_below (by (with_reducible repeat (first | apply Kd.R_alloc | apply Kd.R_drewN | apply Kd.R_drew)); exact HL676_0.out) hb); have n6_ := Aside0.mk (Kd.C_below (by repeat (first | (with_reducible exact HR676_0.out) | (with_reducible refine Kd.C_alloc ?_ _) | (with_reducible refine Kd.C_drewN ?_ _) | (with_reducible refine Kd.C_drew ?_) | exact HR676_0.out)) hb); have n7_ := Aside0.mk (below_step (by repeat (first | (with_reducible first | exact HB.out | apply below_alloc | apply pw_below_drewN | apply below_drew1) | exact HB.out)) hb); clear HO_5; clear HO_8; clear HO_12; clear HO_14; clear HO_149; clear HL676_0; clear HR676_0; clear HB; have HO_5 := n0_; have HO_8 := n1_; have HO_12 := n2_; have HO_14 := n3_; have HO_149 := n4_; have HL676_0 := n5_; have HR676_0 := n6_; have HB := n7_; clear n0_ n1_ n2_ n3_ n4_ n5_ n6_ n7_; (try clear hb); (try clear hb2); (try clear hk); (try clear hi)))
              have n0_ := Aside0.mk (Kd.R_drew HO_5.out)
              have n1_ := Aside0.mk (Kd.S_drew HO_8.out)
              have n2_ := Aside0.mk (Kd.R_drew HO_12.out)
              have n3_ := Aside0.mk (Kd.R_drew HO_14.out)
              have n4_ := Aside0.mk (Kd.S_drew HO_149.out)
              have n5_ := Aside0.mk (Kd.R_drew HL676_0.out)
              have n6_ := Aside0.mk (Kd.C_drew HR676_0.out)
              have n7_ := Aside0.mk (below_drew1 HB.out)
              clear HO_5; clear HO_8; clear HO_12; clear HO_14; clear HO_149; clear HL676_0; clear HR676_0; clear HB; have HO_5 := n0_; have HO_8 := n1_; have HO_12 := n2_; have HO_14 := n3_; have HO_149 := n4_; have HL676_0 := n5_; have HR676_0 := n6_; have HB := n7_; clear n0_ n1_ n2_ n3_ n4_ n5_ n6_ n7_
              refine start_ (n := 33) (S := fun w' => True) (ds := []) b0WOH (by kernel_rfl) rfl rfl trivial (fun hHeld => ?_); refine with_tabW laws_FnWaysOfHurwitz.tab20 laws_FnWaysOfHurwitz.bits20 (fun HT_ HW_ => ?_)
              generalize w77.drew = w78 at HO_5 HO_8 HO_12 HO_14 HO_149 HL676_0 HR676_0 HB hHeld ⊢
              refine pure_ (i := 0) (N := some 163) (v := ?_) (a' := ?_) b1WOH rfl rfl (any_of HT_.out (by kernel_rfl)) (fun _ _ _ h => h) (Or.inl ⟨by rfl, ?_⟩) ?_ ?_
              rotate_left; (intro w'; go_simp; with_reducible rfl); rotate_left; (simp only [Act.put, List.setIfInBounds_toArray, List.set_cons_zero, List.set_cons_succ, i64_w]; rfl)
              refine pure_ (i := 1) (N := some 164) (v := ?_) (a' := ?_) b2WOH rfl rfl (any_of HT_.out (by kernel_rfl)) (fun _ _ _ h => h) (Or.inl ⟨by rfl, ?_⟩) ?_ ?_
              rotate_left; (intro w'; go_simp; with_reducible rfl); rotate_left; (simp only [Act.put, List.setIfInBounds_toArray, List.set_cons_zero, List.set_cons_succ, i64_w]; rfl)
              refine pure_ (i := 2) (N := some 165) (v := ?_) (a' := ?_) b3WOH rfl rfl (any_of HT_.out (by kernel_rfl)) (fun _ _ _ h => h) (Or.inl ⟨by rfl, ?_⟩) ?_ ?_
              rotate_left; (intro w'; go_simp; with_reducible rfl); rotate_left; (simp only [Act.put, List.setIfInBounds_toArray, List.set_cons_zero, List.set_cons_succ, i64_w]; rfl)
              refine pure_ (i := 3) (N := some 166) (v := ?_) (a' := ?_) b4WOH rfl rfl (any_of HT_.out (by kernel_rfl)) (fun _ _ _ h => h) (Or.inl ⟨by rfl, ?_⟩) ?_ ?_
              rotate_left; (intro w'; go_simp; with_reducible rfl); rotate_left; (simp only [Act.put, List.setIfInBounds_toArray, List.set_cons_zero, List.set_cons_succ, i64_w]; rfl)
              refine pure_ (i := 4) (N := some 167) (v := ?_) (a' := ?_) b5WOH rfl rfl (any_of HT_.out (by kernel_rfl)) (fun _ _ _ h => h) (Or.inl ⟨by rfl, ?_⟩) ?_ ?_
              rotate_left; (intro w'; go_simp; with_reducible rfl); rotate_left; (simp only [Act.put, List.setIfInBounds_toArray, List.set_cons_zero, List.set_cons_succ, i64_w]; rfl)
              refine pure_ (i := 5) (N := some 168) (v := ?_) (a' := ?_) b6WOH rfl rfl (any_of HT_.out (by kernel_rfl)) (fun _ _ _ h => h) (Or.inl ⟨by rfl, ?_⟩) ?_ ?_
              rotate_left; (intro w'; go_simp; with_reducible rfl); rotate_left; (simp only [Act.put, List.setIfInBounds_toArray, List.set_cons_zero, List.set_cons_succ, i64_w]; rfl)
              refine pure_ (i := 6) (N := some 169) (v := ?_) (a' := ?_) b7WOH rfl rfl (any_of HT_.out (by kernel_rfl)) (fun _ _ _ h => h) (Or.inl ⟨by rfl, ?_⟩) ?_ ?_
              rotate_left; (intro w'; go_simp; with_reducible rfl); rotate_left; (simp only [Act.put, List.setIfInBounds_toArray, List.set_cons_zero, List.set_cons_succ, i64_w]; rfl)
              refine pure_ (i := 7) (N := some 170) (v := ?_) (a' := ?_) b8WOH rfl rfl (any_of HT_.out (by kernel_rfl)) (fun _ _ _ h => h) (Or.inl ⟨by rfl, ?_⟩) ?_ ?_
              rotate_left; (intro w'; go_simp; with_reducible rfl); rotate_left; (simp only [Act.put, List.setIfInBounds_toArray, List.set_cons_zero, List.set_cons_succ, i64_w]; rfl)
              refine pure_ (i := 8) (N := some 171) (v := ?_) (a' := ?_) b9WOH rfl rfl (any_of HT_.out (by kernel_rfl)) (fun _ _ _ h => h) (Or.inl ⟨by rfl, ?_⟩) ?_ ?_
              rotate_left; (intro w'; go_simp; with_reducible rfl); rotate_left; (simp only [Act.put, List.setIfInBounds_toArray, List.set_cons_zero, List.set_cons_succ, i64_w]; rfl)
              refine pure_ (i := 9) (N := some 172) (v := ?_) (a' := ?_) b10WOH rfl rfl (any_of HT_.out (by kernel_rfl)) (fun _ _ _ h => h) (Or.inl ⟨by rfl, ?_⟩) ?_ ?_
              rotate_left; (intro w'; go_simp; with_reducible rfl); rotate_left; (simp only [Act.put, List.setIfInBounds_toArray, List.set_cons_zero, List.set_cons_succ, i64_w]; rfl)
              refine pure_ (i := 10) (N := some 173) (v := ?_) (a' := ?_) b11WOH rfl rfl (any_of HT_.out (by kernel_rfl)) (fun _ _ _ h => h) (Or.inl ⟨by rfl, ?_⟩) ?_ ?_
              rotate_left; (intro w'; go_simp; with_reducible rfl); rotate_left; (simp only [Act.put, List.setIfInBounds_toArray, List.set_cons_zero, List.set_cons_succ, i64_w]; rfl)
              refine pure_ (i := 11) (N := some 174) (v := ?_) (a' := ?_) b12WOH rfl rfl (any_of HT_.out (by kernel_rfl)) (fun _ _ _ h => h) (Or.inl ⟨by rfl, ?_⟩) ?_ ?_
              rotate_left; (intro w'; go_simp; with_reducible rfl); rotate_left; (simp only [Act.put, List.setIfInBounds_toArray, List.set_cons_zero, List.set_cons_succ, i64_w]; rfl)
              refine pure_ (i := 12) (N := some 175) (v := undef) (a' := ?_) b13WOH rfl rfl (any_of HT_.out (by kernel_rfl)) (fun _ _ _ h => h) (Or.inr ⟨by rfl, rfl⟩) ?_ ?_
              rotate_left
              ·simp only [Act.put, List.setIfInBounds_toArray, List.set_cons_zero, List.set_cons_succ, i64_w]
               rfl
              refine pure_ (i := 13) (N := some 176) (v := undef) (a' := ?_) b14WOH rfl rfl (any_of HT_.out (by kernel_rfl)) (fun _ _ _ h => h) (Or.inr ⟨by rfl, rfl⟩) ?_ ?_
              rotate_left
              ·simp only [Act.put, List.setIfInBounds_toArray, List.set_cons_zero, List.set_cons_succ, i64_w]
               rfl
              refine pure_ (i := 14) (N := some 177) (v := undef) (a' := ?_) b15WOH rfl rfl (any_of HT_.out (by kernel_rfl)) (fun _ _ _ h => h) (Or.inr ⟨by rfl, rfl⟩) ?_ ?_
              rotate_left
              ·simp only [Act.put, List.setIfInBounds_toArray, List.set_cons_zero, List.set_cons_succ, i64_w]
               rfl
              refine pure_ (i := 15) (N := some 178) (v := undef) (a' := ?_) b16WOH rfl rfl (any_of HT_.out (by kernel_rfl)) (fun _ _ _ h => h) (Or.inr ⟨by rfl, rfl⟩) ?_ ?_
              rotate_left
              ·simp only [Act.put, List.setIfInBounds_toArray, List.set_cons_zero, List.set_cons_succ, i64_w]
               rfl
              refine pure_ (i := 16) (N := some 179) (v := undef) (a' := ?_) b17WOH rfl rfl (any_of HT_.out (by kernel_rfl)) (fun _ _ _ h => h) (Or.inr ⟨by rfl, rfl⟩) ?_ ?_
              rotate_left
              ·simp only [Act.put, List.setIfInBounds_toArray, List.set_cons_zero, List.set_cons_succ, i64_w]
               rfl
              refine pure_ (i := 17) (N := some 180) (v := ?_) (a' := ?_) b18WOH rfl rfl (any_of HT_.out (by kernel_rfl)) (fun _ _ _ h => h) (Or.inl ⟨by rfl, ?_⟩) ?_ ?_
              rotate_left; (intro w'; go_simp; with_reducible rfl); rotate_left; (simp only [Act.put, List.setIfInBounds_toArray, List.set_cons_zero, List.set_cons_succ, i64_w]; rfl)
              refine pure_ (i := 18) (N := some 181) (v := ?_) (a' := ?_) b19WOH rfl rfl (any_of HT_.out (by kernel_rfl)) (fun _ _ _ h => h) (Or.inl ⟨by rfl, ?_⟩) ?_ ?_
              rotate_left; (intro w'; go_simp; with_reducible rfl); rotate_left; (simp only [Act.put, List.setIfInBounds_toArray, List.set_cons_zero, List.set_cons_succ, i64_w]; rfl)
              refine pure_ (i := 19) (N := some 182) (v := undef) (a' := ?_) b20WOH rfl rfl (any_of HT_.out (by kernel_rfl)) (fun _ _ _ h => h) (Or.inr ⟨by rfl, rfl⟩) ?_ ?_
              rotate_left
              ·simp only [Act.put, List.setIfInBounds_toArray, List.set_cons_zero, List.set_cons_succ, i64_w]
               rfl
              refine pure_ (i := 20) (N := some 183) (v := undef) (a' := ?_) b21WOH rfl rfl (any_of HT_.out (by kernel_rfl)) (fun _ _ _ h => h) (Or.inr ⟨by rfl, rfl⟩) ?_ ?_
              rotate_left
              ·simp only [Act.put, List.setIfInBounds_toArray, List.set_cons_zero, List.set_cons_succ, i64_w]
               rfl
              refine pure_ (i := 21) (N := some 184) (v := undef) (a' := ?_) b22WOH rfl rfl (any_of HT_.out (by kernel_rfl)) (fun _ _ _ h => h) (Or.inr ⟨by rfl, rfl⟩) ?_ ?_
              rotate_left
              ·simp only [Act.put, List.setIfInBounds_toArray, List.set_cons_zero, List.set_cons_succ, i64_w]
               rfl
              refine pure_ (i := 22) (N := some 185) (v := undef) (a' := ?_) b23WOH rfl rfl (any_of HT_.out (by kernel_rfl)) (fun _ _ _ h => h) (Or.inr ⟨by rfl, rfl⟩) ?_ ?_
              rotate_left
              ·simp only [Act.put, List.setIfInBounds_toArray, List.set_cons_zero, List.set_cons_succ, i64_w]
               rfl
              refine pure_ (i := 23) (N := some 186) (v := undef) (a' := ?_) b24WOH rfl rfl (any_of HT_.out (by kernel_rfl)) (fun _ _ _ h => h) (Or.inr ⟨by rfl, rfl⟩) ?_ ?_
              rotate_left
              ·simp only [Act.put, List.setIfInBounds_toArray, List.set_cons_zero, List.set_cons_succ, i64_w]
               rfl
              refine pure_ (i := 24) (N := some 187) (v := undef) (a' := ?_) b25WOH rfl rfl (any_of HT_.out (by kernel_rfl)) (fun _ _ _ h => h) (Or.inr ⟨by rfl, rfl⟩) ?_ ?_
              rotate_left
              ·simp only [Act.put, List.setIfInBounds_toArray, List.set_cons_zero, List.set_cons_succ, i64_w]
               rfl
              refine pure_ (i := 25) (N := some 188) (v := undef) (a' := ?_) b26WOH rfl rfl (any_of HT_.out (by kernel_rfl)) (fun _ _ _ h => h) (Or.inr ⟨by rfl, rfl⟩) ?_ ?_
              rotate_left
              ·simp only [Act.put, List.setIfInBounds_toArray, List.set_cons_zero, List.set_cons_succ, i64_w]
               rfl
              refine pure_ (i := 26) (N := some 189) (v := undef) (a' := ?_) b27WOH rfl rfl (any_of HT_.out (by kernel_rfl)) (fun _ _ _ h => h) (Or.inr ⟨by rfl, rfl⟩) ?_ ?_
              rotate_left
              ·simp only [Act.put, List.setIfInBounds_toArray, List.set_cons_zero, List.set_cons_succ, i64_w]
               rfl
              refine pure_ (i := 27) (N := some 190) (v := undef) (a' := ?_) b28WOH rfl rfl (any_of HT_.out (by kernel_rfl)) (fun _ _ _ h => h) (Or.inr ⟨by rfl, rfl⟩) ?_ ?_
              rotate_left
              ·simp only [Act.put, List.setIfInBounds_toArray, List.set_cons_zero, List.set_cons_succ, i64_w]
               rfl
              refine pure_ (i := 28) (N := some 191) (v := undef) (a' := ?_) b29WOH rfl rfl (any_of HT_.out (by kernel_rfl)) (fun _ _ _ h => h) (Or.inr ⟨by rfl, rfl⟩) ?_ ?_
              rotate_left
              ·simp only [Act.put, List.setIfInBounds_toArray, List.set_cons_zero, List.set_cons_succ, i64_w]
               rfl
              refine pure_ (i := 29) (N := some 192) (v := undef) (a' := ?_) b30WOH rfl rfl (any_of HT_.out (by kernel_rfl)) (fun _ _ _ h => h) (Or.inr ⟨by rfl, rfl⟩) ?_ ?_
              rotate_left
              ·simp only [Act.put, List.setIfInBounds_toArray, List.set_cons_zero, List.set_cons_succ, i64_w]
               rfl
              refine pure_ (i := 30) (N := some 193) (v := undef) (a' := ?_) b31WOH rfl rfl (any_of HT_.out (by kernel_rfl)) (fun _ _ _ h => h) (Or.inr ⟨by rfl, rfl⟩) ?_ ?_
              rotate_left
              ·simp only [Act.put, List.setIfInBounds_toArray, List.set_cons_zero, List.set_cons_succ, i64_w]
               rfl
              refine pure_ (i := 31) (N := some 194) (v := undef) (a' := ?_) b32WOH rfl rfl (any_of HT_.out (by kernel_rfl)) (fun _ _ _ h => h) (Or.inr ⟨by rfl, rfl⟩) ?_ ?_
              rotate_left
              ·simp only [Act.put, List.setIfInBounds_toArray, List.set_cons_zero, List.set_cons_succ, i64_w]
               rfl
              refine pure_ (i := 32) (N := some 195) (v := ?_) (a' := ?_) b33WOH rfl rfl (any_of HT_.out (by kernel_rfl)) (fun _ _ _ h => h) (Or.inl ⟨by rfl, ?_⟩) ?_ ?_
              rotate_left; (intro w'; go_simp; with_reducible rfl); rotate_left; (simp only [Act.put, List.setIfInBounds_toArray, List.set_cons_zero, List.set_cons_succ, i64_w]; rfl)
              refine done_ (done_of HT_.out (by kernel_rfl)) ?_
              try go_wp2
              go_ret
              exact ⟨by first | rfl | (simp [errW_none, errW_some] <;> rfl) | (simp [*, errW_none, errW_some] <;> rfl), by repeat (first | (with_reducible first | exact HB.out | apply below_alloc | apply pw_below_drewN | apply below_drew1) | exact HB.out)⟩
             ·as_aux_lemma =>
              rw [if_neg c76] at H
              have c76b0 : (t677 != (x151_3 == (wrap64 ((t647.length : Int) - 1)))) = false := by simpa using c76
              (try (have c76b1 : decide (t677 = (x151_3 == (wrap64 ((t647.length : Int) - 1)))) = true := by simpa using c76))
              (try (have c76b2 : (t677 == (x151_3 == (wrap64 ((t647.length : Int) - 1)))) = true := by simpa using c76))
              clear c76
              replace H := Option.bind_eq_some_iff.mp H
              obtain ⟨t679, A790, H⟩ := H
              replace H : (if t679 = true then (if x151_3 > 0 then ((laws_vSum.f k3 (rd_L1 t647 x151_3)).bind fun t680 => (if 0 ≤ (wrap64 (x151_3 - 1)) then (if (wrap64 (x151_3 - 1)) < (t647.length : Int) then ((laws_vSum.f k3 (rd_L1 t647 (wrap64 (x151_3 - 1)))).bind fun t682 => (if t680 ≥ t682 then (some false) else (laws_FnWaysOfHurwitz.l0 k3 t642 t643 t644 t647 t655 t659 t647 (t647.length : Int) (wrap64 (x151_3 + 1))))) else (none)) else (none))) else (laws_FnWaysOfHurwitz.l0 k3 t642 t643 t644 t647 t655 t659 t647 (t647.length : Int) (wrap64 (x151_3 + 1)))) else (some false)) = some r := H
              have A79 := Aside0.mk A790
              clear A790
              by_cases c80 : t679 = true
              ·as_aux_lemma =>
               subst c80
               have H1 : (if x151_3 > 0 then ((laws_vSum.f k3 (rd_L1 t647 x151_3)).bind fun t680 => (if 0 ≤ (wrap64 (x151_3 - 1)) then (if (wrap64 (x151_3 - 1)) < (t647.length : Int) then ((laws_vSum.f k3 (rd_L1 t647 (wrap64 (x151_3 - 1)))).bind fun t682 => (if t680 ≥ t682 then (some false) else (laws_FnWaysOfHurwitz.l0 k3 t642 t643 t644 t647 t655 t659 t647 (t647.length : Int) (wrap64 (x151_3 + 1))))) else (none)) else (none))) else (laws_FnWaysOfHurwitz.l0 k3 t642 t643 t644 t647 t655 t659 t647 (t647.length : Int) (wrap64 (x151_3 + 1)))) = some r := by rw [if_pos rfl] at H; exact H
               clear H; have H := H1; clear H1
               by_cases c81 : x151_3 > 0
               ·as_aux_lemma =>
                rw [if_pos c81] at H
                have c81b0 : decide (0 < x151_3) = true := decide_eq_true c81
                clear c81
                replace H := Option.bind_eq_some_iff.mp H
                obtain ⟨t680, A820, H⟩ := H
                replace H : (if 0 ≤ (wrap64 (x151_3 - 1)) then (if (wrap64 (x151_3 - 1)) < (t647.length : Int) then ((laws_vSum.f k3 (rd_L1 t647 (wrap64 (x151_3 - 1)))).bind fun t682 => (if t680 ≥ t682 then (some false) else (laws_FnWaysOfHurwitz.l0 k3 t642 t643 t644 t647 t655 t659 t647 (t647.length : Int) (wrap64 (x151_3 + 1))))) else (none)) else (none)) = some r := H
                have A82 := Aside0.mk A820
                clear A820
                obtain ⟨ji83, hji83⟩ : ∃ j_ : Int, (wrap64 (x151_3 - 1)) = j_ := ⟨_, rfl⟩
                replace H : (if 0 ≤ (ji83) then (if (ji83) < (t647.length : Int) then ((laws_vSum.f k3 (rd_L1 t647 (ji83))).bind fun t682 => (if t680 ≥ t682 then (some false) else (laws_FnWaysOfHurwitz.l0 k3 t642 t643 t644 t647 t655 t659 t647 (t647.length : Int) (wrap64 (x151_3 + 1))))) else (none)) else (none)) = some r := by first | (rw [hji83] at H; exact H) | (simp only [hji83] at H ⊢; exact H)
                (try rw [hji83] at A74)
                (try rw [hji83] at A79)
                (try rw [hji83] at A82)
                have hji83w : (IntKind.i64.wrap (x151_3 - 1)) = ji83 := (i64_w _).trans hji83
                by_cases c84 : 0 ≤ (ji83)
                rotate_left
                ·rw [if_neg c84] at H
                 exact absurd H (by simp)
                as_aux_lemma =>
                rw [if_pos c84] at H
                have c84b0 : decide (0 ≤ (ji83)) = true := decide_eq_true c84
                clear c84
                by_cases c85 : (ji83) < (t647.length : Int)
                rotate_left
                ·rw [if_neg c85] at H
                 exact absurd H (by simp)
                as_aux_lemma =>
                rw [if_pos c85] at H
                have c85b0 : decide ((ji83) < (t647.length : Int)) = true := decide_eq_true c85
                clear c85
                replace H := Option.bind_eq_some_iff.mp H
                obtain ⟨t682, A860, H⟩ := H
                replace H : (if t680 ≥ t682 then (some false) else (laws_FnWaysOfHurwitz.l0 k3 t642 t643 t644 t647 t655 t659 t647 (t647.length : Int) (wrap64 (x151_3 + 1)))) = some r := H
                have A86 := Aside0.mk A860
                clear A860
                by_cases c87 : t680 ≥ t682
                ·as_aux_lemma =>
                 rw [if_pos c87] at H
                 have c87b0 : decide (t682 ≤ t680) = true := decide_eq_true c87
                 clear c87
                 obtain rfl := Option.some.inj H
                 have p676 : 0 ≤ (x151_3 : Int) := of_decide_eq_true (by first | (with_reducible assumption) | assumption)
                 have q676 : x151_3 < (t647.length : Int) := of_decide_eq_true (by first | (with_reducible assumption) | assumption)
                 obtain ⟨ad676, A676_0, c676_0, e676, hx676_0, hl676_0, hi676_0⟩ := at_L1 (Kd.S_reads' HO_149.out).2.2 x151_3 p676 q676
                 cases e676
                 obtain ⟨ce676, hce676, hMe676, hcc676⟩ := Kd.S_get HO_149.out [] x151_3 p676 (by first | exact q676 | exact of_decide_eq_true (by first | (with_reducible assumption) | assumption) | (have e_ := (Kd.S_reads' HO_149.out).1; omega))
                 obtain ⟨ve676_0, rfl, ge676_0⟩ := hMe676
                 have hv676_0 := hcc676 0 _ rfl
                 rw [Nat.add_zero, show ((Kd.slice 3 (Kd.int .i64))).sz = 1 from rfl, Nat.mul_one] at hv676_0
                 replace hv676_0 := Option.some.inj (hv676_0.symm.trans hx676_0)
                 rw [hv676_0] at ge676_0
                 have HL676_0 := Aside0.mk (show Kd.R (Kd.int .i64) 3 _ _ _ _ (rd_L1 t647 x151_3) from ge676_0)
                 clear hv676_0 ge676_0; clear hcc676 hce676
                 have HR676_0 := Aside0.mk hi676_0
                 have HC676_0 := Aside0.mk hl676_0
                 clear hi676_0 hl676_0; replace p676 := eq_true p676; replace q676 := eq_true q676
                 try go_wp2_with (first | ((with_reducible refine gate_callee (f := 38) rfl ?_); refine goesL_ (some 160) rfl rfl Try.func38 (by kernel_rfl) rfl #[.slice A676_0 (rd_L1 t647 x151_3).length c676_0, .int .i64 t643, .int .i64 t644] rfl (by (try simp only [List.map_toArray, List.map_cons, List.map_nil]); first | done | rfl) ?_; (with_reducible refine (impl_IsFundamental.calls k3 _ _ (rd_L1 t647 x151_3) t643 t644 t677 true _ ?side1 ?side2 A74.out).mono ?_); (case side1 => repeat (first | exact (by repeat (first | (with_reducible exact HR676_0.out) | (with_reducible refine Kd.C_alloc ?_ _) | (with_reducible refine Kd.C_drewN ?_ _) | (with_reducible refine Kd.C_drew ?_) | exact HR676_0.out)) | (with_reducible refine Kd.C_alloc ?_ _) | (with_reducible refine Kd.C_drewN ?_ _) | (with_reducible refine Kd.C_drew ?_))); (case side2 => exact HC676_0.out); rintro e w88 ⟨rfl, hb⟩; refine ⟨_, rfl, ?_⟩; have n0_ := Aside0.mk (Kd.R_below (by (with_reducible repeat (first | apply Kd.R_alloc | apply Kd.R_drewN | apply Kd.R_drew)); exact HO_5.out) hb); have n1_ := Aside0.mk (Kd.S_below (by (with_reducible repeat (first | apply Kd.S_alloc | apply Kd.S_drewN | apply Kd.S_drew)); exact HO_8.out) hb); have n2_ := Aside0.mk (Kd.R_below (by (with_reducible repeat (first | apply Kd.R_alloc | apply Kd.R_drewN | apply Kd.R_drew)); exact HO_12.out) hb); have n3_ := Aside0.mk (Kd.R_below (by (with_reducible repeat (first | apply Kd.R_alloc | apply Kd.R_drewN | apply Kd.R_drew)); exact HO_14.out) hb); have n4_ := Aside0.mk (Kd.S_below (by (with_reducible repeat (first | apply Kd.S_alloc | apply Kd.S_drewN | apply Kd.S_drew)); exact HO_149.out) hb); have n5_ := Aside0.mk (Kd.R_below (by (with_reducible repeat (first | apply Kd.R_alloc | apply Kd.R_drewN | apply Kd.R_drew)); exact HL676_0.out) hb); have n6_ := Aside0.mk (Kd.C_below (by repeat (first | (with_reducible exact HR676_0.out) | (with_reducible refine Kd.C_alloc ?_ _) | (with_reducible refine Kd.C_drewN ?_ _) | (with_reducible refine Kd.C_drew ?_) | exact HR676_0.out)) hb); have n7_ := Aside0.mk (below_step (by repeat (first | (with_reducible first | exact HB.out | apply below_alloc | apply pw_below_drewN | apply below_drew1) | exact HB.out)) hb); clear HO_5; clear HO_8; clear HO_12; clear HO_14; clear HO_149; clear HL676_0; clear HR676_0; clear HB; have HO_5 := n0_; have HO_8 := n1_; have HO_12 := n2_; have HO_14 := n3_; have HO_149 := n4_; have HL676_0 := n5_; have HR676_0 := n6_; have HB := n7_; clear n0_ n1_ n2_ n3_ n4_ n5_ n6_ n7_; (try clear hb); (try clear hb2); (try clear hk); (try clear hi)))
                 have n0_ := Aside0.mk (Kd.R_drew HO_5.out)
                 have n1_ := Aside0.mk (Kd.S_drew HO_8.out)
                 have n2_ := Aside0.mk (Kd.R_drew HO_12.out)
                 have n3_ := Aside0.mk (Kd.R_drew HO_14.out)
                 have n4_ := Aside0.mk (Kd.S_drew HO_149.out)
                 have n5_ := Aside0.mk (Kd.R_drew HL676_0.out)
                 have n6_ := Aside0.mk (Kd.C_drew HR676_0.out)
                 have n7_ := Aside0.mk (below_drew1 HB.out)
                 clear HO_5; clear HO_8; clear HO_12; clear HO_14; clear HO_149; clear HL676_0; clear HR676_0; clear HB; have HO_5 := n0_; have HO_8 := n1_; have HO_12 := n2_; have HO_14 := n3_; have HO_149 := n4_; have HL676_0 := n5_; have HR676_0 := n6_; have HB := n7_; clear n0_ n1_ n2_ n3_ n4_ n5_ n6_ n7_
                 have p681 : 0 ≤ ((ji83) : Int) := of_decide_eq_true (by first | (with_reducible assumption) | assumption)
                 have q681 : (ji83) < (t647.length : Int) := of_decide_eq_true (by first | (with_reducible assumption) | assumption)
                 obtain ⟨ad681, A681_0, c681_0, e681, hx681_0, hl681_0, hi681_0⟩ := at_L1 (Kd.S_reads' HO_8.out).2.2 (ji83) p681 q681
                 obtain rfl : ad676 = ad681 := (by injection e681)
                 obtain ⟨ce681, hce681, hMe681, hcc681⟩ := Kd.S_get HO_8.out [] (ji83) p681 (by first | exact q681 | exact of_decide_eq_true (by first | (with_reducible assumption) | assumption) | (have e_ := (Kd.S_reads' HO_8.out).1; omega))
                 obtain ⟨ve681_0, rfl, ge681_0⟩ := hMe681
                 have hv681_0 := hcc681 0 _ rfl
                 rw [Nat.add_zero, show ((Kd.slice 3 (Kd.int .i64))).sz = 1 from rfl, Nat.mul_one] at hv681_0
                 replace hv681_0 := Option.some.inj (hv681_0.symm.trans hx681_0)
                 rw [hv681_0] at ge681_0
                 have HL681_0 := Aside0.mk (show Kd.R (Kd.int .i64) 3 _ _ _ _ (rd_L1 t647 (ji83)) from ge681_0)
                 clear hv681_0 ge681_0; clear hcc681 hce681
                 have HR681_0 := Aside0.mk hi681_0
                 have HC681_0 := Aside0.mk hl681_0
                 clear hi681_0 hl681_0; replace p681 := eq_true p681; replace q681 := eq_true q681
                 refine start_ (n := 33) (S := fun w' => w'.cell? (ad676.add ((ji83)).toNat) = some (.slice A681_0 (rd_L1 t647 (ji83)).length c681_0)) (ds := []) b0WOH (by kernel_rfl) rfl rfl (hx681_0) (fun hHeld => ?_); refine with_tabW laws_FnWaysOfHurwitz.tab20 laws_FnWaysOfHurwitz.bits20 (fun HT_ HW_ => ?_)
                 generalize w88.drew = w89 at HO_5 HO_8 HO_12 HO_14 HO_149 HL676_0 HR676_0 HB HL681_0 HR681_0 hx681_0 hHeld ⊢
                 refine pure_ (i := 0) (N := some 163) (v := ?_) (a' := ?_) b1WOH rfl rfl (any_of HT_.out (by kernel_rfl)) (fun _ _ _ h => h) (Or.inl ⟨by rfl, ?_⟩) ?_ ?_
                 rotate_left; (intro w'; go_simp; with_reducible rfl); rotate_left; (simp only [Act.put, List.setIfInBounds_toArray, List.set_cons_zero, List.set_cons_succ, i64_w]; rfl)
                 refine pure_ (i := 1) (N := some 164) (v := ?_) (a' := ?_) b2WOH rfl rfl (any_of HT_.out (by kernel_rfl)) (fun _ _ _ h => h) (Or.inl ⟨by rfl, ?_⟩) ?_ ?_
                 rotate_left; (intro w'; go_simp; with_reducible rfl); rotate_left; (simp only [Act.put, List.setIfInBounds_toArray, List.set_cons_zero, List.set_cons_succ, i64_w]; rfl)
                 refine pure_ (i := 2) (N := some 165) (v := ?_) (a' := ?_) b3WOH rfl rfl (any_of HT_.out (by kernel_rfl)) (fun _ _ _ h => h) (Or.inl ⟨by rfl, ?_⟩) ?_ ?_
                 rotate_left; (intro w'; go_simp; with_reducible rfl); rotate_left; (simp only [Act.put, List.setIfInBounds_toArray, List.set_cons_zero, List.set_cons_succ, i64_w]; rfl)
                 refine pure_ (i := 3) (N := some 166) (v := ?_) (a' := ?_) b4WOH rfl rfl (any_of HT_.out (by kernel_rfl)) (fun _ _ _ h => h) (Or.inl ⟨by rfl, ?_⟩) ?_ ?_
                 rotate_left; (intro w'; go_simp; with_reducible rfl); rotate_left; (simp only [Act.put, List.setIfInBounds_toArray, List.set_cons_zero, List.set_cons_succ, i64_w]; rfl)
                 refine pure_ (i := 4) (N := some 167) (v := ?_) (a' := ?_) b5WOH rfl rfl (any_of HT_.out (by kernel_rfl)) (fun _ _ _ h => h) (Or.inl ⟨by rfl, ?_⟩) ?_ ?_
                 rotate_left; (intro w'; go_simp; with_reducible rfl); rotate_left; (simp only [Act.put, List.setIfInBounds_toArray, List.set_cons_zero, List.set_cons_succ, i64_w]; rfl)
                 refine pure_ (i := 5) (N := some 168) (v := ?_) (a' := ?_) b6WOH rfl rfl (any_of HT_.out (by kernel_rfl)) (fun _ _ _ h => h) (Or.inl ⟨by rfl, ?_⟩) ?_ ?_
                 rotate_left; (intro w'; go_simp; with_reducible rfl); rotate_left; (simp only [Act.put, List.setIfInBounds_toArray, List.set_cons_zero, List.set_cons_succ, i64_w]; rfl)
                 refine pure_ (i := 6) (N := some 169) (v := ?_) (a' := ?_) b7WOH rfl rfl (any_of HT_.out (by kernel_rfl)) (fun _ _ _ h => h) (Or.inl ⟨by rfl, ?_⟩) ?_ ?_
                 rotate_left; (intro w'; go_simp; with_reducible rfl); rotate_left; (simp only [Act.put, List.setIfInBounds_toArray, List.set_cons_zero, List.set_cons_succ, i64_w]; rfl)
                 refine pure_ (i := 7) (N := some 170) (v := ?_) (a' := ?_) b8WOH rfl rfl (any_of HT_.out (by kernel_rfl)) (fun _ _ _ h => h) (Or.inl ⟨by rfl, ?_⟩) ?_ ?_
                 rotate_left; (intro w'; go_simp; with_reducible rfl); rotate_left; (simp only [Act.put, List.setIfInBounds_toArray, List.set_cons_zero, List.set_cons_succ, i64_w]; rfl)
                 refine pure_ (i := 8) (N := some 171) (v := ?_) (a' := ?_) b9WOH rfl rfl (any_of HT_.out (by kernel_rfl)) (fun _ _ _ h => h) (Or.inl ⟨by rfl, ?_⟩) ?_ ?_
                 rotate_left; (intro w'; go_simp; with_reducible rfl); rotate_left; (simp only [Act.put, List.setIfInBounds_toArray, List.set_cons_zero, List.set_cons_succ, i64_w]; rfl)
                 refine pure_ (i := 9) (N := some 172) (v := ?_) (a' := ?_) b10WOH rfl rfl (any_of HT_.out (by kernel_rfl)) (fun _ _ _ h => h) (Or.inl ⟨by rfl, ?_⟩) ?_ ?_
                 rotate_left; (intro w'; go_simp; with_reducible rfl); rotate_left; (simp only [Act.put, List.setIfInBounds_toArray, List.set_cons_zero, List.set_cons_succ, i64_w]; rfl)
                 refine pure_ (i := 10) (N := some 173) (v := ?_) (a' := ?_) b11WOH rfl rfl (any_of HT_.out (by kernel_rfl)) (fun _ _ _ h => h) (Or.inl ⟨by rfl, ?_⟩) ?_ ?_
                 rotate_left; (intro w'; go_simp; with_reducible rfl); rotate_left; (simp only [Act.put, List.setIfInBounds_toArray, List.set_cons_zero, List.set_cons_succ, i64_w]; rfl)
                 refine pure_ (i := 11) (N := some 174) (v := ?_) (a' := ?_) b12WOH rfl rfl (any_of HT_.out (by kernel_rfl)) (fun _ _ _ h => h) (Or.inl ⟨by rfl, ?_⟩) ?_ ?_
                 rotate_left; (intro w'; go_simp; with_reducible rfl); rotate_left; (simp only [Act.put, List.setIfInBounds_toArray, List.set_cons_zero, List.set_cons_succ, i64_w]; rfl)
                 refine pure_ (i := 12) (N := some 175) (v := ?_) (a' := ?_) b13WOH rfl rfl (any_of HT_.out (by kernel_rfl)) (fun _ _ _ h => h) (Or.inl ⟨by rfl, ?_⟩) ?_ ?_
                 rotate_left; (intro w'; go_simp; with_reducible rfl); rotate_left; (simp only [Act.put, List.setIfInBounds_toArray, List.set_cons_zero, List.set_cons_succ, i64_w]; rfl)
                 refine pure_ (i := 13) (N := some 176) (v := ?_) (a' := ?_) b14WOH rfl rfl (any_of HT_.out (by kernel_rfl)) (fun _ _ _ h => h) (Or.inl ⟨by rfl, ?_⟩) ?_ ?_
                 rotate_left; (intro w'; go_simp; with_reducible rfl); rotate_left; (simp only [Act.put, List.setIfInBounds_toArray, List.set_cons_zero, List.set_cons_succ, i64_w]; rfl)
                 refine pure_ (i := 14) (N := some 177) (v := ?_) (a' := ?_) b15WOH rfl rfl (any_of HT_.out (by kernel_rfl)) (fun _ _ _ h => h) (Or.inl ⟨by rfl, ?_⟩) ?_ ?_
                 rotate_left; (intro w'; go_simp; with_reducible rfl); rotate_left; (simp only [Act.put, List.setIfInBounds_toArray, List.set_cons_zero, List.set_cons_succ, i64_w]; rfl)
                 refine one_ (i := 15) (N := some 178) b16WOH rfl rfl (one_of HT_.out (by kernel_rfl)) (by decide) (fun K hK => ?_)
                 refine goes_ Try.func39 (by kernel_rfl) rfl #[.slice A676_0 (rd_L1 t647 x151_3).length c676_0, .int .i64 t643, .int .i64 t644] (by rfl) rfl rfl (by (try simp only [List.map_toArray, List.map_cons, List.map_nil]); first | done | rfl) ?_
                 with_reducible refine (laws_vSolves.calls k3 _ _ (rd_L1 t647 x151_3) t643 t644 true _ ?side1 ?side2 A79.out).mono ?_
                 (case side1 => first | (obtain ⟨ad_, A_, c_, e_, hx_, hl_, hi_⟩ := at_L1 (Kd.S_reads' HO_149.out).2.2 x151_3 (of_eq_true p676) (of_eq_true q676); cases e_; have hq_ := hx_.symm.trans hHeld; injection hq_ with hq_; injection hq_ with e1_ e2_ e3_; subst e1_; exact hi_) | (obtain ⟨ad_, A_, c_, e_, hx_, hl_, hi_⟩ := at_L1 (Kd.S_reads' HO_149.out).2.2 x151_3 (of_eq_true p676) (of_eq_true q676); cases e_; have hq_ := hx_.symm.trans hHeld.1; injection hq_ with hq_; injection hq_ with e1_ e2_ e3_; subst e1_; exact hi_) | (obtain ⟨ad_, A_, c_, e_, hx_, hl_, hi_⟩ := at_L1 (Kd.S_reads' HO_149.out).2.2 x151_3 (of_eq_true p676) (of_eq_true q676); cases e_; have hq_ := hx_.symm.trans hHeld.2; injection hq_ with hq_; injection hq_ with e1_ e2_ e3_; subst e1_; exact hi_) | (repeat (first | exact (by repeat (first | (with_reducible exact HR676_0.out) | (with_reducible refine Kd.C_alloc ?_ _) | (with_reducible refine Kd.C_drewN ?_ _) | (with_reducible refine Kd.C_drew ?_) | exact HR676_0.out)) | (with_reducible refine Kd.C_alloc ?_ _) | (with_reducible refine Kd.C_drewN ?_ _) | (with_reducible refine Kd.C_drew ?_))))
                 (case side2 => exact HC676_0.out)
                 rintro e w90 ⟨rfl, hb⟩
                 have HS0_ := (hb.cell (World.block_lt_of_cell? _ _ (hHeld))).trans (hHeld)
                 refine ⟨_, rfl, ?_⟩
                 have n0_ := Aside0.mk (Kd.R_below (by (with_reducible repeat (first | apply Kd.R_alloc | apply Kd.R_drewN | apply Kd.R_drew)); exact HO_5.out) hb)
                 have n1_ := Aside0.mk (Kd.S_below (by (with_reducible repeat (first | apply Kd.S_alloc | apply Kd.S_drewN | apply Kd.S_drew)); exact HO_8.out) hb)
                 have n2_ := Aside0.mk (Kd.R_below (by (with_reducible repeat (first | apply Kd.R_alloc | apply Kd.R_drewN | apply Kd.R_drew)); exact HO_12.out) hb)
                 have n3_ := Aside0.mk (Kd.R_below (by (with_reducible repeat (first | apply Kd.R_alloc | apply Kd.R_drewN | apply Kd.R_drew)); exact HO_14.out) hb)
                 have n4_ := Aside0.mk (Kd.S_below (by (with_reducible repeat (first | apply Kd.S_alloc | apply Kd.S_drewN | apply Kd.S_drew)); exact HO_149.out) hb)
                 have n5_ := Aside0.mk (Kd.R_below (by (with_reducible repeat (first | apply Kd.R_alloc | apply Kd.R_drewN | apply Kd.R_drew)); exact HL676_0.out) hb)
                 have n6_ := Aside0.mk (Kd.C_below (by repeat (first | (with_reducible exact HR676_0.out) | (with_reducible refine Kd.C_alloc ?_ _) | (with_reducible refine Kd.C_drewN ?_ _) | (with_reducible refine Kd.C_drew ?_) | exact HR676_0.out)) hb)
                 have n7_ := Aside0.mk (below_step (by repeat (first | (with_reducible first | exact HB.out | apply below_alloc | apply pw_below_drewN | apply below_drew1) | exact HB.out)) hb)
                 clear HO_5; clear HO_8; clear HO_12; clear HO_14; clear HO_149; clear HL676_0; clear HR676_0; clear HB; have HO_5 := n0_; have HO_8 := n1_; have HO_12 := n2_; have HO_14 := n3_; have HO_149 := n4_; have HL676_0 := n5_; have HR676_0 := n6_; have HB := n7_; clear n0_ n1_ n2_ n3_ n4_ n5_ n6_ n7_; (try clear hb); (try clear hb2); (try clear hk); (try clear hi)
                 refine hK.out _ _ (HS0_) (fun hHeld => ?_)
                 clear hK K
                 refine norm_ (a' := ?_) ?_ ?_
                 rotate_left
                 ·show Act.put _ (some 178) _ = _
                  simp only [Act.put, List.setIfInBounds_toArray, List.set_cons_zero, List.set_cons_succ, i64_w]
                  rfl
                 refine pure_ (i := 16) (N := some 179) (v := ?_) (a' := ?_) b17WOH rfl rfl (any_of HT_.out (by kernel_rfl)) (fun _ _ _ h => h) (Or.inl ⟨by rfl, ?_⟩) ?_ ?_
                 rotate_left; (intro w'; go_simp; with_reducible rfl); rotate_left; (simp only [Act.put, List.setIfInBounds_toArray, List.set_cons_zero, List.set_cons_succ, i64_w]; rfl)
                 refine pure_ (i := 17) (N := some 180) (v := ?_) (a' := ?_) b18WOH rfl rfl (any_of HT_.out (by kernel_rfl)) (fun _ _ _ h => h) (Or.inl ⟨by rfl, ?_⟩) ?_ ?_
                 rotate_left; (intro w'; go_simp; with_reducible rfl); rotate_left; (simp only [Act.put, List.setIfInBounds_toArray, List.set_cons_zero, List.set_cons_succ, i64_w]; rfl)
                 refine pure_ (i := 18) (N := some 181) (v := ?_) (a' := ?_) b19WOH rfl rfl (any_of HT_.out (by kernel_rfl)) (fun _ _ _ h => h) (Or.inl ⟨by rfl, ?_⟩) ?_ ?_
                 rotate_left; (intro w'; go_simp; with_reducible rfl); rotate_left; (simp only [Act.put, List.setIfInBounds_toArray, List.set_cons_zero, List.set_cons_succ, i64_w]; rfl)
                 refine pure_ (i := 19) (N := some 182) (v := ?_) (a' := ?_) b20WOH rfl rfl (any_of HT_.out (by kernel_rfl)) (fun _ _ _ h => h) (Or.inl ⟨by rfl, ?_⟩) ?_ ?_
                 rotate_left; (intro w'; go_simp; with_reducible rfl); rotate_left; (simp only [Act.put, List.setIfInBounds_toArray, List.set_cons_zero, List.set_cons_succ, i64_w]; rfl)
                 refine pure_ (i := 20) (N := some 183) (v := ?_) (a' := ?_) b21WOH rfl rfl (any_of HT_.out (by kernel_rfl)) (fun _ _ _ h => h) (Or.inl ⟨by rfl, ?_⟩) ?_ ?_
                 rotate_left; (intro w'; go_simp; with_reducible rfl); rotate_left; (simp only [Act.put, List.setIfInBounds_toArray, List.set_cons_zero, List.set_cons_succ, i64_w]; rfl)
                 refine pure_ (i := 21) (N := some 184) (v := ?_) (a' := ?_) b22WOH rfl rfl (any_of HT_.out (by kernel_rfl)) (fun _ _ _ h => h) (Or.inl ⟨by rfl, ?_⟩) ?_ ?_
                 rotate_left; (intro w'; go_simp; with_reducible rfl); rotate_left; (simp only [Act.put, List.setIfInBounds_toArray, List.set_cons_zero, List.set_cons_succ, i64_w]; rfl)
                 refine pure_ (i := 22) (N := some 185) (v := ?_) (a' := ?_) b23WOH rfl rfl (any_of HT_.out (by kernel_rfl)) (fun _ _ _ h => h) (Or.inl ⟨by rfl, ?_⟩) ?_ ?_
                 rotate_left; (intro w'; go_simp; with_reducible rfl); rotate_left; (simp only [Act.put, List.setIfInBounds_toArray, List.set_cons_zero, List.set_cons_succ, i64_w]; rfl)
                 refine pure_ (i := 24) (N := some 187) (v := ?_) (a' := ?_) b34WOH rfl rfl (any_of HT_.out (by kernel_rfl)) (fun _ _ _ h => h) (Or.inl ⟨by rfl, ?_⟩) ?_ ?_
                 rotate_left; (intro w'; go_simp; with_reducible rfl); rotate_left; (simp only [Act.put, List.setIfInBounds_toArray, List.set_cons_zero, List.set_cons_succ, i64_w]; rfl)
                 refine pure_ (i := 25) (N := some 188) (v := ?_) (a' := ?_) b35WOH rfl rfl (any_of HT_.out (by kernel_rfl)) (fun _ _ _ h => h) (Or.inl ⟨by rfl, ?_⟩) ?_ ?_
                 rotate_left; (intro w'; go_simp; with_reducible rfl); rotate_left; (simp only [Act.put, List.setIfInBounds_toArray, List.set_cons_zero, List.set_cons_succ, i64_w]; rfl)
                 refine pure_ (i := 26) (N := some 189) (v := ?_) (a' := ?_) b36WOH rfl rfl (any_of HT_.out (by kernel_rfl)) (fun _ _ _ h => h) (Or.inl ⟨by rfl, ?_⟩) ?_ ?_
                 rotate_left; (intro w'; go_simp; with_reducible rfl); rotate_left; (simp only [Act.put, List.setIfInBounds_toArray, List.set_cons_zero, List.set_cons_succ, i64_w]; rfl)
                 refine pure_ (i := 27) (N := some 190) (v := ?_) (a' := ?_) b37WOH rfl rfl (any_of HT_.out (by kernel_rfl)) (fun _ _ _ h => h) (Or.inl ⟨by rfl, ?_⟩) ?_ ?_
                 rotate_left; (intro w'; go_simp; with_reducible rfl); rotate_left; (simp only [Act.put, List.setIfInBounds_toArray, List.set_cons_zero, List.set_cons_succ, i64_w]; rfl)
                 refine take_ (i := 28) (N := some 191) (v := ?_) (a' := ?_) b38WOH rfl rfl (take_ofW HT_.out HW_.out (by kernel_rfl)) (fun _ _ _ h => h) (Or.inl ⟨by rfl, ?_⟩) hHeld ?_ ?_
                 rotate_left; (intro w' s0; go_simp; with_reducible rfl); rotate_left; (simp only [Act.put, List.setIfInBounds_toArray, List.set_cons_zero, List.set_cons_succ, i64_w]; rfl)
                 refine one_ (i := 23) (N := some 186) b29WOH rfl rfl (one_of HT_.out (by kernel_rfl)) (by decide) (fun K hK => ?_)
                 refine goes_ Try.func40 (by kernel_rfl) rfl #[.slice A676_0 (rd_L1 t647 x151_3).length c676_0] (by rfl) rfl rfl (by (try simp only [List.map_toArray, List.map_cons, List.map_nil]); first | done | rfl) ?_
                 with_reducible refine (laws_vSum.calls k3 _ _ (rd_L1 t647 x151_3) t680 _ ?side1 ?side2 A82.out).mono ?_
                 (case side1 => first | (obtain ⟨ad_, A_, c_, e_, hx_, hl_, hi_⟩ := at_L1 (Kd.S_reads' HO_149.out).2.2 x151_3 (of_eq_true p676) (of_eq_true q676); cases e_; have hq_ := hx_.symm.trans hHeld; injection hq_ with hq_; injection hq_ with e1_ e2_ e3_; subst e1_; exact hi_) | (obtain ⟨ad_, A_, c_, e_, hx_, hl_, hi_⟩ := at_L1 (Kd.S_reads' HO_149.out).2.2 x151_3 (of_eq_true p676) (of_eq_true q676); cases e_; have hq_ := hx_.symm.trans hHeld.1; injection hq_ with hq_; injection hq_ with e1_ e2_ e3_; subst e1_; exact hi_) | (obtain ⟨ad_, A_, c_, e_, hx_, hl_, hi_⟩ := at_L1 (Kd.S_reads' HO_149.out).2.2 x151_3 (of_eq_true p676) (of_eq_true q676); cases e_; have hq_ := hx_.symm.trans hHeld.2; injection hq_ with hq_; injection hq_ with e1_ e2_ e3_; subst e1_; exact hi_) | (repeat (first | exact (by repeat (first | (with_reducible exact HR676_0.out) | (with_reducible refine Kd.C_alloc ?_ _) | (with_reducible refine Kd.C_drewN ?_ _) | (with_reducible refine Kd.C_drew ?_) | exact HR676_0.out)) | (with_reducible refine Kd.C_alloc ?_ _) | (with_reducible refine Kd.C_drewN ?_ _) | (with_reducible refine Kd.C_drew ?_))))
                 (case side2 => exact HC676_0.out)
                 rintro e w' ⟨rfl, ⟨nd, rfl⟩⟩
                 refine ⟨_, rfl, ?_⟩
                 refine hK.out _ _ (hHeld) (fun hHeld => ?_)
                 clear hK K
                 refine norm_ (a' := ?_) ?_ ?_
                 rotate_left
                 ·show Act.put _ (some 186) _ = _
                  simp only [Act.put, List.setIfInBounds_toArray, List.set_cons_zero, List.set_cons_succ, i64_w]
                  rfl
                 refine one_ (i := 29) (N := some 192) b30WOH rfl rfl (one_of HT_.out (by kernel_rfl)) (by decide) (fun K hK => ?_)
                 refine goes_ Try.func40 (by kernel_rfl) rfl #[.slice A681_0 (rd_L1 t647 (ji83)).length c681_0] (by rfl) rfl rfl (by (try simp only [List.map_toArray, List.map_cons, List.map_nil]); first | done | (simp only [hji83]; rfl) | rfl | (simp only [List.length_drop, List.length_take]; rfl)) ?_
                 with_reducible refine (laws_vSum.calls k3 _ _ (rd_L1 t647 (ji83)) t682 _ ?side1 ?side2 A86.out).mono ?_
                 (case side1 => first | (obtain ⟨ad_, A_, c_, e_, hx_, hl_, hi_⟩ := at_L1 (Kd.S_reads' HO_8.out).2.2 (ji83) (of_eq_true p681) (of_eq_true q681); cases e_; have hq_ := hx_.symm.trans hHeld; injection hq_ with hq_; injection hq_ with e1_ e2_ e3_; subst e1_; exact hi_) | (obtain ⟨ad_, A_, c_, e_, hx_, hl_, hi_⟩ := at_L1 (Kd.S_reads' HO_8.out).2.2 (ji83) (of_eq_true p681) (of_eq_true q681); cases e_; have hq_ := hx_.symm.trans hHeld.1; injection hq_ with hq_; injection hq_ with e1_ e2_ e3_; subst e1_; exact hi_) | (obtain ⟨ad_, A_, c_, e_, hx_, hl_, hi_⟩ := at_L1 (Kd.S_reads' HO_8.out).2.2 (ji83) (of_eq_true p681) (of_eq_true q681); cases e_; have hq_ := hx_.symm.trans hHeld.2; injection hq_ with hq_; injection hq_ with e1_ e2_ e3_; subst e1_; exact hi_) | (repeat (first | exact (by repeat (first | (with_reducible exact HR681_0.out) | (with_reducible refine Kd.C_alloc ?_ _) | (with_reducible refine Kd.C_drewN ?_ _) | (with_reducible refine Kd.C_drew ?_) | exact HR681_0.out)) | (with_reducible refine Kd.C_alloc ?_ _) | (with_reducible refine Kd.C_drewN ?_ _) | (with_reducible refine Kd.C_drew ?_))))
                 (case side2 => exact HC681_0.out)
                 rintro e w' ⟨rfl, ⟨nd, rfl⟩⟩
                 refine ⟨_, rfl, ?_⟩
                 refine hK.out _ _ (hHeld) (fun hHeld => ?_)
                 clear hK K
                 refine norm_ (a' := ?_) ?_ ?_
                 rotate_left
                 ·show Act.put _ (some 192) _ = _
                  simp only [Act.put, List.setIfInBounds_toArray, List.set_cons_zero, List.set_cons_succ, i64_w]
                  rfl
                 refine pure_ (i := 30) (N := some 193) (v := ?_) (a' := ?_) b31WOH rfl rfl (any_of HT_.out (by kernel_rfl)) (fun _ _ _ h => h) (Or.inl ⟨by rfl, ?_⟩) ?_ ?_
                 rotate_left; (intro w'; go_simp; with_reducible rfl); rotate_left; (simp only [Act.put, List.setIfInBounds_toArray, List.set_cons_zero, List.set_cons_succ, i64_w]; rfl)
                 refine pure_ (i := 31) (N := some 194) (v := ?_) (a' := ?_) b32WOH rfl rfl (any_of HT_.out (by kernel_rfl)) (fun _ _ _ h => h) (Or.inl ⟨by rfl, ?_⟩) ?_ ?_
                 rotate_left; (intro w'; go_simp; with_reducible rfl); rotate_left; (simp only [Act.put, List.setIfInBounds_toArray, List.set_cons_zero, List.set_cons_succ, i64_w]; rfl)
                 refine pure_ (i := 32) (N := some 195) (v := ?_) (a' := ?_) b33WOH rfl rfl (any_of HT_.out (by kernel_rfl)) (fun _ _ _ h => h) (Or.inl ⟨by rfl, ?_⟩) ?_ ?_
                 rotate_left; (intro w'; go_simp; with_reducible rfl); rotate_left; (simp only [Act.put, List.setIfInBounds_toArray, List.set_cons_zero, List.set_cons_succ, i64_w]; rfl)
                 refine done_ (done_of HT_.out (by kernel_rfl)) ?_
                 try go_wp2
                 go_ret
                 exact ⟨by first | rfl | (simp [errW_none, errW_some] <;> rfl) | (simp only [← hji83]; first | rfl | (simp [errW_none, errW_some] <;> rfl)) | (simp [*, errW_none, errW_some] <;> rfl), by repeat (first | (with_reducible first | exact HB.out | apply below_alloc | apply pw_below_drewN | apply below_drew1) | exact HB.out)⟩
                ·as_aux_lemma =>
                 rw [if_neg c87] at H
                 have c87b0 : decide (t682 ≤ t680) = false := decide_eq_false c87
                 clear c87
                 have H' := Aside0.mk H
                 clear H
                 have p676 : 0 ≤ (x151_3 : Int) := of_decide_eq_true (by first | (with_reducible assumption) | assumption)
                 have q676 : x151_3 < (t647.length : Int) := of_decide_eq_true (by first | (with_reducible assumption) | assumption)
                 obtain ⟨ad676, A676_0, c676_0, e676, hx676_0, hl676_0, hi676_0⟩ := at_L1 (Kd.S_reads' HO_149.out).2.2 x151_3 p676 q676
                 cases e676
                 obtain ⟨ce676, hce676, hMe676, hcc676⟩ := Kd.S_get HO_149.out [] x151_3 p676 (by first | exact q676 | exact of_decide_eq_true (by first | (with_reducible assumption) | assumption) | (have e_ := (Kd.S_reads' HO_149.out).1; omega))
                 obtain ⟨ve676_0, rfl, ge676_0⟩ := hMe676
                 have hv676_0 := hcc676 0 _ rfl
                 rw [Nat.add_zero, show ((Kd.slice 3 (Kd.int .i64))).sz = 1 from rfl, Nat.mul_one] at hv676_0
                 replace hv676_0 := Option.some.inj (hv676_0.symm.trans hx676_0)
                 rw [hv676_0] at ge676_0
                 have HL676_0 := Aside0.mk (show Kd.R (Kd.int .i64) 3 _ _ _ _ (rd_L1 t647 x151_3) from ge676_0)
                 clear hv676_0 ge676_0; clear hcc676 hce676
                 have HR676_0 := Aside0.mk hi676_0
                 have HC676_0 := Aside0.mk hl676_0
                 clear hi676_0 hl676_0; replace p676 := eq_true p676; replace q676 := eq_true q676
                 try go_wp2_with (first | ((with_reducible refine gate_callee (f := 38) rfl ?_); refine goesL_ (some 160) rfl rfl Try.func38 (by kernel_rfl) rfl #[.slice A676_0 (rd_L1 t647 x151_3).length c676_0, .int .i64 t643, .int .i64 t644] rfl (by (try simp only [List.map_toArray, List.map_cons, List.map_nil]); first | done | rfl) ?_; (with_reducible refine (impl_IsFundamental.calls k3 _ _ (rd_L1 t647 x151_3) t643 t644 t677 true _ ?side1 ?side2 A74.out).mono ?_); (case side1 => repeat (first | exact (by repeat (first | (with_reducible exact HR676_0.out) | (with_reducible refine Kd.C_alloc ?_ _) | (with_reducible refine Kd.C_drewN ?_ _) | (with_reducible refine Kd.C_drew ?_) | exact HR676_0.out)) | (with_reducible refine Kd.C_alloc ?_ _) | (with_reducible refine Kd.C_drewN ?_ _) | (with_reducible refine Kd.C_drew ?_))); (case side2 => exact HC676_0.out); rintro e w91 ⟨rfl, hb⟩; refine ⟨_, rfl, ?_⟩; have n0_ := Aside0.mk (Kd.R_below (by (with_reducible repeat (first | apply Kd.R_alloc | apply Kd.R_drewN | apply Kd.R_drew)); exact HO_5.out) hb); have n1_ := Aside0.mk (Kd.S_below (by (with_reducible repeat (first | apply Kd.S_alloc | apply Kd.S_drewN | apply Kd.S_drew)); exact HO_8.out) hb); have n2_ := Aside0.mk (Kd.R_below (by (with_reducible repeat (first | apply Kd.R_alloc | apply Kd.R_drewN | apply Kd.R_drew)); exact HO_12.out) hb); have n3_ := Aside0.mk (Kd.R_below (by (with_reducible repeat (first | apply Kd.R_alloc | apply Kd.R_drewN | apply Kd.R_drew)); exact HO_14.out) hb); have n4_ := Aside0.mk (Kd.S_below (by (with_reducible repeat (first | apply Kd.S_alloc | apply Kd.S_drewN | apply Kd.S_drew)); exact HO_149.out) hb); have n5_ := Aside0.mk (Kd.R_below (by (with_reducible repeat (first | apply Kd.R_alloc | apply Kd.R_drewN | apply Kd.R_drew)); exact HL676_0.out) hb); have n6_ := Aside0.mk (Kd.C_below (by repeat (first | (with_reducible exact HR676_0.out) | (with_reducible refine Kd.C_alloc ?_ _) | (with_reducible refine Kd.C_drewN ?_ _) | (with_reducible refine Kd.C_drew ?_) | exact HR676_0.out)) hb); have n7_ := Aside0.mk (below_step (by repeat (first | (with_reducible first | exact HB.out | apply below_alloc | apply pw_below_drewN | apply below_drew1) | exact HB.out)) hb); clear HO_5; clear HO_8; clear HO_12; clear HO_14; clear HO_149; clear HL676_0; clear HR676_0; clear HB; have HO_5 := n0_; have HO_8 := n1_; have HO_12 := n2_; have HO_14 := n3_; have HO_149 := n4_; have HL676_0 := n5_; have HR676_0 := n6_; have HB := n7_; clear n0_ n1_ n2_ n3_ n4_ n5_ n6_ n7_; (try clear hb); (try clear hb2); (try clear hk); (try clear hi)))
                 have n0_ := Aside0.mk (Kd.R_drew HO_5.out)
                 have n1_ := Aside0.mk (Kd.S_drew HO_8.out)
                 have n2_ := Aside0.mk (Kd.R_drew HO_12.out)
                 have n3_ := Aside0.mk (Kd.R_drew HO_14.out)
                 have n4_ := Aside0.mk (Kd.S_drew HO_149.out)
                 have n5_ := Aside0.mk (Kd.R_drew HL676_0.out)
                 have n6_ := Aside0.mk (Kd.C_drew HR676_0.out)
                 have n7_ := Aside0.mk (below_drew1 HB.out)
                 clear HO_5; clear HO_8; clear HO_12; clear HO_14; clear HO_149; clear HL676_0; clear HR676_0; clear HB; have HO_5 := n0_; have HO_8 := n1_; have HO_12 := n2_; have HO_14 := n3_; have HO_149 := n4_; have HL676_0 := n5_; have HR676_0 := n6_; have HB := n7_; clear n0_ n1_ n2_ n3_ n4_ n5_ n6_ n7_
                 have p681 : 0 ≤ ((ji83) : Int) := of_decide_eq_true (by first | (with_reducible assumption) | assumption)
                 have q681 : (ji83) < (t647.length : Int) := of_decide_eq_true (by first | (with_reducible assumption) | assumption)
                 obtain ⟨ad681, A681_0, c681_0, e681, hx681_0, hl681_0, hi681_0⟩ := at_L1 (Kd.S_reads' HO_8.out).2.2 (ji83) p681 q681
                 obtain rfl : ad676 = ad681 := (by injection e681)
                 obtain ⟨ce681, hce681, hMe681, hcc681⟩ := Kd.S_get HO_8.out [] (ji83) p681 (by first | exact q681 | exact of_decide_eq_true (by first | (with_reducible assumption) | assumption) | (have e_ := (Kd.S_reads' HO_8.out).1; omega))
                 obtain ⟨ve681_0, rfl, ge681_0⟩ := hMe681
                 have hv681_0 := hcc681 0 _ rfl
                 rw [Nat.add_zero, show ((Kd.slice 3 (Kd.int .i64))).sz = 1 from rfl, Nat.mul_one] at hv681_0
                 replace hv681_0 := Option.some.inj (hv681_0.symm.trans hx681_0)
                 rw [hv681_0] at ge681_0
                 have HL681_0 := Aside0.mk (show Kd.R (Kd.int .i64) 3 _ _ _ _ (rd_L1 t647 (ji83)) from ge681_0)
                 clear hv681_0 ge681_0; clear hcc681 hce681
                 have HR681_0 := Aside0.mk hi681_0
                 have HC681_0 := Aside0.mk hl681_0
                 clear hi681_0 hl681_0; replace p681 := eq_true p681; replace q681 := eq_true q681
                 refine start_ (n := 33) (S := fun w' => w'.cell? (ad676.add ((ji83)).toNat) = some (.slice A681_0 (rd_L1 t647 (ji83)).length c681_0)) (ds := []) b0WOH (by kernel_rfl) rfl rfl (hx681_0) (fun hHeld => ?_); refine with_tabW laws_FnWaysOfHurwitz.tab20 laws_FnWaysOfHurwitz.bits20 (fun HT_ HW_ => ?_)
                 generalize w91.drew = w92 at HO_5 HO_8 HO_12 HO_14 HO_149 HL676_0 HR676_0 HB HL681_0 HR681_0 hx681_0 hHeld ⊢
                 refine pure_ (i := 0) (N := some 163) (v := ?_) (a' := ?_) b1WOH rfl rfl (any_of HT_.out (by kernel_rfl)) (fun _ _ _ h => h) (Or.inl ⟨by rfl, ?_⟩) ?_ ?_
                 rotate_left; (intro w'; go_simp; with_reducible rfl); rotate_left; (simp only [Act.put, List.setIfInBounds_toArray, List.set_cons_zero, List.set_cons_succ, i64_w]; rfl)
                 refine pure_ (i := 1) (N := some 164) (v := ?_) (a' := ?_) b2WOH rfl rfl (any_of HT_.out (by kernel_rfl)) (fun _ _ _ h => h) (Or.inl ⟨by rfl, ?_⟩) ?_ ?_
                 rotate_left; (intro w'; go_simp; with_reducible rfl); rotate_left; (simp only [Act.put, List.setIfInBounds_toArray, List.set_cons_zero, List.set_cons_succ, i64_w]; rfl)
                 refine pure_ (i := 2) (N := some 165) (v := ?_) (a' := ?_) b3WOH rfl rfl (any_of HT_.out (by kernel_rfl)) (fun _ _ _ h => h) (Or.inl ⟨by rfl, ?_⟩) ?_ ?_
                 rotate_left; (intro w'; go_simp; with_reducible rfl); rotate_left; (simp only [Act.put, List.setIfInBounds_toArray, List.set_cons_zero, List.set_cons_succ, i64_w]; rfl)
                 refine pure_ (i := 3) (N := some 166) (v := ?_) (a' := ?_) b4WOH rfl rfl (any_of HT_.out (by kernel_rfl)) (fun _ _ _ h => h) (Or.inl ⟨by rfl, ?_⟩) ?_ ?_
                 rotate_left; (intro w'; go_simp; with_reducible rfl); rotate_left; (simp only [Act.put, List.setIfInBounds_toArray, List.set_cons_zero, List.set_cons_succ, i64_w]; rfl)
                 refine pure_ (i := 4) (N := some 167) (v := ?_) (a' := ?_) b5WOH rfl rfl (any_of HT_.out (by kernel_rfl)) (fun _ _ _ h => h) (Or.inl ⟨by rfl, ?_⟩) ?_ ?_
                 rotate_left; (intro w'; go_simp; with_reducible rfl); rotate_left; (simp only [Act.put, List.setIfInBounds_toArray, List.set_cons_zero, List.set_cons_succ, i64_w]; rfl)
                 refine pure_ (i := 5) (N := some 168) (v := ?_) (a' := ?_) b6WOH rfl rfl (any_of HT_.out (by kernel_rfl)) (fun _ _ _ h => h) (Or.inl ⟨by rfl, ?_⟩) ?_ ?_
                 rotate_left; (intro w'; go_simp; with_reducible rfl); rotate_left; (simp only [Act.put, List.setIfInBounds_toArray, List.set_cons_zero, List.set_cons_succ, i64_w]; rfl)
                 refine pure_ (i := 6) (N := some 169) (v := ?_) (a' := ?_) b7WOH rfl rfl (any_of HT_.out (by kernel_rfl)) (fun _ _ _ h => h) (Or.inl ⟨by rfl, ?_⟩) ?_ ?_
                 rotate_left; (intro w'; go_simp; with_reducible rfl); rotate_left; (simp only [Act.put, List.setIfInBounds_toArray, List.set_cons_zero, List.set_cons_succ, i64_w]; rfl)
                 refine pure_ (i := 7) (N := some 170) (v := ?_) (a' := ?_) b8WOH rfl rfl (any_of HT_.out (by kernel_rfl)) (fun _ _ _ h => h) (Or.inl ⟨by rfl, ?_⟩) ?_ ?_
                 rotate_left; (intro w'; go_simp; with_reducible rfl); rotate_left; (simp only [Act.put, List.setIfInBounds_toArray, List.set_cons_zero, List.set_cons_succ, i64_w]; rfl)
                 refine pure_ (i := 8) (N := some 171) (v := ?_) (a' := ?_) b9WOH rfl rfl (any_of HT_.out (by kernel_rfl)) (fun _ _ _ h => h) (Or.inl ⟨by rfl, ?_⟩) ?_ ?_
                 rotate_left; (intro w'; go_simp; with_reducible rfl); rotate_left; (simp only [Act.put, List.setIfInBounds_toArray, List.set_cons_zero, List.set_cons_succ, i64_w]; rfl)
                 refine pure_ (i := 9) (N := some 172) (v := ?_) (a' := ?_) b10WOH rfl rfl (any_of HT_.out (by kernel_rfl)) (fun _ _ _ h => h) (Or.inl ⟨by rfl, ?_⟩) ?_ ?_
                 rotate_left; (intro w'; go_simp; with_reducible rfl); rotate_left; (simp only [Act.put, List.setIfInBounds_toArray, List.set_cons_zero, List.set_cons_succ, i64_w]; rfl)
                 refine pure_ (i := 10) (N := some 173) (v := ?_) (a' := ?_) b11WOH rfl rfl (any_of HT_.out (by kernel_rfl)) (fun _ _ _ h => h) (Or.inl ⟨by rfl, ?_⟩) ?_ ?_
                 rotate_left; (intro w'; go_simp; with_reducible rfl); rotate_left; (simp only [Act.put, List.setIfInBounds_toArray, List.set_cons_zero, List.set_cons_succ, i64_w]; rfl)
                 refine pure_ (i := 11) (N := some 174) (v := ?_) (a' := ?_) b12WOH rfl rfl (any_of HT_.out (by kernel_rfl)) (fun _ _ _ h => h) (Or.inl ⟨by rfl, ?_⟩) ?_ ?_
                 rotate_left; (intro w'; go_simp; with_reducible rfl); rotate_left; (simp only [Act.put, List.setIfInBounds_toArray, List.set_cons_zero, List.set_cons_succ, i64_w]; rfl)
                 refine pure_ (i := 12) (N := some 175) (v := ?_) (a' := ?_) b13WOH rfl rfl (any_of HT_.out (by kernel_rfl)) (fun _ _ _ h => h) (Or.inl ⟨by rfl, ?_⟩) ?_ ?_
                 rotate_left; (intro w'; go_simp; with_reducible rfl); rotate_left; (simp only [Act.put, List.setIfInBounds_toArray, List.set_cons_zero, List.set_cons_succ, i64_w]; rfl)
                 refine pure_ (i := 13) (N := some 176) (v := ?_) (a' := ?_) b14WOH rfl rfl (any_of HT_.out (by kernel_rfl)) (fun _ _ _ h => h) (Or.inl ⟨by rfl, ?_⟩) ?_ ?_
                 rotate_left; (intro w'; go_simp; with_reducible rfl); rotate_left; (simp only [Act.put, List.setIfInBounds_toArray, List.set_cons_zero, List.set_cons_succ, i64_w]; rfl)
                 refine pure_ (i := 14) (N := some 177) (v := ?_) (a' := ?_) b15WOH rfl rfl (any_of HT_.out (by kernel_rfl)) (fun _ _ _ h => h) (Or.inl ⟨by rfl, ?_⟩) ?_ ?_
                 rotate_left; (intro w'; go_simp; with_reducible rfl); rotate_left; (simp only [Act.put, List.setIfInBounds_toArray, List.set_cons_zero, List.set_cons_succ, i64_w]; rfl)
                 refine one_ (i := 15) (N := some 178) b16WOH rfl rfl (one_of HT_.out (by kernel_rfl)) (by decide) (fun K hK => ?_)
                 refine goes_ Try.func39 (by kernel_rfl) rfl #[.slice A676_0 (rd_L1 t647 x151_3).length c676_0, .int .i64 t643, .int .i64 t644] (by rfl) rfl rfl (by (try simp only [List.map_toArray, List.map_cons, List.map_nil]); first | done | rfl) ?_
                 with_reducible refine (laws_vSolves.calls k3 _ _ (rd_L1 t647 x151_3) t643 t644 true _ ?side1 ?side2 A79.out).mono ?_
                 (case side1 => first | (obtain ⟨ad_, A_, c_, e_, hx_, hl_, hi_⟩ := at_L1 (Kd.S_reads' HO_149.out).2.2 x151_3 (of_eq_true p676) (of_eq_true q676); cases e_; have hq_ := hx_.symm.trans hHeld; injection hq_ with hq_; injection hq_ with e1_ e2_ e3_; subst e1_; exact hi_) | (obtain ⟨ad_, A_, c_, e_, hx_, hl_, hi_⟩ := at_L1 (Kd.S_reads' HO_149.out).2.2 x151_3 (of_eq_true p676) (of_eq_true q676); cases e_; have hq_ := hx_.symm.trans hHeld.1; injection hq_ with hq_; injection hq_ with e1_ e2_ e3_; subst e1_; exact hi_) | (obtain ⟨ad_, A_, c_, e_, hx_, hl_, hi_⟩ := at_L1 (Kd.S_reads' HO_149.out).2.2 x151_3 (of_eq_true p676) (of_eq_true q676); cases e_; have hq_ := hx_.symm.trans hHeld.2; injection hq_ with hq_; injection hq_ with e1_ e2_ e3_; subst e1_; exact hi_) | (repeat (first | exact (by repeat (first | (with_reducible exact HR676_0.out) | (with_reducible refine Kd.C_alloc ?_ _) | (with_reducible refine Kd.C_drewN ?_ _) | (with_reducible refine Kd.C_drew ?_) | exact HR676_0.out)) | (with_reducible refine Kd.C_alloc ?_ _) | (with_reducible refine Kd.C_drewN ?_ _) | (with_reducible refine Kd.C_drew ?_))))
                 (case side2 => exact HC676_0.out)
                 rintro e w93 ⟨rfl, hb⟩
                 have HS0_ := (hb.cell (World.block_lt_of_cell? _ _ (hHeld))).trans (hHeld)
                 refine ⟨_, rfl, ?_⟩
                 have n0_ := Aside0.mk (Kd.R_below (by (with_reducible repeat (first | apply Kd.R_alloc | apply Kd.R_drewN | apply Kd.R_drew)); exact HO_5.out) hb)
                 have n1_ := Aside0.mk (Kd.S_below (by (with_reducible repeat (first | apply Kd.S_alloc | apply Kd.S_drewN | apply Kd.S_drew)); exact HO_8.out) hb)
                 have n2_ := Aside0.mk (Kd.R_below (by (with_reducible repeat (first | apply Kd.R_alloc | apply Kd.R_drewN | apply Kd.R_drew)); exact HO_12.out) hb)
                 have n3_ := Aside0.mk (Kd.R_below (by (with_reducible repeat (first | apply Kd.R_alloc | apply Kd.R_drewN | apply Kd.R_drew)); exact HO_14.out) hb)
                 have n4_ := Aside0.mk (Kd.S_below (by (with_reducible repeat (first | apply Kd.S_alloc | apply Kd.S_drewN | apply Kd.S_drew)); exact HO_149.out) hb)
                 have n5_ := Aside0.mk (Kd.R_below (by (with_reducible repeat (first | apply Kd.R_alloc | apply Kd.R_drewN | apply Kd.R_drew)); exact HL676_0.out) hb)
                 have n6_ := Aside0.mk (Kd.C_below (by repeat (first | (with_reducible exact HR676_0.out) | (with_reducible refine Kd.C_alloc ?_ _) | (with_reducible refine Kd.C_drewN ?_ _) | (with_reducible refine Kd.C_drew ?_) | exact HR676_0.out)) hb)
                 have n7_ := Aside0.mk (below_step (by repeat (first | (with_reducible first | exact HB.out | apply below_alloc | apply pw_below_drewN | apply below_drew1) | exact HB.out)) hb)
                 clear HO_5; clear HO_8; clear HO_12; clear HO_14; clear HO_149; clear HL676_0; clear HR676_0; clear HB; have HO_5 := n0_; have HO_8 := n1_; have HO_12 := n2_; have HO_14 := n3_; have HO_149 := n4_; have HL676_0 := n5_; have HR676_0 := n6_; have HB := n7_; clear n0_ n1_ n2_ n3_ n4_ n5_ n6_ n7_; (try clear hb); (try clear hb2); (try clear hk); (try clear hi)
                 refine hK.out _ _ (HS0_) (fun hHeld => ?_)
                 clear hK K
                 refine norm_ (a' := ?_) ?_ ?_
                 rotate_left
                 ·show Act.put _ (some 178) _ = _
                  simp only [Act.put, List.setIfInBounds_toArray, List.set_cons_zero, List.set_cons_succ, i64_w]
                  rfl
                 refine pure_ (i := 16) (N := some 179) (v := ?_) (a' := ?_) b17WOH rfl rfl (any_of HT_.out (by kernel_rfl)) (fun _ _ _ h => h) (Or.inl ⟨by rfl, ?_⟩) ?_ ?_
                 rotate_left; (intro w'; go_simp; with_reducible rfl); rotate_left; (simp only [Act.put, List.setIfInBounds_toArray, List.set_cons_zero, List.set_cons_succ, i64_w]; rfl)
                 refine pure_ (i := 17) (N := some 180) (v := ?_) (a' := ?_) b18WOH rfl rfl (any_of HT_.out (by kernel_rfl)) (fun _ _ _ h => h) (Or.inl ⟨by rfl, ?_⟩) ?_ ?_
                 rotate_left; (intro w'; go_simp; with_reducible rfl); rotate_left; (simp only [Act.put, List.setIfInBounds_toArray, List.set_cons_zero, List.set_cons_succ, i64_w]; rfl)
                 refine pure_ (i := 18) (N := some 181) (v := ?_) (a' := ?_) b19WOH rfl rfl (any_of HT_.out (by kernel_rfl)) (fun _ _ _ h => h) (Or.inl ⟨by rfl, ?_⟩) ?_ ?_
                 rotate_left; (intro w'; go_simp; with_reducible rfl); rotate_left; (simp only [Act.put, List.setIfInBounds_toArray, List.set_cons_zero, List.set_cons_succ, i64_w]; rfl)
                 refine pure_ (i := 19) (N := some 182) (v := ?_) (a' := ?_) b20WOH rfl rfl (any_of HT_.out (by kernel_rfl)) (fun _ _ _ h => h) (Or.inl ⟨by rfl, ?_⟩) ?_ ?_
                 rotate_left; (intro w'; go_simp; with_reducible rfl); rotate_left; (simp only [Act.put, List.setIfInBounds_toArray, List.set_cons_zero, List.set_cons_succ, i64_w]; rfl)
                 refine pure_ (i := 20) (N := some 183) (v := ?_) (a' := ?_) b21WOH rfl rfl (any_of HT_.out (by kernel_rfl)) (fun _ _ _ h => h) (Or.inl ⟨by rfl, ?_⟩) ?_ ?_
                 rotate_left; (intro w'; go_simp; with_reducible rfl); rotate_left; (simp only [Act.put, List.setIfInBounds_toArray, List.set_cons_zero, List.set_cons_succ, i64_w]; rfl)
                 refine pure_ (i := 21) (N := some 184) (v := ?_) (a' := ?_) b22WOH rfl rfl (any_of HT_.out (by kernel_rfl)) (fun _ _ _ h => h) (Or.inl ⟨by rfl, ?_⟩) ?_ ?_
                 rotate_left; (intro w'; go_simp; with_reducible rfl); rotate_left; (simp only [Act.put, List.setIfInBounds_toArray, List.set_cons_zero, List.set_cons_succ, i64_w]; rfl)
                 refine pure_ (i := 22) (N := some 185) (v := ?_) (a' := ?_) b23WOH rfl rfl (any_of HT_.out (by kernel_rfl)) (fun _ _ _ h => h) (Or.inl ⟨by rfl, ?_⟩) ?_ ?_
                 rotate_left; (intro w'; go_simp; with_reducible rfl); rotate_left; (simp only [Act.put, List.setIfInBounds_toArray, List.set_cons_zero, List.set_cons_succ, i64_w]; rfl)
                 refine pure_ (i := 24) (N := some 187) (v := ?_) (a' := ?_) b34WOH rfl rfl (any_of HT_.out (by kernel_rfl)) (fun _ _ _ h => h) (Or.inl ⟨by rfl, ?_⟩) ?_ ?_
                 rotate_left; (intro w'; go_simp; with_reducible rfl); rotate_left; (simp only [Act.put, List.setIfInBounds_toArray, List.set_cons_zero, List.set_cons_succ, i64_w]; rfl)
                 refine pure_ (i := 25) (N := some 188) (v := ?_) (a' := ?_) b35WOH rfl rfl (any_of HT_.out (by kernel_rfl)) (fun _ _ _ h => h) (Or.inl ⟨by rfl, ?_⟩) ?_ ?_
                 rotate_left; (intro w'; go_simp; with_reducible rfl); rotate_left; (simp only [Act.put, List.setIfInBounds_toArray, List.set_cons_zero, List.set_cons_succ, i64_w]; rfl)
                 refine pure_ (i := 26) (N := some 189) (v := ?_) (a' := ?_) b36WOH rfl rfl (any_of HT_.out (by kernel_rfl)) (fun _ _ _ h => h) (Or.inl ⟨by rfl, ?_⟩) ?_ ?_
                 rotate_left; (intro w'; go_simp; with_reducible rfl); rotate_left; (simp only [Act.put, List.setIfInBounds_toArray, List.set_cons_zero, List.set_cons_succ, i64_w]; rfl)
                 refine pure_ (i := 27) (N := some 190) (v := ?_) (a' := ?_) b37WOH rfl rfl (any_of HT_.out (by kernel_rfl)) (fun _ _ _ h => h) (Or.inl ⟨by rfl, ?_⟩) ?_ ?_
                 rotate_left; (intro w'; go_simp; with_reducible rfl); rotate_left; (simp only [Act.put, List.setIfInBounds_toArray, List.set_cons_zero, List.set_cons_succ, i64_w]; rfl)
                 refine take_ (i := 28) (N := some 191) (v := ?_) (a' := ?_) b38WOH rfl rfl (take_ofW HT_.out HW_.out (by kernel_rfl)) (fun _ _ _ h => h) (Or.inl ⟨by rfl, ?_⟩) hHeld ?_ ?_
                 rotate_left; (intro w' s0; go_simp; with_reducible rfl); rotate_left; (simp only [Act.put, List.setIfInBounds_toArray, List.set_cons_zero, List.set_cons_succ, i64_w]; rfl)
                 refine one_ (i := 23) (N := some 186) b29WOH rfl rfl (one_of HT_.out (by kernel_rfl)) (by decide) (fun K hK => ?_)
                 refine goes_ Try.func40 (by kernel_rfl) rfl #[.slice A676_0 (rd_L1 t647 x151_3).length c676_0] (by rfl) rfl rfl (by (try simp only [List.map_toArray, List.map_cons, List.map_nil]); first | done | rfl) ?_
                 with_reducible refine (laws_vSum.calls k3 _ _ (rd_L1 t647 x151_3) t680 _ ?side1 ?side2 A82.out).mono ?_
                 (case side1 => first | (obtain ⟨ad_, A_, c_, e_, hx_, hl_, hi_⟩ := at_L1 (Kd.S_reads' HO_149.out).2.2 x151_3 (of_eq_true p676) (of_eq_true q676); cases e_; have hq_ := hx_.symm.trans hHeld; injection hq_ with hq_; injection hq_ with e1_ e2_ e3_; subst e1_; exact hi_) | (obtain ⟨ad_, A_, c_, e_, hx_, hl_, hi_⟩ := at_L1 (Kd.S_reads' HO_149.out).2.2 x151_3 (of_eq_true p676) (of_eq_true q676); cases e_; have hq_ := hx_.symm.trans hHeld.1; injection hq_ with hq_; injection hq_ with e1_ e2_ e3_; subst e1_; exact hi_) | (obtain ⟨ad_, A_, c_, e_, hx_, hl_, hi_⟩ := at_L1 (Kd.S_reads' HO_149.out).2.2 x151_3 (of_eq_true p676) (of_eq_true q676); cases e_; have hq_ := hx_.symm.trans hHeld.2; injection hq_ with hq_; injection hq_ with e1_ e2_ e3_; subst e1_; exact hi_) | (repeat (first | exact (by repeat (first | (with_reducible exact HR676_0.out) | (with_reducible refine Kd.C_alloc ?_ _) | (with_reducible refine Kd.C_drewN ?_ _) | (with_reducible refine Kd.C_drew ?_) | exact HR676_0.out)) | (with_reducible refine Kd.C_alloc ?_ _) | (with_reducible refine Kd.C_drewN ?_ _) | (with_reducible refine Kd.C_drew ?_))))
                 (case side2 => exact HC676_0.out)
                 rintro e w' ⟨rfl, ⟨nd, rfl⟩⟩
                 refine ⟨_, rfl, ?_⟩
                 refine hK.out _ _ (hHeld) (fun hHeld => ?_)
                 clear hK K
                 refine norm_ (a' := ?_) ?_ ?_
                 rotate_left
                 ·show Act.put _ (some 186) _ = _
                  simp only [Act.put, List.setIfInBounds_toArray, List.set_cons_zero, List.set_cons_succ, i64_w]
                  rfl
                 refine one_ (i := 29) (N := some 192) b30WOH rfl rfl (one_of HT_.out (by kernel_rfl)) (by decide) (fun K hK => ?_)
                 refine goes_ Try.func40 (by kernel_rfl) rfl #[.slice A681_0 (rd_L1 t647 (ji83)).length c681_0] (by rfl) rfl rfl (by (try simp only [List.map_toArray, List.map_cons, List.map_nil]); first | done | (simp only [hji83]; rfl) | rfl | (simp only [List.length_drop, List.length_take]; rfl)) ?_
                 with_reducible refine (laws_vSum.calls k3 _ _ (rd_L1 t647 (ji83)) t682 _ ?side1 ?side2 A86.out).mono ?_
                 (case side1 => first | (obtain ⟨ad_, A_, c_, e_, hx_, hl_, hi_⟩ := at_L1 (Kd.S_reads' HO_8.out).2.2 (ji83) (of_eq_true p681) (of_eq_true q681); cases e_; have hq_ := hx_.symm.trans hHeld; injection hq_ with hq_; injection hq_ with e1_ e2_ e3_; subst e1_; exact hi_) | (obtain ⟨ad_, A_, c_, e_, hx_, hl_, hi_⟩ := at_L1 (Kd.S_reads' HO_8.out).2.2 (ji83) (of_eq_true p681) (of_eq_true q681); cases e_; have hq_ := hx_.symm.trans hHeld.1; injection hq_ with hq_; injection hq_ with e1_ e2_ e3_; subst e1_; exact hi_) | (obtain ⟨ad_, A_, c_, e_, hx_, hl_, hi_⟩ := at_L1 (Kd.S_reads' HO_8.out).2.2 (ji83) (of_eq_true p681) (of_eq_true q681); cases e_; have hq_ := hx_.symm.trans hHeld.2; injection hq_ with hq_; injection hq_ with e1_ e2_ e3_; subst e1_; exact hi_) | (repeat (first | exact (by repeat (first | (with_reducible exact HR681_0.out) | (with_reducible refine Kd.C_alloc ?_ _) | (with_reducible refine Kd.C_drewN ?_ _) | (with_reducible refine Kd.C_drew ?_) | exact HR681_0.out)) | (with_reducible refine Kd.C_alloc ?_ _) | (with_reducible refine Kd.C_drewN ?_ _) | (with_reducible refine Kd.C_drew ?_))))
                 (case side2 => exact HC681_0.out)
                 rintro e w' ⟨rfl, ⟨nd, rfl⟩⟩
                 refine ⟨_, rfl, ?_⟩
                 refine hK.out _ _ (hHeld) (fun hHeld => ?_)
                 clear hK K
                 refine norm_ (a' := ?_) ?_ ?_
                 rotate_left
                 ·show Act.put _ (some 192) _ = _
                  simp only [Act.put, List.setIfInBounds_toArray, List.set_cons_zero, List.set_cons_succ, i64_w]
                  rfl
                 refine pure_ (i := 30) (N := some 193) (v := ?_) (a' := ?_) b31WOH rfl rfl (any_of HT_.out (by kernel_rfl)) (fun _ _ _ h => h) (Or.inl ⟨by rfl, ?_⟩) ?_ ?_
                 rotate_left; (intro w'; go_simp; with_reducible rfl); rotate_left; (simp only [Act.put, List.setIfInBounds_toArray, List.set_cons_zero, List.set_cons_succ, i64_w]; rfl)
                 refine pure_ (i := 31) (N := some 194) (v := ?_) (a' := ?_) b32WOH rfl rfl (any_of HT_.out (by kernel_rfl)) (fun _ _ _ h => h) (Or.inl ⟨by rfl, ?_⟩) ?_ ?_
                 rotate_left; (intro w'; go_simp; with_reducible rfl); rotate_left; (simp only [Act.put, List.setIfInBounds_toArray, List.set_cons_zero, List.set_cons_succ, i64_w]; rfl)
                 refine pure_ (i := 32) (N := some 195) (v := ?_) (a' := ?_) b33WOH rfl rfl (any_of HT_.out (by kernel_rfl)) (fun _ _ _ h => h) (Or.inl ⟨by rfl, ?_⟩) ?_ ?_
                 rotate_left; (intro w'; go_simp; with_reducible rfl); rotate_left; (simp only [Act.put, List.setIfInBounds_toArray, List.set_cons_zero, List.set_cons_succ, i64_w]; rfl)
                 refine done_ (done_of HT_.out (by kernel_rfl)) ?_
                 try go_wp2
                 go_roundg k3
                 case measure => have := HJ11.out; have := HJ50.out; have := HK3.out; omega
                 case rel => exact ⟨(wrap64 (x151_3 + 1)), (by first | rfl | (simp; done) | (simp [*]; done)), H', ⟨by have := HJ11.out; have := HJ50.out; have := HK3.out; omega⟩, ⟨by (with_reducible repeat (first | apply Kd.R_alloc | apply Kd.R_drewN | apply Kd.R_drew)); exact HO_5.out⟩, ⟨by (with_reducible repeat (first | apply Kd.S_alloc | apply Kd.S_drewN | apply Kd.S_drew)); exact HO_8.out⟩, ⟨by (with_reducible repeat (first | apply Kd.R_alloc | apply Kd.R_drewN | apply Kd.R_drew)); exact HO_12.out⟩, ⟨by (with_reducible repeat (first | apply Kd.R_alloc | apply Kd.R_drewN | apply Kd.R_drew)); exact HO_14.out⟩, ⟨by (with_reducible repeat (first | apply Kd.S_alloc | apply Kd.S_drewN | apply Kd.S_drew)); exact HO_149.out⟩, ⟨by repeat (first | (with_reducible first | exact HB.out | apply below_alloc | apply pw_below_drewN | apply below_drew1) | exact HB.out)⟩⟩
               ·as_aux_lemma =>
                rw [if_neg c81] at H
                have c81b0 : decide (0 < x151_3) = false := decide_eq_false c81
                clear c81
                have H' := Aside0.mk H
                clear H
                have p676 : 0 ≤ (x151_3 : Int) := of_decide_eq_true (by first | (with_reducible assumption) | assumption)
                have q676 : x151_3 < (t647.length : Int) := of_decide_eq_true (by first | (with_reducible assumption) | assumption)
                obtain ⟨ad676, A676_0, c676_0, e676, hx676_0, hl676_0, hi676_0⟩ := at_L1 (Kd.S_reads' HO_149.out).2.2 x151_3 p676 q676
                cases e676
                obtain ⟨ce676, hce676, hMe676, hcc676⟩ := Kd.S_get HO_149.out [] x151_3 p676 (by first | exact q676 | exact of_decide_eq_true (by first | (with_reducible assumption) | assumption) | (have e_ := (Kd.S_reads' HO_149.out).1; omega))
                obtain ⟨ve676_0, rfl, ge676_0⟩ := hMe676
                have hv676_0 := hcc676 0 _ rfl
                rw [Nat.add_zero, show ((Kd.slice 3 (Kd.int .i64))).sz = 1 from rfl, Nat.mul_one] at hv676_0
                replace hv676_0 := Option.some.inj (hv676_0.symm.trans hx676_0)
                rw [hv676_0] at ge676_0
                have HL676_0 := Aside0.mk (show Kd.R (Kd.int .i64) 3 _ _ _ _ (rd_L1 t647 x151_3) from ge676_0)
                clear hv676_0 ge676_0; clear hcc676 hce676
                have HR676_0 := Aside0.mk hi676_0
                have HC676_0 := Aside0.mk hl676_0
                clear hi676_0 hl676_0; replace p676 := eq_true p676; replace q676 := eq_true q676
                try go_wp2_with (first | ((with_reducible refine gate_callee (f := 38) rfl ?_); refine goesL_ (some 160) rfl rfl Try.func38 (by kernel_rfl) rfl #[.slice A676_0 (rd_L1 t647 x151_3).length c676_0, .int .i64 t643, .int .i64 t644] rfl (by (try simp only [List.map_toArray, List.map_cons, List.map_nil]); first | done | rfl) ?_; (with_reducible refine (impl_IsFundamental.calls k3 _ _ (rd_L1 t647 x151_3) t643 t644 t677 true _ ?side1 ?side2 A74.out).mono ?_); (case side1 => repeat (first | exact (by repeat (first | (with_reducible exact HR676_0.out) | (with_reducible refine Kd.C_alloc ?_ _) | (with_reducible refine Kd.C_drewN ?_ _) | (with_reducible refine Kd.C_drew ?_) | exact HR676_0.out)) | (with_reducible refine Kd.C_alloc ?_ _) | (with_reducible refine Kd.C_drewN ?_ _) | (with_reducible refine Kd.C_drew ?_))); (case side2 => exact HC676_0.out); rintro e w94 ⟨rfl, hb⟩; refine ⟨_, rfl, ?_⟩; have n0_ := Aside0.mk (Kd.R_below (by (with_reducible repeat (first | apply Kd.R_alloc | apply Kd.R_drewN | apply Kd.R_drew)); exact HO_5.out) hb); have n1_ := Aside0.mk (Kd.S_below (by (with_reducible repeat (first | apply Kd.S_alloc | apply Kd.S_drewN | apply Kd.S_drew)); exact HO_8.out) hb); have n2_ := Aside0.mk (Kd.R_below (by (with_reducible repeat (first | apply Kd.R_alloc | apply Kd.R_drewN | apply Kd.R_drew)); exact HO_12.out) hb); have n3_ := Aside0.mk (Kd.R_below (by (with_reducible repeat (first | apply Kd.R_alloc | apply Kd.R_drewN | apply Kd.R_drew)); exact HO_14.out) hb); have n4_ := Aside0.mk (Kd.S_below (by (with_reducible repeat (first | apply Kd.S_alloc | apply Kd.S_drewN | apply Kd.S_drew)); exact HO_149.out) hb); have n5_ := Aside0.mk (Kd.R_below (by (with_reducible repeat (first | apply Kd.R_alloc | apply Kd.R_drewN | apply Kd.R_drew)); exact HL676_0.out) hb); have n6_ := Aside0.mk (Kd.C_below (by repeat (first | (with_reducible exact HR676_0.out) | (with_reducible refine Kd.C_alloc ?_ _) | (with_reducible refine Kd.C_drewN ?_ _) | (with_reducible refine Kd.C_drew ?_) | exact HR676_0.out)) hb); have n7_ := Aside0.mk (below_step (by repeat (first | (with_reducible first | exact HB.out | apply below_alloc | apply pw_below_drewN | apply below_drew1) | exact HB.out)) hb); clear HO_5; clear HO_8; clear HO_12; clear HO_14; clear HO_149; clear HL676_0; clear HR676_0; clear HB; have HO_5 := n0_; have HO_8 := n1_; have HO_12 := n2_; have HO_14 := n3_; have HO_149 := n4_; have HL676_0 := n5_; have HR676_0 := n6_; have HB := n7_; clear n0_ n1_ n2_ n3_ n4_ n5_ n6_ n7_; (try clear hb); (try clear hb2); (try clear hk); (try clear hi)))
                have n0_ := Aside0.mk (Kd.R_drew HO_5.out)
                have n1_ := Aside0.mk (Kd.S_drew HO_8.out)
                have n2_ := Aside0.mk (Kd.R_drew HO_12.out)
                have n3_ := Aside0.mk (Kd.R_drew HO_14.out)
                have n4_ := Aside0.mk (Kd.S_drew HO_149.out)
                have n5_ := Aside0.mk (Kd.R_drew HL676_0.out)
                have n6_ := Aside0.mk (Kd.C_drew HR676_0.out)
                have n7_ := Aside0.mk (below_drew1 HB.out)
                clear HO_5; clear HO_8; clear HO_12; clear HO_14; clear HO_149; clear HL676_0; clear HR676_0; clear HB; have HO_5 := n0_; have HO_8 := n1_; have HO_12 := n2_; have HO_14 := n3_; have HO_149 := n4_; have HL676_0 := n5_; have HR676_0 := n6_; have HB := n7_; clear n0_ n1_ n2_ n3_ n4_ n5_ n6_ n7_
                refine start_ (n := 33) (S := fun w' => True) (ds := []) b0WOH (by kernel_rfl) rfl rfl trivial (fun hHeld => ?_); refine with_tabW laws_FnWaysOfHurwitz.tab20 laws_FnWaysOfHurwitz.bits20 (fun HT_ HW_ => ?_)
                generalize w94.drew = w95 at HO_5 HO_8 HO_12 HO_14 HO_149 HL676_0 HR676_0 HB hHeld ⊢
                refine pure_ (i := 0) (N := some 163) (v := ?_) (a' := ?_) b1WOH rfl rfl (any_of HT_.out (by kernel_rfl)) (fun _ _ _ h => h) (Or.inl ⟨by rfl, ?_⟩) ?_ ?_
                rotate_left; (intro w'; go_simp; with_reducible rfl); rotate_left; (simp only [Act.put, List.setIfInBounds_toArray, List.set_cons_zero, List.set_cons_succ, i64_w]; rfl)
                refine pure_ (i := 1) (N := some 164) (v := ?_) (a' := ?_) b2WOH rfl rfl (any_of HT_.out (by kernel_rfl)) (fun _ _ _ h => h) (Or.inl ⟨by rfl, ?_⟩) ?_ ?_
                rotate_left; (intro w'; go_simp; with_reducible rfl); rotate_left; (simp only [Act.put, List.setIfInBounds_toArray, List.set_cons_zero, List.set_cons_succ, i64_w]; rfl)
                refine pure_ (i := 2) (N := some 165) (v := ?_) (a' := ?_) b3WOH rfl rfl (any_of HT_.out (by kernel_rfl)) (fun _ _ _ h => h) (Or.inl ⟨by rfl, ?_⟩) ?_ ?_
                rotate_left; (intro w'; go_simp; with_reducible rfl); rotate_left; (simp only [Act.put, List.setIfInBounds_toArray, List.set_cons_zero, List.set_cons_succ, i64_w]; rfl)
                refine pure_ (i := 3) (N := some 166) (v := ?_) (a' := ?_) b4WOH rfl rfl (any_of HT_.out (by kernel_rfl)) (fun _ _ _ h => h) (Or.inl ⟨by rfl, ?_⟩) ?_ ?_
                rotate_left; (intro w'; go_simp; with_reducible rfl); rotate_left; (simp only [Act.put, List.setIfInBounds_toArray, List.set_cons_zero, List.set_cons_succ, i64_w]; rfl)
                refine pure_ (i := 4) (N := some 167) (v := ?_) (a' := ?_) b5WOH rfl rfl (any_of HT_.out (by kernel_rfl)) (fun _ _ _ h => h) (Or.inl ⟨by rfl, ?_⟩) ?_ ?_
                rotate_left; (intro w'; go_simp; with_reducible rfl); rotate_left; (simp only [Act.put, List.setIfInBounds_toArray, List.set_cons_zero, List.set_cons_succ, i64_w]; rfl)
                refine pure_ (i := 5) (N := some 168) (v := ?_) (a' := ?_) b6WOH rfl rfl (any_of HT_.out (by kernel_rfl)) (fun _ _ _ h => h) (Or.inl ⟨by rfl, ?_⟩) ?_ ?_
                rotate_left; (intro w'; go_simp; with_reducible rfl); rotate_left; (simp only [Act.put, List.setIfInBounds_toArray, List.set_cons_zero, List.set_cons_succ, i64_w]; rfl)
                refine pure_ (i := 6) (N := some 169) (v := ?_) (a' := ?_) b7WOH rfl rfl (any_of HT_.out (by kernel_rfl)) (fun _ _ _ h => h) (Or.inl ⟨by rfl, ?_⟩) ?_ ?_
                rotate_left; (intro w'; go_simp; with_reducible rfl); rotate_left; (simp only [Act.put, List.setIfInBounds_toArray, List.set_cons_zero, List.set_cons_succ, i64_w]; rfl)
                refine pure_ (i := 7) (N := some 170) (v := ?_) (a' := ?_) b8WOH rfl rfl (any_of HT_.out (by kernel_rfl)) (fun _ _ _ h => h) (Or.inl ⟨by rfl, ?_⟩) ?_ ?_
                rotate_left; (intro w'; go_simp; with_reducible rfl); rotate_left; (simp only [Act.put, List.setIfInBounds_toArray, List.set_cons_zero, List.set_cons_succ, i64_w]; rfl)
                refine pure_ (i := 8) (N := some 171) (v := ?_) (a' := ?_) b9WOH rfl rfl (any_of HT_.out (by kernel_rfl)) (fun _ _ _ h => h) (Or.inl ⟨by rfl, ?_⟩) ?_ ?_
                rotate_left; (intro w'; go_simp; with_reducible rfl); rotate_left; (simp only [Act.put, List.setIfInBounds_toArray, List.set_cons_zero, List.set_cons_succ, i64_w]; rfl)
                refine pure_ (i := 9) (N := some 172) (v := ?_) (a' := ?_) b10WOH rfl rfl (any_of HT_.out (by kernel_rfl)) (fun _ _ _ h => h) (Or.inl ⟨by rfl, ?_⟩) ?_ ?_
                rotate_left; (intro w'; go_simp; with_reducible rfl); rotate_left; (simp only [Act.put, List.setIfInBounds_toArray, List.set_cons_zero, List.set_cons_succ, i64_w]; rfl)
                refine pure_ (i := 10) (N := some 173) (v := ?_) (a' := ?_) b11WOH rfl rfl (any_of HT_.out (by kernel_rfl)) (fun _ _ _ h => h) (Or.inl ⟨by rfl, ?_⟩) ?_ ?_
                rotate_left; (intro w'; go_simp; with_reducible rfl); rotate_left; (simp only [Act.put, List.setIfInBounds_toArray, List.set_cons_zero, List.set_cons_succ, i64_w]; rfl)
                refine pure_ (i := 11) (N := some 174) (v := ?_) (a' := ?_) b12WOH rfl rfl (any_of HT_.out (by kernel_rfl)) (fun _ _ _ h => h) (Or.inl ⟨by rfl, ?_⟩) ?_ ?_
                rotate_left; (intro w'; go_simp; with_reducible rfl); rotate_left; (simp only [Act.put, List.setIfInBounds_toArray, List.set_cons_zero, List.set_cons_succ, i64_w]; rfl)
                refine pure_ (i := 12) (N := some 175) (v := ?_) (a' := ?_) b13WOH rfl rfl (any_of HT_.out (by kernel_rfl)) (fun _ _ _ h => h) (Or.inl ⟨by rfl, ?_⟩) ?_ ?_
                rotate_left; (intro w'; go_simp; with_reducible rfl); rotate_left; (simp only [Act.put, List.setIfInBounds_toArray, List.set_cons_zero, List.set_cons_succ, i64_w]; rfl)
                refine pure_ (i := 13) (N := some 176) (v := ?_) (a' := ?_) b14WOH rfl rfl (any_of HT_.out (by kernel_rfl)) (fun _ _ _ h => h) (Or.inl ⟨by rfl, ?_⟩) ?_ ?_
                rotate_left; (intro w'; go_simp; with_reducible rfl); rotate_left; (simp only [Act.put, List.setIfInBounds_toArray, List.set_cons_zero, List.set_cons_succ, i64_w]; rfl)
                refine pure_ (i := 14) (N := some 177) (v := ?_) (a' := ?_) b15WOH rfl rfl (any_of HT_.out (by kernel_rfl)) (fun _ _ _ h => h) (Or.inl ⟨by rfl, ?_⟩) ?_ ?_
                rotate_left; (intro w'; go_simp; with_reducible rfl); rotate_left; (simp only [Act.put, List.setIfInBounds_toArray, List.set_cons_zero, List.set_cons_succ, i64_w]; rfl)
                refine one_ (i := 15) (N := some 178) b16WOH rfl rfl (one_of HT_.out (by kernel_rfl)) (by decide) (fun K hK => ?_)
                refine goes_ Try.func39 (by kernel_rfl) rfl #[.slice A676_0 (rd_L1 t647 x151_3).length c676_0, .int .i64 t643, .int .i64 t644] (by rfl) rfl rfl (by (try simp only [List.map_toArray, List.map_cons, List.map_nil]); first | done | rfl) ?_
                with_reducible refine (laws_vSolves.calls k3 _ _ (rd_L1 t647 x151_3) t643 t644 true _ ?side1 ?side2 A79.out).mono ?_
                (case side1 => first | (obtain ⟨ad_, A_, c_, e_, hx_, hl_, hi_⟩ := at_L1 (Kd.S_reads' HO_149.out).2.2 x151_3 (of_eq_true p676) (of_eq_true q676); cases e_; have hq_ := hx_.symm.trans hHeld; injection hq_ with hq_; injection hq_ with e1_ e2_ e3_; subst e1_; exact hi_) | (obtain ⟨ad_, A_, c_, e_, hx_, hl_, hi_⟩ := at_L1 (Kd.S_reads' HO_149.out).2.2 x151_3 (of_eq_true p676) (of_eq_true q676); cases e_; have hq_ := hx_.symm.trans hHeld.1; injection hq_ with hq_; injection hq_ with e1_ e2_ e3_; subst e1_; exact hi_) | (obtain ⟨ad_, A_, c_, e_, hx_, hl_, hi_⟩ := at_L1 (Kd.S_reads' HO_149.out).2.2 x151_3 (of_eq_true p676) (of_eq_true q676); cases e_; have hq_ := hx_.symm.trans hHeld.2; injection hq_ with hq_; injection hq_ with e1_ e2_ e3_; subst e1_; exact hi_) | (repeat (first | exact (by repeat (first | (with_reducible exact HR676_0.out) | (with_reducible refine Kd.C_alloc ?_ _) | (with_reducible refine Kd.C_drewN ?_ _) | (with_reducible refine Kd.C_drew ?_) | exact HR676_0.out)) | (with_reducible refine Kd.C_alloc ?_ _) | (with_reducible refine Kd.C_drewN ?_ _) | (with_reducible refine Kd.C_drew ?_))))
                (case side2 => exact HC676_0.out)
                rintro e w96 ⟨rfl, hb⟩
                refine ⟨_, rfl, ?_⟩
                have n0_ := Aside0.mk (Kd.R_below (by (with_reducible repeat (first | apply Kd.R_alloc | apply Kd.R_drewN | apply Kd.R_drew)); exact HO_5.out) hb)
                have n1_ := Aside0.mk (Kd.S_below (by (with_reducible repeat (first | apply Kd.S_alloc | apply Kd.S_drewN | apply Kd.S_drew)); exact HO_8.out) hb)
                have n2_ := Aside0.mk (Kd.R_below (by (with_reducible repeat (first | apply Kd.R_alloc | apply Kd.R_drewN | apply Kd.R_drew)); exact HO_12.out) hb)
                have n3_ := Aside0.mk (Kd.R_below (by (with_reducible repeat (first | apply Kd.R_alloc | apply Kd.R_drewN | apply Kd.R_drew)); exact HO_14.out) hb)
                have n4_ := Aside0.mk (Kd.S_below (by (with_reducible repeat (first | apply Kd.S_alloc | apply Kd.S_drewN | apply Kd.S_drew)); exact HO_149.out) hb)
                have n5_ := Aside0.mk (Kd.R_below (by (with_reducible repeat (first | apply Kd.R_alloc | apply Kd.R_drewN | apply Kd.R_drew)); exact HL676_0.out) hb)
                have n6_ := Aside0.mk (Kd.C_below (by repeat (first | (with_reducible exact HR676_0.out) | (with_reducible refine Kd.C_alloc ?_ _) | (with_reducible refine Kd.C_drewN ?_ _) | (with_reducible refine Kd.C_drew ?_) | exact HR676_0.out)) hb)
                have n7_ := Aside0.mk (below_step (by repeat (first | (with_reducible first | exact HB.out | apply below_alloc | apply pw_below_drewN | apply below_drew1) | exact HB.out)) hb)
                clear HO_5; clear HO_8; clear HO_12; clear HO_14; clear HO_149; clear HL676_0; clear HR676_0; clear HB; have HO_5 := n0_; have HO_8 := n1_; have HO_12 := n2_; have HO_14 := n3_; have HO_149 := n4_; have HL676_0 := n5_; have HR676_0 := n6_; have HB := n7_; clear n0_ n1_ n2_ n3_ n4_ n5_ n6_ n7_; (try clear hb); (try clear hb2); (try clear hk); (try clear hi)
                refine hK.out _ _ trivial (fun hHeld => ?_)
                clear hK K
                refine norm_ (a' := ?_) ?_ ?_
                rotate_left
                ·show Act.put _ (some 178) _ = _
                 simp only [Act.put, List.setIfInBounds_toArray, List.set_cons_zero, List.set_cons_succ, i64_w]
                 rfl
                refine pure_ (i := 16) (N := some 179) (v := ?_) (a' := ?_) b17WOH rfl rfl (any_of HT_.out (by kernel_rfl)) (fun _ _ _ h => h) (Or.inl ⟨by rfl, ?_⟩) ?_ ?_
                rotate_left; (intro w'; go_simp; with_reducible rfl); rotate_left; (simp only [Act.put, List.setIfInBounds_toArray, List.set_cons_zero, List.set_cons_succ, i64_w]; rfl)
                refine pure_ (i := 17) (N := some 180) (v := ?_) (a' := ?_) b18WOH rfl rfl (any_of HT_.out (by kernel_rfl)) (fun _ _ _ h => h) (Or.inl ⟨by rfl, ?_⟩) ?_ ?_
                rotate_left; (intro w'; go_simp; with_reducible rfl); rotate_left; (simp only [Act.put, List.setIfInBounds_toArray, List.set_cons_zero, List.set_cons_succ, i64_w]; rfl)
                refine pure_ (i := 18) (N := some 181) (v := ?_) (a' := ?_) b19WOH rfl rfl (any_of HT_.out (by kernel_rfl)) (fun _ _ _ h => h) (Or.inl ⟨by rfl, ?_⟩) ?_ ?_
                rotate_left; (intro w'; go_simp; with_reducible rfl); rotate_left; (simp only [Act.put, List.setIfInBounds_toArray, List.set_cons_zero, List.set_cons_succ, i64_w]; rfl)
                refine pure_ (i := 19) (N := some 182) (v := ?_) (a' := ?_) b20WOH rfl rfl (any_of HT_.out (by kernel_rfl)) (fun _ _ _ h => h) (Or.inl ⟨by rfl, ?_⟩) ?_ ?_
                rotate_left; (intro w'; go_simp; with_reducible rfl); rotate_left; (simp only [Act.put, List.setIfInBounds_toArray, List.set_cons_zero, List.set_cons_succ, i64_w]; rfl)
                refine pure_ (i := 20) (N := some 183) (v := ?_) (a' := ?_) b21WOH rfl rfl (any_of HT_.out (by kernel_rfl)) (fun _ _ _ h => h) (Or.inl ⟨by rfl, ?_⟩) ?_ ?_
                rotate_left; (intro w'; go_simp; with_reducible rfl); rotate_left; (simp only [Act.put, List.setIfInBounds_toArray, List.set_cons_zero, List.set_cons_succ, i64_w]; rfl)
                refine pure_ (i := 21) (N := some 184) (v := ?_) (a' := ?_) b22WOH rfl rfl (any_of HT_.out (by kernel_rfl)) (fun _ _ _ h => h) (Or.inl ⟨by rfl, ?_⟩) ?_ ?_
                rotate_left; (intro w'; go_simp; with_reducible rfl); rotate_left; (simp only [Act.put, List.setIfInBounds_toArray, List.set_cons_zero, List.set_cons_succ, i64_w]; rfl)
                refine pure_ (i := 22) (N := some 185) (v := undef) (a' := ?_) b23WOH rfl rfl (any_of HT_.out (by kernel_rfl)) (fun _ _ _ h => h) (Or.inr ⟨by rfl, rfl⟩) ?_ ?_
                rotate_left
                ·simp only [Act.put, List.setIfInBounds_toArray, List.set_cons_zero, List.set_cons_succ, i64_w]
                 rfl
                refine pure_ (i := 23) (N := some 186) (v := undef) (a' := ?_) b24WOH rfl rfl (any_of HT_.out (by kernel_rfl)) (fun _ _ _ h => h) (Or.inr ⟨by rfl, rfl⟩) ?_ ?_
                rotate_left
                ·simp only [Act.put, List.setIfInBounds_toArray, List.set_cons_zero, List.set_cons_succ, i64_w]
                 rfl
                refine pure_ (i := 24) (N := some 187) (v := undef) (a' := ?_) b25WOH rfl rfl (any_of HT_.out (by kernel_rfl)) (fun _ _ _ h => h) (Or.inr ⟨by rfl, rfl⟩) ?_ ?_
                rotate_left
                ·simp only [Act.put, List.setIfInBounds_toArray, List.set_cons_zero, List.set_cons_succ, i64_w]
                 rfl
                refine pure_ (i := 25) (N := some 188) (v := undef) (a' := ?_) b26WOH rfl rfl (any_of HT_.out (by kernel_rfl)) (fun _ _ _ h => h) (Or.inr ⟨by rfl, rfl⟩) ?_ ?_
                rotate_left
                ·simp only [Act.put, List.setIfInBounds_toArray, List.set_cons_zero, List.set_cons_succ, i64_w]
                 rfl
                refine pure_ (i := 26) (N := some 189) (v := undef) (a' := ?_) b27WOH rfl rfl (any_of HT_.out (by kernel_rfl)) (fun _ _ _ h => h) (Or.inr ⟨by rfl, rfl⟩) ?_ ?_
                rotate_left
                ·simp only [Act.put, List.setIfInBounds_toArray, List.set_cons_zero, List.set_cons_succ, i64_w]
                 rfl
                refine pure_ (i := 27) (N := some 190) (v := undef) (a' := ?_) b28WOH rfl rfl (any_of HT_.out (by kernel_rfl)) (fun _ _ _ h => h) (Or.inr ⟨by rfl, rfl⟩) ?_ ?_
                rotate_left
                ·simp only [Act.put, List.setIfInBounds_toArray, List.set_cons_zero, List.set_cons_succ, i64_w]
                 rfl
                refine pure_ (i := 28) (N := some 191) (v := undef) (a' := ?_) b29WOH rfl rfl (any_of HT_.out (by kernel_rfl)) (fun _ _ _ h => h) (Or.inr ⟨by rfl, rfl⟩) ?_ ?_
                rotate_left
                ·simp only [Act.put, List.setIfInBounds_toArray, List.set_cons_zero, List.set_cons_succ, i64_w]
                 rfl
                refine pure_ (i := 29) (N := some 192) (v := undef) (a' := ?_) b30WOH rfl rfl (any_of HT_.out (by kernel_rfl)) (fun _ _ _ h => h) (Or.inr ⟨by rfl, rfl⟩) ?_ ?_
                rotate_left
                ·simp only [Act.put, List.setIfInBounds_toArray, List.set_cons_zero, List.set_cons_succ, i64_w]
                 rfl
                refine pure_ (i := 30) (N := some 193) (v := undef) (a' := ?_) b31WOH rfl rfl (any_of HT_.out (by kernel_rfl)) (fun _ _ _ h => h) (Or.inr ⟨by rfl, rfl⟩) ?_ ?_
                rotate_left
                ·simp only [Act.put, List.setIfInBounds_toArray, List.set_cons_zero, List.set_cons_succ, i64_w]
                 rfl
                refine pure_ (i := 31) (N := some 194) (v := ?_) (a' := ?_) b32WOH rfl rfl (any_of HT_.out (by kernel_rfl)) (fun _ _ _ h => h) (Or.inl ⟨by rfl, ?_⟩) ?_ ?_
                rotate_left; (intro w'; go_simp; with_reducible rfl); rotate_left; (simp only [Act.put, List.setIfInBounds_toArray, List.set_cons_zero, List.set_cons_succ, i64_w]; rfl)
                refine pure_ (i := 32) (N := some 195) (v := ?_) (a' := ?_) b33WOH rfl rfl (any_of HT_.out (by kernel_rfl)) (fun _ _ _ h => h) (Or.inl ⟨by rfl, ?_⟩) ?_ ?_
                rotate_left; (intro w'; go_simp; with_reducible rfl); rotate_left; (simp only [Act.put, List.setIfInBounds_toArray, List.set_cons_zero, List.set_cons_succ, i64_w]; rfl)
                refine done_ (done_of HT_.out (by kernel_rfl)) ?_
                try go_wp2
                go_roundg k3
                case measure => have := HJ11.out; have := HJ50.out; have := HK3.out; omega
                case rel => exact ⟨(wrap64 (x151_3 + 1)), (by first | rfl | (simp; done) | (simp [*]; done)), H', ⟨by have := HJ11.out; have := HJ50.out; have := HK3.out; omega⟩, ⟨by (with_reducible repeat (first | apply Kd.R_alloc | apply Kd.R_drewN | apply Kd.R_drew)); exact HO_5.out⟩, ⟨by (with_reducible repeat (first | apply Kd.S_alloc | apply Kd.S_drewN | apply Kd.S_drew)); exact HO_8.out⟩, ⟨by (with_reducible repeat (first | apply Kd.R_alloc | apply Kd.R_drewN | apply Kd.R_drew)); exact HO_12.out⟩, ⟨by (with_reducible repeat (first | apply Kd.R_alloc | apply Kd.R_drewN | apply Kd.R_drew)); exact HO_14.out⟩, ⟨by (with_reducible repeat (first | apply Kd.S_alloc | apply Kd.S_drewN | apply Kd.S_drew)); exact HO_149.out⟩, ⟨by repeat (first | (with_reducible first | exact HB.out | apply below_alloc | apply pw_below_drewN | apply below_drew1) | exact HB.out)⟩⟩
              ·as_aux_lemma =>
               replace c80 := Bool.eq_false_iff.mpr c80
               subst c80
               have H1 : (some false) = some r := by rw [if_neg (show ¬ (false = true) by decide)] at H; exact H
               clear H; have H := H1; clear H1
               obtain rfl := Option.some.inj H
               have p676 : 0 ≤ (x151_3 : Int) := of_decide_eq_true (by first | (with_reducible assumption) | assumption)
               have q676 : x151_3 < (t647.length : Int) := of_decide_eq_true (by first | (with_reducible assumption) | assumption)
               obtain ⟨ad676, A676_0, c676_0, e676, hx676_0, hl676_0, hi676_0⟩ := at_L1 (Kd.S_reads' HO_149.out).2.2 x151_3 p676 q676
               cases e676
               obtain ⟨ce676, hce676, hMe676, hcc676⟩ := Kd.S_get HO_149.out [] x151_3 p676 (by first | exact q676 | exact of_decide_eq_true (by first | (with_reducible assumption) | assumption) | (have e_ := (Kd.S_reads' HO_149.out).1; omega))
               obtain ⟨ve676_0, rfl, ge676_0⟩ := hMe676
               have hv676_0 := hcc676 0 _ rfl
               rw [Nat.add_zero, show ((Kd.slice 3 (Kd.int .i64))).sz = 1 from rfl, Nat.mul_one] at hv676_0
               replace hv676_0 := Option.some.inj (hv676_0.symm.trans hx676_0)
               rw [hv676_0] at ge676_0
               have HL676_0 := Aside0.mk (show Kd.R (Kd.int .i64) 3 _ _ _ _ (rd_L1 t647 x151_3) from ge676_0)
               clear hv676_0 ge676_0; clear hcc676 hce676
               have HR676_0 := Aside0.mk hi676_0
               have HC676_0 := Aside0.mk hl676_0
               clear hi676_0 hl676_0; replace p676 := eq_true p676; replace q676 := eq_true q676
               try go_wp2_with (first | ((with_reducible refine gate_callee (f := 38) rfl ?_); refine goesL_ (some 160) rfl rfl Try.func38 (by kernel_rfl) rfl #[.slice A676_0 (rd_L1 t647 x151_3).length c676_0, .int .i64 t643, .int .i64 t644] rfl (by (try simp only [List.map_toArray, List.map_cons, List.map_nil]); first | done | rfl) ?_; (with_reducible refine (impl_IsFundamental.calls k3 _ _ (rd_L1 t647 x151_3) t643 t644 t677 true _ ?side1 ?side2 A74.out).mono ?_); (case side1 => repeat (first | exact (by repeat (first | (with_reducible exact HR676_0.out) | (with_reducible refine Kd.C_alloc ?_ _) | (with_reducible refine Kd.C_drewN ?_ _) | (with_reducible refine Kd.C_drew ?_) | exact HR676_0.out)) | (with_reducible refine Kd.C_alloc ?_ _) | (with_reducible refine Kd.C_drewN ?_ _) | (with_reducible refine Kd.C_drew ?_))); (case side2 => exact HC676_0.out); rintro e w97 ⟨rfl, hb⟩; refine ⟨_, rfl, ?_⟩; have n0_ := Aside0.mk (Kd.R_below (by (with_reducible repeat (first | apply Kd.R_alloc | apply Kd.R_drewN | apply Kd.R_drew)); exact HO_5.out) hb); have n1_ := Aside0.mk (Kd.S_below (by (with_reducible repeat (first | apply Kd.S_alloc | apply Kd.S_drewN | apply Kd.S_drew)); exact HO_8.out) hb); have n2_ := Aside0.mk (Kd.R_below (by (with_reducible repeat (first | apply Kd.R_alloc | apply Kd.R_drewN | apply Kd.R_drew)); exact HO_12.out) hb); have n3_ := Aside0.mk (Kd.R_below (by (with_reducible repeat (first | apply Kd.R_alloc | apply Kd.R_drewN | apply Kd.R_drew)); exact HO_14.out) hb); have n4_ := Aside0.mk (Kd.S_below (by (with_reducible repeat (first | apply Kd.S_alloc | apply Kd.S_drewN | apply Kd.S_drew)); exact HO_149.out) hb); have n5_ := Aside0.mk (Kd.R_below (by (with_reducible repeat (first | apply Kd.R_alloc | apply Kd.R_drewN | apply Kd.R_drew)); exact HL676_0.out) hb); have n6_ := Aside0.mk (Kd.C_below (by repeat (first | (with_reducible exact HR676_0.out) | (with_reducible refine Kd.C_alloc ?_ _) | (with_reducible refine Kd.C_drewN ?_ _) | (with_reducible refine Kd.C_drew ?_) | exact HR676_0.out)) hb); have n7_ := Aside0.mk (below_step (by repeat (first | (with_reducible first | exact HB.out | apply below_alloc | apply pw_below_drewN | apply below_drew1) | exact HB.out)) hb); clear HO_5; clear HO_8; clear HO_12; clear HO_14; clear HO_149; clear HL676_0; clear HR676_0; clear HB; have HO_5 := n0_; have HO_8 := n1_; have HO_12 := n2_; have HO_14 := n3_; have HO_149 := n4_; have HL676_0 := n5_; have HR676_0 := n6_; have HB := n7_; clear n0_ n1_ n2_ n3_ n4_ n5_ n6_ n7_; (try clear hb); (try clear hb2); (try clear hk); (try clear hi)))
               have n0_ := Aside0.mk (Kd.R_drew HO_5.out)
               have n1_ := Aside0.mk (Kd.S_drew HO_8.out)
               have n2_ := Aside0.mk (Kd.R_drew HO_12.out)
               have n3_ := Aside0.mk (Kd.R_drew HO_14.out)
               have n4_ := Aside0.mk (Kd.S_drew HO_149.out)
               have n5_ := Aside0.mk (Kd.R_drew HL676_0.out)
               have n6_ := Aside0.mk (Kd.C_drew HR676_0.out)
               have n7_ := Aside0.mk (below_drew1 HB.out)
               clear HO_5; clear HO_8; clear HO_12; clear HO_14; clear HO_149; clear HL676_0; clear HR676_0; clear HB; have HO_5 := n0_; have HO_8 := n1_; have HO_12 := n2_; have HO_14 := n3_; have HO_149 := n4_; have HL676_0 := n5_; have HR676_0 := n6_; have HB := n7_; clear n0_ n1_ n2_ n3_ n4_ n5_ n6_ n7_
               refine start_ (n := 33) (S := fun w' => True) (ds := []) b0WOH (by kernel_rfl) rfl rfl trivial (fun hHeld => ?_); refine with_tabW laws_FnWaysOfHurwitz.tab20 laws_FnWaysOfHurwitz.bits20 (fun HT_ HW_ => ?_)
               generalize w97.drew = w98 at HO_5 HO_8 HO_12 HO_14 HO_149 HL676_0 HR676_0 HB hHeld ⊢
               refine pure_ (i := 0) (N := some 163) (v := ?_) (a' := ?_) b1WOH rfl rfl (any_of HT_.out (by kernel_rfl)) (fun _ _ _ h => h) (Or.inl ⟨by rfl, ?_⟩) ?_ ?_
               rotate_left; (intro w'; go_simp; with_reducible rfl); rotate_left; (simp only [Act.put, List.setIfInBounds_toArray, List.set_cons_zero, List.set_cons_succ, i64_w]; rfl)
               refine pure_ (i := 1) (N := some 164) (v := ?_) (a' := ?_) b2WOH rfl rfl (any_of HT_.out (by kernel_rfl)) (fun _ _ _ h => h) (Or.inl ⟨by rfl, ?_⟩) ?_ ?_
               rotate_left; (intro w'; go_simp; with_reducible rfl); rotate_left; (simp only [Act.put, List.setIfInBounds_toArray, List.set_cons_zero, List.set_cons_succ, i64_w]; rfl)
               refine pure_ (i := 2) (N := some 165) (v := ?_) (a' := ?_) b3WOH rfl rfl (any_of HT_.out (by kernel_rfl)) (fun _ _ _ h => h) (Or.inl ⟨by rfl, ?_⟩) ?_ ?_
               rotate_left; (intro w'; go_simp; with_reducible rfl); rotate_left; (simp only [Act.put, List.setIfInBounds_toArray, List.set_cons_zero, List.set_cons_succ, i64_w]; rfl)
               refine pure_ (i := 3) (N := some 166) (v := ?_) (a' := ?_) b4WOH rfl rfl (any_of HT_.out (by kernel_rfl)) (fun _ _ _ h => h) (Or.inl ⟨by rfl, ?_⟩) ?_ ?_
               rotate_left; (intro w'; go_simp; with_reducible rfl); rotate_left; (simp only [Act.put, List.setIfInBounds_toArray, List.set_cons_zero, List.set_cons_succ, i64_w]; rfl)
               refine pure_ (i := 4) (N := some 167) (v := ?_) (a' := ?_) b5WOH rfl rfl (any_of HT_.out (by kernel_rfl)) (fun _ _ _ h => h) (Or.inl ⟨by rfl, ?_⟩) ?_ ?_
               rotate_left; (intro w'; go_simp; with_reducible rfl); rotate_left; (simp only [Act.put, List.setIfInBounds_toArray, List.set_cons_zero, List.set_cons_succ, i64_w]; rfl)
               refine pure_ (i := 5) (N := some 168) (v := ?_) (a' := ?_) b6WOH rfl rfl (any_of HT_.out (by kernel_rfl)) (fun _ _ _ h => h) (Or.inl ⟨by rfl, ?_⟩) ?_ ?_
               rotate_left; (intro w'; go_simp; with_reducible rfl); rotate_left; (simp only [Act.put, List.setIfInBounds_toArray, List.set_cons_zero, List.set_cons_succ, i64_w]; rfl)
               refine pure_ (i := 6) (N := some 169) (v := ?_) (a' := ?_) b7WOH rfl rfl (any_of HT_.out (by kernel_rfl)) (fun _ _ _ h => h) (Or.inl ⟨by rfl, ?_⟩) ?_ ?_
               rotate_left; (intro w'; go_simp; with_reducible rfl); rotate_left; (simp only [Act.put, List.setIfInBounds_toArray, List.set_cons_zero, List.set_cons_succ, i64_w]; rfl)
               refine pure_ (i := 7) (N := some 170) (v := ?_) (a' := ?_) b8WOH rfl rfl (any_of HT_.out (by kernel_rfl)) (fun _ _ _ h => h) (Or.inl ⟨by rfl, ?_⟩) ?_ ?_
               rotate_left; (intro w'; go_simp; with_reducible rfl); rotate_left; (simp only [Act.put, List.setIfInBounds_toArray, List.set_cons_zero, List.set_cons_succ, i64_w]; rfl)
               refine pure_ (i := 8) (N := some 171) (v := ?_) (a' := ?_) b9WOH rfl rfl (any_of HT_.out (by kernel_rfl)) (fun _ _ _ h => h) (Or.inl ⟨by rfl, ?_⟩) ?_ ?_
               rotate_left; (intro w'; go_simp; with_reducible rfl); rotate_left; (simp only [Act.put, List.setIfInBounds_toArray, List.set_cons_zero, List.set_cons_succ, i64_w]; rfl)
               refine pure_ (i := 9) (N := some 172) (v := ?_) (a' := ?_) b10WOH rfl rfl (any_of HT_.out (by kernel_rfl)) (fun _ _ _ h => h) (Or.inl ⟨by rfl, ?_⟩) ?_ ?_
               rotate_left; (intro w'; go_simp; with_reducible rfl); rotate_left; (simp only [Act.put, List.setIfInBounds_toArray, List.set_cons_zero, List.set_cons_succ, i64_w]; rfl)
               refine pure_ (i := 10) (N := some 173) (v := ?_) (a' := ?_) b11WOH rfl rfl (any_of HT_.out (by kernel_rfl)) (fun _ _ _ h => h) (Or.inl ⟨by rfl, ?_⟩) ?_ ?_
               rotate_left; (intro w'; go_simp; with_reducible rfl); rotate_left; (simp only [Act.put, List.setIfInBounds_toArray, List.set_cons_zero, List.set_cons_succ, i64_w]; rfl)
               refine pure_ (i := 11) (N := some 174) (v := ?_) (a' := ?_) b12WOH rfl rfl (any_of HT_.out (by kernel_rfl)) (fun _ _ _ h => h) (Or.inl ⟨by rfl, ?_⟩) ?_ ?_
               rotate_left; (intro w'; go_simp; with_reducible rfl); rotate_left; (simp only [Act.put, List.setIfInBounds_toArray, List.set_cons_zero, List.set_cons_succ, i64_w]; rfl)
               refine pure_ (i := 12) (N := some 175) (v := ?_) (a' := ?_) b13WOH rfl rfl (any_of HT_.out (by kernel_rfl)) (fun _ _ _ h => h) (Or.inl ⟨by rfl, ?_⟩) ?_ ?_
               rotate_left; (intro w'; go_simp; with_reducible rfl); rotate_left; (simp only [Act.put, List.setIfInBounds_toArray, List.set_cons_zero, List.set_cons_succ, i64_w]; rfl)
               refine pure_ (i := 13) (N := some 176) (v := ?_) (a' := ?_) b14WOH rfl rfl (any_of HT_.out (by kernel_rfl)) (fun _ _ _ h => h) (Or.inl ⟨by rfl, ?_⟩) ?_ ?_
               rotate_left; (intro w'; go_simp; with_reducible rfl); rotate_left; (simp only [Act.put, List.setIfInBounds_toArray, List.set_cons_zero, List.set_cons_succ, i64_w]; rfl)
               refine pure_ (i := 14) (N := some 177) (v := ?_) (a' := ?_) b15WOH rfl rfl (any_of HT_.out (by kernel_rfl)) (fun _ _ _ h => h) (Or.inl ⟨by rfl, ?_⟩) ?_ ?_
               rotate_left; (intro w'; go_simp; with_reducible rfl); rotate_left; (simp only [Act.put, List.setIfInBounds_toArray, List.set_cons_zero, List.set_cons_succ, i64_w]; rfl)
               refine one_ (i := 15) (N := some 178) b16WOH rfl rfl (one_of HT_.out (by kernel_rfl)) (by decide) (fun K hK => ?_)
               refine goes_ Try.func39 (by kernel_rfl) rfl #[.slice A676_0 (rd_L1 t647 x151_3).length c676_0, .int .i64 t643, .int .i64 t644] (by rfl) rfl rfl (by (try simp only [List.map_toArray, List.map_cons, List.map_nil]); first | done | rfl) ?_
               with_reducible refine (laws_vSolves.calls k3 _ _ (rd_L1 t647 x151_3) t643 t644 false _ ?side1 ?side2 A79.out).mono ?_
               (case side1 => first | (obtain ⟨ad_, A_, c_, e_, hx_, hl_, hi_⟩ := at_L1 (Kd.S_reads' HO_149.out).2.2 x151_3 (of_eq_true p676) (of_eq_true q676); cases e_; have hq_ := hx_.symm.trans hHeld; injection hq_ with hq_; injection hq_ with e1_ e2_ e3_; subst e1_; exact hi_) | (obtain ⟨ad_, A_, c_, e_, hx_, hl_, hi_⟩ := at_L1 (Kd.S_reads' HO_149.out).2.2 x151_3 (of_eq_true p676) (of_eq_true q676); cases e_; have hq_ := hx_.symm.trans hHeld.1; injection hq_ with hq_; injection hq_ with e1_ e2_ e3_; subst e1_; exact hi_) | (obtain ⟨ad_, A_, c_, e_, hx_, hl_, hi_⟩ := at_L1 (Kd.S_reads' HO_149.out).2.2 x151_3 (of_eq_true p676) (of_eq_true q676); cases e_; have hq_ := hx_.symm.trans hHeld.2; injection hq_ with hq_; injection hq_ with e1_ e2_ e3_; subst e1_; exact hi_) | (repeat (first | exact (by repeat (first | (with_reducible exact HR676_0.out) | (with_reducible refine Kd.C_alloc ?_ _) | (with_reducible refine Kd.C_drewN ?_ _) | (with_reducible refine Kd.C_drew ?_) | exact HR676_0.out)) | (with_reducible refine Kd.C_alloc ?_ _) | (with_reducible refine Kd.C_drewN ?_ _) | (with_reducible refine Kd.C_drew ?_))))
               (case side2 => exact HC676_0.out)
               rintro e w99 ⟨rfl, hb⟩
               refine ⟨_, rfl, ?_⟩
               have n0_ := Aside0.mk (Kd.R_below (by (with_reducible repeat (first | apply Kd.R_alloc | apply Kd.R_drewN | apply Kd.R_drew)); exact HO_5.out) hb)
               have n1_ := Aside0.mk (Kd.S_below (by (with_reducible repeat (first | apply Kd.S_alloc | apply Kd.S_drewN | apply Kd.S_drew)); exact HO_8.out) hb)
               have n2_ := Aside0.mk (Kd.R_below (by (with_reducible repeat (first | apply Kd.R_alloc | apply Kd.R_drewN | apply Kd.R_drew)); exact HO_12.out) hb)
               have n3_ := Aside0.mk (Kd.R_below (by (with_reducible repeat (first | apply Kd.R_alloc | apply Kd.R_drewN | apply Kd.R_drew)); exact HO_14.out) hb)
               have n4_ := Aside0.mk (Kd.S_below (by (with_reducible repeat (first | apply Kd.S_alloc | apply Kd.S_drewN | apply Kd.S_drew)); exact HO_149.out) hb)
               have n5_ := Aside0.mk (Kd.R_below (by (with_reducible repeat (first | apply Kd.R_alloc | apply Kd.R_drewN | apply Kd.R_drew)); exact HL676_0.out) hb)
               have n6_ := Aside0.mk (Kd.C_below (by repeat (first | (with_reducible exact HR676_0.out) | (with_reducible refine Kd.C_alloc ?_ _) | (with_reducible refine Kd.C_drewN ?_ _) | (with_reducible refine Kd.C_drew ?_) | exact HR676_0.out)) hb)
               have n7_ := Aside0.mk (below_step (by repeat (first | (with_reducible first | exact HB.out | apply below_alloc | apply pw_below_drewN | apply below_drew1) | exact HB.out)) hb)
               clear HO_5; clear HO_8; clear HO_12; clear HO_14; clear HO_149; clear HL676_0; clear HR676_0; clear HB; have HO_5 := n0_; have HO_8 := n1_; have HO_12 := n2_; have HO_14 := n3_; have HO_149 := n4_; have HL676_0 := n5_; have HR676_0 := n6_; have HB := n7_; clear n0_ n1_ n2_ n3_ n4_ n5_ n6_ n7_; (try clear hb); (try clear hb2); (try clear hk); (try clear hi)
               refine hK.out _ _ trivial (fun hHeld => ?_)
               clear hK K
               refine norm_ (a' := ?_) ?_ ?_
               rotate_left
               ·show Act.put _ (some 178) _ = _
                simp only [Act.put, List.setIfInBounds_toArray, List.set_cons_zero, List.set_cons_succ, i64_w]
                rfl
               refine pure_ (i := 16) (N := some 179) (v := ?_) (a' := ?_) b17WOH rfl rfl (any_of HT_.out (by kernel_rfl)) (fun _ _ _ h => h) (Or.inl ⟨by rfl, ?_⟩) ?_ ?_
               rotate_left; (intro w'; go_simp; with_reducible rfl); rotate_left; (simp only [Act.put, List.setIfInBounds_toArray, List.set_cons_zero, List.set_cons_succ, i64_w]; rfl)
               refine pure_ (i := 17) (N := some 180) (v := ?_) (a' := ?_) b18WOH rfl rfl (any_of HT_.out (by kernel_rfl)) (fun _ _ _ h => h) (Or.inl ⟨by rfl, ?_⟩) ?_ ?_
               rotate_left; (intro w'; go_simp; with_reducible rfl); rotate_left; (simp only [Act.put, List.setIfInBounds_toArray, List.set_cons_zero, List.set_cons_succ, i64_w]; rfl)
               refine pure_ (i := 18) (N := some 181) (v := ?_) (a' := ?_) b19WOH rfl rfl (any_of HT_.out (by kernel_rfl)) (fun _ _ _ h => h) (Or.inl ⟨by rfl, ?_⟩) ?_ ?_
               rotate_left; (intro w'; go_simp; with_reducible rfl); rotate_left; (simp only [Act.put, List.setIfInBounds_toArray, List.set_cons_zero, List.set_cons_succ, i64_w]; rfl)
               refine pure_ (i := 19) (N := some 182) (v := undef) (a' := ?_) b20WOH rfl rfl (any_of HT_.out (by kernel_rfl)) (fun _ _ _ h => h) (Or.inr ⟨by rfl, rfl⟩) ?_ ?_
               rotate_left
               ·simp only [Act.put, List.setIfInBounds_toArray, List.set_cons_zero, List.set_cons_succ, i64_w]
                rfl
               refine pure_ (i := 20) (N := some 183) (v := undef) (a' := ?_) b21WOH rfl rfl (any_of HT_.out (by kernel_rfl)) (fun _ _ _ h => h) (Or.inr ⟨by rfl, rfl⟩) ?_ ?_
               rotate_left
               ·simp only [Act.put, List.setIfInBounds_toArray, List.set_cons_zero, List.set_cons_succ, i64_w]
                rfl
               refine pure_ (i := 21) (N := some 184) (v := undef) (a' := ?_) b22WOH rfl rfl (any_of HT_.out (by kernel_rfl)) (fun _ _ _ h => h) (Or.inr ⟨by rfl, rfl⟩) ?_ ?_
               rotate_left
               ·simp only [Act.put, List.setIfInBounds_toArray, List.set_cons_zero, List.set_cons_succ, i64_w]
                rfl
               refine pure_ (i := 22) (N := some 185) (v := undef) (a' := ?_) b23WOH rfl rfl (any_of HT_.out (by kernel_rfl)) (fun _ _ _ h => h) (Or.inr ⟨by rfl, rfl⟩) ?_ ?_
               rotate_left
               ·simp only [Act.put, List.setIfInBounds_toArray, List.set_cons_zero, List.set_cons_succ, i64_w]
                rfl
               refine pure_ (i := 23) (N := some 186) (v := undef) (a' := ?_) b24WOH rfl rfl (any_of HT_.out (by kernel_rfl)) (fun _ _ _ h => h) (Or.inr ⟨by rfl, rfl⟩) ?_ ?_
               rotate_left
               ·simp only [Act.put, List.setIfInBounds_toArray, List.set_cons_zero, List.set_cons_succ, i64_w]
                rfl
               refine pure_ (i := 24) (N := some 187) (v := undef) (a' := ?_) b25WOH rfl rfl (any_of HT_.out (by kernel_rfl)) (fun _ _ _ h => h) (Or.inr ⟨by rfl, rfl⟩) ?_ ?_
               rotate_left
               ·simp only [Act.put, List.setIfInBounds_toArray, List.set_cons_zero, List.set_cons_succ, i64_w]
                rfl
               refine pure_ (i := 25) (N := some 188) (v := undef) (a' := ?_) b26WOH rfl rfl (any_of HT_.out (by kernel_rfl)) (fun _ _ _ h => h) (Or.inr ⟨by rfl, rfl⟩) ?_ ?_
               rotate_left
               ·simp only [Act.put, List.setIfInBounds_toArray, List.set_cons_zero, List.set_cons_succ, i64_w]
                rfl
               refine pure_ (i := 26) (N := some 189) (v := undef) (a' := ?_) b27WOH rfl rfl (any_of HT_.out (by kernel_rfl)) (fun _ _ _ h => h) (Or.inr ⟨by rfl, rfl⟩) ?_ ?_
               rotate_left
               ·simp only [Act.put, List.setIfInBounds_toArray, List.set_cons_zero, List.set_cons_succ, i64_w]
                rfl
               refine pure_ (i := 27) (N := some 190) (v := undef) (a' := ?_) b28WOH rfl rfl (any_of HT_.out (by kernel_rfl)) (fun _ _ _ h => h) (Or.inr ⟨by rfl, rfl⟩) ?_ ?_
               rotate_left
               ·simp only [Act.put, List.setIfInBounds_toArray, List.set_cons_zero, List.set_cons_succ, i64_w]
                rfl
               refine pure_ (i := 28) (N := some 191) (v := undef) (a' := ?_) b29WOH rfl rfl (any_of HT_.out (by kernel_rfl)) (fun _ _ _ h => h) (Or.inr ⟨by rfl, rfl⟩) ?_ ?_
               rotate_left
               ·simp only [Act.put, List.setIfInBounds_toArray, List.set_cons_zero, List.set_cons_succ, i64_w]
                rfl
               refine pure_ (i := 29) (N := some 192) (v := undef) (a' := ?_) b30WOH rfl rfl (any_of HT_.out (by kernel_rfl)) (fun _ _ _ h => h) (Or.inr ⟨by rfl, rfl⟩) ?_ ?_
               rotate_left
               ·simp only [Act.put, List.setIfInBounds_toArray, List.set_cons_zero, List.set_cons_succ, i64_w]
                rfl
               refine pure_ (i := 30) (N := some 193) (v := undef) (a' := ?_) b31WOH rfl rfl (any_of HT_.out (by kernel_rfl)) (fun _ _ _ h => h) (Or.inr ⟨by rfl, rfl⟩) ?_ ?_
               rotate_left
               ·simp only [Act.put, List.setIfInBounds_toArray, List.set_cons_zero, List.set_cons_succ, i64_w]
                rfl
               refine pure_ (i := 31) (N := some 194) (v := undef) (a' := ?_) b32WOH rfl rfl (any_of HT_.out (by kernel_rfl)) (fun _ _ _ h => h) (Or.inr ⟨by rfl, rfl⟩) ?_ ?_
               rotate_left
               ·simp only [Act.put, List.setIfInBounds_toArray, List.set_cons_zero, List.set_cons_succ, i64_w]
                rfl
               refine pure_ (i := 32) (N := some 195) (v := ?_) (a' := ?_) b33WOH rfl rfl (any_of HT_.out (by kernel_rfl)) (fun _ _ _ h => h) (Or.inl ⟨by rfl, ?_⟩) ?_ ?_
               rotate_left; (intro w'; go_simp; with_reducible rfl); rotate_left; (simp only [Act.put, List.setIfInBounds_toArray, List.set_cons_zero, List.set_cons_succ, i64_w]; rfl)
               refine done_ (done_of HT_.out (by kernel_rfl)) ?_
               try go_wp2
               go_ret
               exact ⟨by first | rfl | (simp [errW_none, errW_some] <;> rfl) | (simp [*, errW_none, errW_some] <;> rfl), by repeat (first | (with_reducible first | exact HB.out | apply below_alloc | apply pw_below_drewN | apply below_drew1) | exact HB.out)⟩
            ·as_aux_lemma =>
             replace c75 := Bool.eq_false_iff.mpr c75
             subst c75
             have H1 : (some false) = some r := by rw [if_neg (show ¬ (false = true) by decide)] at H; exact H
             clear H; have H := H1; clear H1
             obtain rfl := Option.some.inj H
             have p676 : 0 ≤ (x151_3 : Int) := of_decide_eq_true (by first | (with_reducible assumption) | assumption)
             have q676 : x151_3 < (t647.length : Int) := of_decide_eq_true (by first | (with_reducible assumption) | assumption)
             obtain ⟨ad676, A676_0, c676_0, e676, hx676_0, hl676_0, hi676_0⟩ := at_L1 (Kd.S_reads' HO_149.out).2.2 x151_3 p676 q676
             cases e676
             obtain ⟨ce676, hce676, hMe676, hcc676⟩ := Kd.S_get HO_149.out [] x151_3 p676 (by first | exact q676 | exact of_decide_eq_true (by first | (with_reducible assumption) | assumption) | (have e_ := (Kd.S_reads' HO_149.out).1; omega))
             obtain ⟨ve676_0, rfl, ge676_0⟩ := hMe676
             have hv676_0 := hcc676 0 _ rfl
             rw [Nat.add_zero, show ((Kd.slice 3 (Kd.int .i64))).sz = 1 from rfl, Nat.mul_one] at hv676_0
             replace hv676_0 := Option.some.inj (hv676_0.symm.trans hx676_0)
             rw [hv676_0] at ge676_0
             have HL676_0 := Aside0.mk (show Kd.R (Kd.int .i64) 3 _ _ _ _ (rd_L1 t647 x151_3) from ge676_0)
             clear hv676_0 ge676_0; clear hcc676 hce676
             have HR676_0 := Aside0.mk hi676_0
             have HC676_0 := Aside0.mk hl676_0
             clear hi676_0 hl676_0; replace p676 := eq_true p676; replace q676 := eq_true q676
             try go_wp2_with (first | ((with_reducible refine gate_callee (f := 38) rfl ?_); refine goesL_ (some 160) rfl rfl Try.func38 (by kernel_rfl) rfl #[.slice A676_0 (rd_L1 t647 x151_3).length c676_0, .int .i64 t643, .int .i64 t644] rfl (by (try simp only [List.map_toArray, List.map_cons, List.map_nil]); first | done | rfl) ?_; (with_reducible refine (impl_IsFundamental.calls k3 _ _ (rd_L1 t647 x151_3) t643 t644 t677 false _ ?side1 ?side2 A74.out).mono ?_); (case side1 => repeat (first | exact (by repeat (first | (with_reducible exact HR676_0.out) | (with_reducible refine Kd.C_alloc ?_ _) | (with_reducible refine Kd.C_drewN ?_ _) | (with_reducible refine Kd.C_drew ?_) | exact HR676_0.out)) | (with_reducible refine Kd.C_alloc ?_ _) | (with_reducible refine Kd.C_drewN ?_ _) | (with_reducible refine Kd.C_drew ?_))); (case side2 => exact HC676_0.out); rintro e w100 ⟨rfl, hb⟩; refine ⟨_, rfl, ?_⟩; have n0_ := Aside0.mk (Kd.R_below (by (with_reducible repeat (first | apply Kd.R_alloc | apply Kd.R_drewN | apply Kd.R_drew)); exact HO_5.out) hb); have n1_ := Aside0.mk (Kd.S_below (by (with_reducible repeat (first | apply Kd.S_alloc | apply Kd.S_drewN | apply Kd.S_drew)); exact HO_8.out) hb); have n2_ := Aside0.mk (Kd.R_below (by (with_reducible repeat (first | apply Kd.R_alloc | apply Kd.R_drewN | apply Kd.R_drew)); exact HO_12.out) hb); have n3_ := Aside0.mk (Kd.R_below (by (with_reducible repeat (first | apply Kd.R_alloc | apply Kd.R_drewN | apply Kd.R_drew)); exact HO_14.out) hb); have n4_ := Aside0.mk (Kd.S_below (by (with_reducible repeat (first | apply Kd.S_alloc | apply Kd.S_drewN | apply Kd.S_drew)); exact HO_149.out) hb); have n5_ := Aside0.mk (Kd.R_below (by (with_reducible repeat (first | apply Kd.R_alloc | apply Kd.R_drewN | apply Kd.R_drew)); exact HL676_0.out) hb); have n6_ := Aside0.mk (Kd.C_below (by repeat (first | (with_reducible exact HR676_0.out) | (with_reducible refine Kd.C_alloc ?_ _) | (with_reducible refine Kd.C_drewN ?_ _) | (with_reducible refine Kd.C_drew ?_) | exact HR676_0.out)) hb); have n7_ := Aside0.mk (below_step (by repeat (first | (with_reducible first | exact HB.out | apply below_alloc | apply pw_below_drewN | apply below_drew1) | exact HB.out)) hb); clear HO_5; clear HO_8; clear HO_12; clear HO_14; clear HO_149; clear HL676_0; clear HR676_0; clear HB; have HO_5 := n0_; have HO_8 := n1_; have HO_12 := n2_; have HO_14 := n3_; have HO_149 := n4_; have HL676_0 := n5_; have HR676_0 := n6_; have HB := n7_; clear n0_ n1_ n2_ n3_ n4_ n5_ n6_ n7_; (try clear hb); (try clear hb2); (try clear hk); (try clear hi)))
             have n0_ := Aside0.mk (Kd.R_drew HO_5.out)
             have n1_ := Aside0.mk (Kd.S_drew HO_8.out)
             have n2_ := Aside0.mk (Kd.R_drew HO_12.out)
             have n3_ := Aside0.mk (Kd.R_drew HO_14.out)
             have n4_ := Aside0.mk (Kd.S_drew HO_149.out)
             have n5_ := Aside0.mk (Kd.R_drew HL676_0.out)
             have n6_ := Aside0.mk (Kd.C_drew HR676_0.out)
             have n7_ := Aside0.mk (below_drew1 HB.out)
             clear HO_5; clear HO_8; clear HO_12; clear HO_14; clear HO_149; clear HL676_0; clear HR676_0; clear HB; have HO_5 := n0_; have HO_8 := n1_; have HO_12 := n2_; have HO_14 := n3_; have HO_149 := n4_; have HL676_0 := n5_; have HR676_0 := n6_; have HB := n7_; clear n0_ n1_ n2_ n3_ n4_ n5_ n6_ n7_
             refine start_ (n := 33) (S := fun w' => True) (ds := []) b0WOH (by kernel_rfl) rfl rfl trivial (fun hHeld => ?_); refine with_tabW laws_FnWaysOfHurwitz.tab20 laws_FnWaysOfHurwitz.bits20 (fun HT_ HW_ => ?_)
             generalize w100.drew = w101 at HO_5 HO_8 HO_12 HO_14 HO_149 HL676_0 HR676_0 HB hHeld ⊢
             refine pure_ (i := 0) (N := some 163) (v := ?_) (a' := ?_) b1WOH rfl rfl (any_of HT_.out (by kernel_rfl)) (fun _ _ _ h => h) (Or.inl ⟨by rfl, ?_⟩) ?_ ?_
             rotate_left; (intro w'; go_simp; with_reducible rfl); rotate_left; (simp only [Act.put, List.setIfInBounds_toArray, List.set_cons_zero, List.set_cons_succ, i64_w]; rfl)
             refine pure_ (i := 1) (N := some 164) (v := ?_) (a' := ?_) b2WOH rfl rfl (any_of HT_.out (by kernel_rfl)) (fun _ _ _ h => h) (Or.inl ⟨by rfl, ?_⟩) ?_ ?_
             rotate_left; (intro w'; go_simp; with_reducible rfl); rotate_left; (simp only [Act.put, List.setIfInBounds_toArray, List.set_cons_zero, List.set_cons_succ, i64_w]; rfl)
             refine pure_ (i := 2) (N := some 165) (v := ?_) (a' := ?_) b3WOH rfl rfl (any_of HT_.out (by kernel_rfl)) (fun _ _ _ h => h) (Or.inl ⟨by rfl, ?_⟩) ?_ ?_
             rotate_left; (intro w'; go_simp; with_reducible rfl); rotate_left; (simp only [Act.put, List.setIfInBounds_toArray, List.set_cons_zero, List.set_cons_succ, i64_w]; rfl)
             refine pure_ (i := 3) (N := some 166) (v := undef) (a' := ?_) b4WOH rfl rfl (any_of HT_.out (by kernel_rfl)) (fun _ _ _ h => h) (Or.inr ⟨by rfl, rfl⟩) ?_ ?_
             rotate_left
             ·simp only [Act.put, List.setIfInBounds_toArray, List.set_cons_zero, List.set_cons_succ, i64_w]
              rfl
             refine pure_ (i := 4) (N := some 167) (v := undef) (a' := ?_) b5WOH rfl rfl (any_of HT_.out (by kernel_rfl)) (fun _ _ _ h => h) (Or.inr ⟨by rfl, rfl⟩) ?_ ?_
             rotate_left
             ·simp only [Act.put, List.setIfInBounds_toArray, List.set_cons_zero, List.set_cons_succ, i64_w]
              rfl
             refine pure_ (i := 5) (N := some 168) (v := undef) (a' := ?_) b6WOH rfl rfl (any_of HT_.out (by kernel_rfl)) (fun _ _ _ h => h) (Or.inr ⟨by rfl, rfl⟩) ?_ ?_
             rotate_left
             ·simp only [Act.put, List.setIfInBounds_toArray, List.set_cons_zero, List.set_cons_succ, i64_w]
              rfl
             refine pure_ (i := 6) (N := some 169) (v := undef) (a' := ?_) b7WOH rfl rfl (any_of HT_.out (by kernel_rfl)) (fun _ _ _ h => h) (Or.inr ⟨by rfl, rfl⟩) ?_ ?_
             rotate_left
             ·simp only [Act.put, List.setIfInBounds_toArray, List.set_cons_zero, List.set_cons_succ, i64_w]
              rfl
             refine pure_ (i := 7) (N := some 170) (v := undef) (a' := ?_) b8WOH rfl rfl (any_of HT_.out (by kernel_rfl)) (fun _ _ _ h => h) (Or.inr ⟨by rfl, rfl⟩) ?_ ?_
             rotate_left
             ·simp only [Act.put, List.setIfInBounds_toArray, List.set_cons_zero, List.set_cons_succ, i64_w]
              rfl
             refine pure_ (i := 8) (N := some 171) (v := undef) (a' := ?_) b9WOH rfl rfl (any_of HT_.out (by kernel_rfl)) (fun _ _ _ h => h) (Or.inr ⟨by rfl, rfl⟩) ?_ ?_
             rotate_left
             ·simp only [Act.put, List.setIfInBounds_toArray, List.set_cons_zero, List.set_cons_succ, i64_w]
              rfl
             refine pure_ (i := 9) (N := some 172) (v := undef) (a' := ?_) b10WOH rfl rfl (any_of HT_.out (by kernel_rfl)) (fun _ _ _ h => h) (Or.inr ⟨by rfl, rfl⟩) ?_ ?_
             rotate_left
             ·simp only [Act.put, List.setIfInBounds_toArray, List.set_cons_zero, List.set_cons_succ, i64_w]
              rfl
             refine pure_ (i := 10) (N := some 173) (v := ?_) (a' := ?_) b11WOH rfl rfl (any_of HT_.out (by kernel_rfl)) (fun _ _ _ h => h) (Or.inl ⟨by rfl, ?_⟩) ?_ ?_
             rotate_left; (intro w'; go_simp; with_reducible rfl); rotate_left; (simp only [Act.put, List.setIfInBounds_toArray, List.set_cons_zero, List.set_cons_succ, i64_w]; rfl)
             refine pure_ (i := 11) (N := some 174) (v := ?_) (a' := ?_) b12WOH rfl rfl (any_of HT_.out (by kernel_rfl)) (fun _ _ _ h => h) (Or.inl ⟨by rfl, ?_⟩) ?_ ?_
             rotate_left; (intro w'; go_simp; with_reducible rfl); rotate_left; (simp only [Act.put, List.setIfInBounds_toArray, List.set_cons_zero, List.set_cons_succ, i64_w]; rfl)
             refine pure_ (i := 12) (N := some 175) (v := undef) (a' := ?_) b13WOH rfl rfl (any_of HT_.out (by kernel_rfl)) (fun _ _ _ h => h) (Or.inr ⟨by rfl, rfl⟩) ?_ ?_
             rotate_left
             ·simp only [Act.put, List.setIfInBounds_toArray, List.set_cons_zero, List.set_cons_succ, i64_w]
              rfl
             refine pure_ (i := 13) (N := some 176) (v := undef) (a' := ?_) b14WOH rfl rfl (any_of HT_.out (by kernel_rfl)) (fun _ _ _ h => h) (Or.inr ⟨by rfl, rfl⟩) ?_ ?_
             rotate_left
             ·simp only [Act.put, List.setIfInBounds_toArray, List.set_cons_zero, List.set_cons_succ, i64_w]
              rfl
             refine pure_ (i := 14) (N := some 177) (v := undef) (a' := ?_) b15WOH rfl rfl (any_of HT_.out (by kernel_rfl)) (fun _ _ _ h => h) (Or.inr ⟨by rfl, rfl⟩) ?_ ?_
             rotate_left
             ·simp only [Act.put, List.setIfInBounds_toArray, List.set_cons_zero, List.set_cons_succ, i64_w]
              rfl
             refine pure_ (i := 15) (N := some 178) (v := undef) (a' := ?_) b16WOH rfl rfl (any_of HT_.out (by kernel_rfl)) (fun _ _ _ h => h) (Or.inr ⟨by rfl, rfl⟩) ?_ ?_
             rotate_left
             ·simp only [Act.put, List.setIfInBounds_toArray, List.set_cons_zero, List.set_cons_succ, i64_w]
              rfl
             refine pure_ (i := 16) (N := some 179) (v := undef) (a' := ?_) b17WOH rfl rfl (any_of HT_.out (by kernel_rfl)) (fun _ _ _ h => h) (Or.inr ⟨by rfl, rfl⟩) ?_ ?_
             rotate_left
             ·simp only [Act.put, List.setIfInBounds_toArray, List.set_cons_zero, List.set_cons_succ, i64_w]
              rfl
             refine pure_ (i := 17) (N := some 180) (v := ?_) (a' := ?_) b18WOH rfl rfl (any_of HT_.out (by kernel_rfl)) (fun _ _ _ h => h) (Or.inl ⟨by rfl, ?_⟩) ?_ ?_
             rotate_left; (intro w'; go_simp; with_reducible rfl); rotate_left; (simp only [Act.put, List.setIfInBounds_toArray, List.set_cons_zero, List.set_cons_succ, i64_w]; rfl)
             refine pure_ (i := 18) (N := some 181) (v := ?_) (a' := ?_) b19WOH rfl rfl (any_of HT_.out (by kernel_rfl)) (fun _ _ _ h => h) (Or.inl ⟨by rfl, ?_⟩) ?_ ?_
             rotate_left; (intro w'; go_simp; with_reducible rfl); rotate_left; (simp only [Act.put, List.setIfInBounds_toArray, List.set_cons_zero, List.set_cons_succ, i64_w]; rfl)
             refine pure_ (i := 19) (N := some 182) (v := undef) (a' := ?_) b20WOH rfl rfl (any_of HT_.out (by kernel_rfl)) (fun _ _ _ h => h) (Or.inr ⟨by rfl, rfl⟩) ?_ ?_
             rotate_left
             ·simp only [Act.put, List.setIfInBounds_toArray, List.set_cons_zero, List.set_cons_succ, i64_w]
              rfl
             refine pure_ (i := 20) (N := some 183) (v := undef) (a' := ?_) b21WOH rfl rfl (any_of HT_.out (by kernel_rfl)) (fun _ _ _ h => h) (Or.inr ⟨by rfl, rfl⟩) ?_ ?_
             rotate_left
             ·simp only [Act.put, List.setIfInBounds_toArray, List.set_cons_zero, List.set_cons_succ, i64_w]
              rfl
             refine pure_ (i := 21) (N := some 184) (v := undef) (a' := ?_) b22WOH rfl rfl (any_of HT_.out (by kernel_rfl)) (fun _ _ _ h => h) (Or.inr ⟨by rfl, rfl⟩) ?_ ?_
             rotate_left
             ·simp only [Act.put, List.setIfInBounds_toArray, List.set_cons_zero, List.set_cons_succ, i64_w]
              rfl
             refine pure_ (i := 22) (N := some 185) (v := undef) (a' := ?_) b23WOH rfl rfl (any_of HT_.out (by kernel_rfl)) (fun _ _ _ h => h) (Or.inr ⟨by rfl, rfl⟩) ?_ ?_
             rotate_left
             ·simp only [Act.put, List.setIfInBounds_toArray, List.set_cons_zero, List.set_cons_succ, i64_w]
              rfl
             refine pure_ (i := 23) (N := some 186) (v := undef) (a' := ?_) b24WOH rfl rfl (any_of HT_.out (by kernel_rfl)) (fun _ _ _ h => h) (Or.inr ⟨by rfl, rfl⟩) ?_ ?_
             rotate_left
             ·simp only [Act.put, List.setIfInBounds_toArray, List.set_cons_zero, List.set_cons_succ, i64_w]
              rfl
             refine pure_ (i := 24) (N := some 187) (v := undef) (a' := ?_) b25WOH rfl rfl (any_of HT_.out (by kernel_rfl)) (fun _ _ _ h => h) (Or.inr ⟨by rfl, rfl⟩) ?_ ?_
             rotate_left
             ·simp only [Act.put, List.setIfInBounds_toArray, List.set_cons_zero, List.set_cons_succ, i64_w]
              rfl
             refine pure_ (i := 25) (N := some 188) (v := undef) (a' := ?_) b26WOH rfl rfl (any_of HT_.out (by kernel_rfl)) (fun _ _ _ h => h) (Or.inr ⟨by rfl, rfl⟩) ?_ ?_
             rotate_left
             ·simp only [Act.put, List.setIfInBounds_toArray, List.set_cons_zero, List.set_cons_succ, i64_w]
              rfl
             refine pure_ (i := 26) (N := some 189) (v := undef) (a' := ?_) b27WOH rfl rfl (any_of HT_.out (by kernel_rfl)) (fun _ _ _ h => h) (Or.inr ⟨by rfl, rfl⟩) ?_ ?_
             rotate_left
             ·simp only [Act.put, List.setIfInBounds_toArray, List.set_cons_zero, List.set_cons_succ, i64_w]
              rfl
             refine pure_ (i := 27) (N := some 190) (v := undef) (a' := ?_) b28WOH rfl rfl (any_of HT_.out (by kernel_rfl)) (fun _ _ _ h => h) (Or.inr ⟨by rfl, rfl⟩) ?_ ?_
             rotate_left
             ·simp only [Act.put, List.setIfInBounds_toArray, List.set_cons_zero, List.set_cons_succ, i64_w]
              rfl
             refine pure_ (i := 28) (N := some 191) (v := undef) (a' := ?_) b29WOH rfl rfl (any_of HT_.out (by kernel_rfl)) (fun _ _ _ h => h) (Or.inr ⟨by rfl, rfl⟩) ?_ ?_
             rotate_left
             ·simp only [Act.put, List.setIfInBounds_toArray, List.set_cons_zero, List.set_cons_succ, i64_w]
              rfl
             refine pure_ (i := 29) (N := some 192) (v := undef) (a' := ?_) b30WOH rfl rfl (any_of HT_.out (by kernel_rfl)) (fun _ _ _ h => h) (Or.inr ⟨by rfl, rfl⟩) ?_ ?_
             rotate_left
             ·simp only [Act.put, List.setIfInBounds_toArray, List.set_cons_zero, List.set_cons_succ, i64_w]
              rfl
             refine pure_ (i := 30) (N := some 193) (v := undef) (a' := ?_) b31WOH rfl rfl (any_of HT_.out (by kernel_rfl)) (fun _ _ _ h => h) (Or.inr ⟨by rfl, rfl⟩) ?_ ?_
             rotate_left
             ·simp only [Act.put, List.setIfInBounds_toArray, List.set_cons_zero, List.set_cons_succ, i64_w]
              rfl
             refine pure_ (i := 31) (N := some 194) (v := undef) (a' := ?_) b32WOH rfl rfl (any_of HT_.out (by kernel_rfl)) (fun _ _ _ h => h) (Or.inr ⟨by rfl, rfl⟩) ?_ ?_
             rotate_left
             ·simp only [Act.put, List.setIfInBounds_toArray, List.set_cons_zero, List.set_cons_succ, i64_w]
              rfl
             refine pure_ (i := 32) (N := some 195) (v := ?_) (a' := ?_) b33WOH rfl rfl (any_of HT_.out (by kernel_rfl)) (fun _ _ _ h => h) (Or.inl ⟨by rfl, ?_⟩) ?_ ?_
             rotate_left; (intro w'; go_simp; with_reducible rfl); rotate_left; (simp only [Act.put, List.setIfInBounds_toArray, List.set_cons_zero, List.set_cons_succ, i64_w]; rfl)
             refine done_ (done_of HT_.out (by kernel_rfl)) ?_
             try go_wp2
             go_ret
             exact ⟨by first | rfl | (simp [errW_none, errW_some] <;> rfl) | (simp [*, errW_none, errW_some] <;> rfl), by repeat (first | (with_reducible first | exact HB.out | apply below_alloc | apply pw_below_drewN | apply below_drew1) | exact HB.out)⟩
           ·as_aux_lemma =>
            rw [if_neg c71] at H
            have c71b0 : decide (x151_3 < (t647.length : Int)) = false := decide_eq_false c71
            clear c71
            by_cases c102 : (t659.length : Int) > 40
            ·rw [if_pos c102] at H
             have c102b0 : decide (40 < (t659.length : Int)) = true := decide_eq_true c102
             have c102b1 : decide (40 < t659.length) = true := decide_eq_true (by omega)
             clear c102
             obtain rfl := Option.some.inj H
             obtain ⟨Ao103, co103, eo103⟩ := Kd.R_slice HO_14.out
             subst eo103
             go_wp2
             go_ret
             exact ⟨by first | rfl | (simp [errW_none, errW_some] <;> rfl) | (simp [*, errW_none, errW_some] <;> rfl), by repeat (first | (with_reducible first | exact HB.out | apply below_alloc | apply pw_below_drewN | apply below_drew1) | exact HB.out)⟩
            ·as_aux_lemma =>
             rw [if_neg c102] at H
             have c102b0 : decide (40 < (t659.length : Int)) = false := decide_eq_false c102
             have c102b1 : decide (40 < t659.length) = false := decide_eq_false (by omega)
             clear c102
             replace H := Option.bind_eq_some_iff.mp H
             obtain ⟨⟨t683, t684⟩, A1040, H⟩ := H
             replace H : (if t684 = true then ((laws_vSame.f k3 t683 t642).bind fun t687 => (some t687)) else (some false)) = some r := H
             have A104 := Aside0.mk A1040
             clear A1040
             by_cases c105 : t684 = true
             ·as_aux_lemma =>
              subst c105
              have H1 : ((laws_vSame.f k3 t683 t642).bind fun t687 => (some t687)) = some r := by rw [if_pos rfl] at H; exact H
              clear H; have H := H1; clear H1
              replace H := Option.bind_eq_some_iff.mp H
              obtain ⟨t687, A1060, H⟩ := H
              replace H : (some t687) = some r := H
              have A106 := Aside0.mk A1060
              clear A1060
              obtain rfl := Option.some.inj H
              obtain ⟨Ao107, co107, eo107⟩ := Kd.R_slice HO_14.out
              subst eo107
              obtain ⟨Ao108, co108, eo108⟩ := Kd.R_slice HO_12.out
              subst eo108
              go_wp2_with (first | ((with_reducible refine gate_callee (f := 41) rfl ?_); refine goesL_ (some 205) rfl rfl Try.func41 (by kernel_rfl) rfl #[.slice Ao108 t655.length co108, .int .i64 t643, .int .i64 t644, .slice Ao107 t659.length co107] rfl (by (try simp only [List.map_toArray, List.map_cons, List.map_nil]); first | done | rfl) ?_; (with_reducible refine (impl_ClimbHurwitz.calls k3 _ _ t655 t643 t644 _ _ t659 t683 true _ ?side1 ?side2 ?side3 ?side4 A104.out).mono ?_); (case side1 => repeat (first | exact (Kd.R_reads' HO_12.out).2.2 | (with_reducible refine Kd.C_alloc ?_ _) | (with_reducible refine Kd.C_drewN ?_ _) | (with_reducible refine Kd.C_drew ?_))); (case side2 => exact (Kd.R_reads' HO_12.out).2.1); (case side3 => repeat (first | exact (Kd.R_reads' HO_14.out).2.2 | (with_reducible refine Kd.C_alloc ?_ _) | (with_reducible refine Kd.C_drewN ?_ _) | (with_reducible refine Kd.C_drew ?_))); (case side4 => exact (Kd.R_reads' HO_14.out).2.1); rintro e w109 ⟨v685, rfl, ho0, hb⟩; refine ⟨_, rfl, ?_⟩; have n0_ := Aside0.mk (Kd.R_elder' (by (with_reducible repeat (first | apply Kd.R_alloc | apply Kd.R_drewN | apply Kd.R_drew)); exact HO_5.out) (Kd.R_base ho0) hb); have n1_ := Aside0.mk (Kd.S_elder' (by (with_reducible repeat (first | apply Kd.S_alloc | apply Kd.S_drewN | apply Kd.S_drew)); exact HO_8.out) (Kd.R_base ho0) hb); have n2_ := Aside0.mk (Kd.R_elder' (by (with_reducible repeat (first | apply Kd.R_alloc | apply Kd.R_drewN | apply Kd.R_drew)); exact HO_12.out) (Kd.R_base ho0) hb); have n3_ := Aside0.mk (Kd.R_elder' (by (with_reducible repeat (first | apply Kd.R_alloc | apply Kd.R_drewN | apply Kd.R_drew)); exact HO_14.out) (Kd.R_base ho0) hb); have n4_ := Aside0.mk (Kd.S_elder' (by (with_reducible repeat (first | apply Kd.S_alloc | apply Kd.S_drewN | apply Kd.S_drew)); exact HO_149.out) (Kd.R_base ho0) hb); have n5_ := Aside0.mk (Kd.R_lower (Kd.R_new' (Kd.R_new' (Kd.R_new' ho0 (Kd.R_lt (by (with_reducible repeat (first | apply Kd.R_alloc | apply Kd.R_drewN | apply Kd.R_drew)); exact HO_5.out))) (Kd.R_lt (by (with_reducible repeat (first | apply Kd.R_alloc | apply Kd.R_drewN | apply Kd.R_drew)); exact HO_12.out))) (Kd.R_lt (by (with_reducible repeat (first | apply Kd.R_alloc | apply Kd.R_drewN | apply Kd.R_drew)); exact HO_14.out))) (below_size (by repeat (first | (with_reducible first | exact HB.out | apply below_alloc | apply pw_below_drewN | apply below_drew1) | exact HB.out)))); have n6_ := Aside0.mk (below_step (by repeat (first | (with_reducible first | exact HB.out | apply below_alloc | apply pw_below_drewN | apply below_drew1) | exact HB.out)) hb); clear HO_5; clear HO_8; clear HO_12; clear HO_14; clear HO_149; clear HB; have HO_5 := n0_; have HO_8 := n1_; have HO_12 := n2_; have HO_14 := n3_; have HO_149 := n4_; have HO686 := n5_; have HB := n6_; clear n0_ n1_ n2_ n3_ n4_ n5_ n6_; (try clear hb); (try clear hb2); (try clear hk); (try clear hi); (try clear ho0); obtain ⟨Ao110, co110, eo110⟩ := Kd.R_slice HO686.out; subst eo110) | (go_at_call 29; (with_reducible refine (laws_vSame.calls k3 _ _ t683 _ _ t642 t687 _ ?side1 ?side2 ?side3 ?side4 A106.out).mono ?_); (case side1 => repeat (first | exact (Kd.R_reads' HO686.out).2.2 | (with_reducible refine Kd.C_alloc ?_ _) | (with_reducible refine Kd.C_drewN ?_ _) | (with_reducible refine Kd.C_drew ?_))); (case side2 => exact (Kd.R_reads' HO686.out).2.1); (case side3 => repeat (first | exact (Kd.R_reads' HO_5.out).2.2 | (with_reducible refine Kd.C_alloc ?_ _) | (with_reducible refine Kd.C_drewN ?_ _) | (with_reducible refine Kd.C_drew ?_))); (case side4 => exact (Kd.R_reads' HO_5.out).2.1); rintro e w' ⟨rfl, ⟨nd, rfl⟩⟩))
              go_ret
              exact ⟨by first | rfl | (simp [errW_none, errW_some] <;> rfl) | (simp [*, errW_none, errW_some] <;> rfl), by repeat (first | (with_reducible first | exact HB.out | apply below_alloc | apply pw_below_drewN | apply below_drew1) | exact HB.out)⟩
             ·as_aux_lemma =>
              replace c105 := Bool.eq_false_iff.mpr c105
              subst c105
              have H1 : (some false) = some r := by rw [if_neg (show ¬ (false = true) by decide)] at H; exact H
              clear H; have H := H1; clear H1
              obtain rfl := Option.some.inj H
              obtain ⟨Ao111, co111, eo111⟩ := Kd.R_slice HO_14.out
              subst eo111
              obtain ⟨Ao112, co112, eo112⟩ := Kd.R_slice HO_12.out
              subst eo112
              go_wp2_with (first | ((with_reducible refine gate_callee (f := 41) rfl ?_); refine goesL_ (some 205) rfl rfl Try.func41 (by kernel_rfl) rfl #[.slice Ao112 t655.length co112, .int .i64 t643, .int .i64 t644, .slice Ao111 t659.length co111] rfl (by (try simp only [List.map_toArray, List.map_cons, List.map_nil]); first | done | rfl) ?_; (with_reducible refine (impl_ClimbHurwitz.calls k3 _ _ t655 t643 t644 _ _ t659 t683 false _ ?side1 ?side2 ?side3 ?side4 A104.out).mono ?_); (case side1 => repeat (first | exact (Kd.R_reads' HO_12.out).2.2 | (with_reducible refine Kd.C_alloc ?_ _) | (with_reducible refine Kd.C_drewN ?_ _) | (with_reducible refine Kd.C_drew ?_))); (case side2 => exact (Kd.R_reads' HO_12.out).2.1); (case side3 => repeat (first | exact (Kd.R_reads' HO_14.out).2.2 | (with_reducible refine Kd.C_alloc ?_ _) | (with_reducible refine Kd.C_drewN ?_ _) | (with_reducible refine Kd.C_drew ?_))); (case side4 => exact (Kd.R_reads' HO_14.out).2.1); rintro e w113 ⟨v685, rfl, ho0, hb⟩; refine ⟨_, rfl, ?_⟩; have n0_ := Aside0.mk (Kd.R_elder' (by (with_reducible repeat (first | apply Kd.R_alloc | apply Kd.R_drewN | apply Kd.R_drew)); exact HO_5.out) (Kd.R_base ho0) hb); have n1_ := Aside0.mk (Kd.S_elder' (by (with_reducible repeat (first | apply Kd.S_alloc | apply Kd.S_drewN | apply Kd.S_drew)); exact HO_8.out) (Kd.R_base ho0) hb); have n2_ := Aside0.mk (Kd.R_elder' (by (with_reducible repeat (first | apply Kd.R_alloc | apply Kd.R_drewN | apply Kd.R_drew)); exact HO_12.out) (Kd.R_base ho0) hb); have n3_ := Aside0.mk (Kd.R_elder' (by (with_reducible repeat (first | apply Kd.R_alloc | apply Kd.R_drewN | apply Kd.R_drew)); exact HO_14.out) (Kd.R_base ho0) hb); have n4_ := Aside0.mk (Kd.S_elder' (by (with_reducible repeat (first | apply Kd.S_alloc | apply Kd.S_drewN | apply Kd.S_drew)); exact HO_149.out) (Kd.R_base ho0) hb); have n5_ := Aside0.mk (Kd.R_lower (Kd.R_new' (Kd.R_new' (Kd.R_new' ho0 (Kd.R_lt (by (with_reducible repeat (first | apply Kd.R_alloc | apply Kd.R_drewN | apply Kd.R_drew)); exact HO_5.out))) (Kd.R_lt (by (with_reducible repeat (first | apply Kd.R_alloc | apply Kd.R_drewN | apply Kd.R_drew)); exact HO_12.out))) (Kd.R_lt (by (with_reducible repeat (first | apply Kd.R_alloc | apply Kd.R_drewN | apply Kd.R_drew)); exact HO_14.out))) (below_size (by repeat (first | (with_reducible first | exact HB.out | apply below_alloc | apply pw_below_drewN | apply below_drew1) | exact HB.out)))); have n6_ := Aside0.mk (below_step (by repeat (first | (with_reducible first | exact HB.out | apply below_alloc | apply pw_below_drewN | apply below_drew1) | exact HB.out)) hb); clear HO_5; clear HO_8; clear HO_12; clear HO_14; clear HO_149; clear HB; have HO_5 := n0_; have HO_8 := n1_; have HO_12 := n2_; have HO_14 := n3_; have HO_149 := n4_; have HO686 := n5_; have HB := n6_; clear n0_ n1_ n2_ n3_ n4_ n5_ n6_; (try clear hb); (try clear hb2); (try clear hk); (try clear hi); (try clear ho0)))
              go_ret
              exact ⟨by first | rfl | (simp [errW_none, errW_some] <;> rfl) | (simp [*, errW_none, errW_some] <;> rfl), by repeat (first | (with_reducible first | exact HB.out | apply below_alloc | apply pw_below_drewN | apply below_drew1) | exact HB.out)⟩
     ·replace c50 := Bool.eq_false_iff.mpr c50
      subst c50
      have H1 : (some true) = some r := by rw [if_neg (show ¬ (false = true) by decide)] at H; exact H
      clear H; have H := H1; clear H1
      obtain rfl := Option.some.inj H
      go_wp2
      go_ret
      exact ⟨by first | rfl | (simp [errW_none, errW_some] <;> rfl) | (simp [*, errW_none, errW_some] <;> rfl), by repeat (first | (with_reducible first | exact HB.out | apply below_alloc | apply pw_below_drewN | apply below_drew1) | exact HB.out)⟩

/-- THE ONE PURE STATEMENT of laws_FnWaysOfHurwitz: yours. -/
def laws_FnWaysOfHurwitz.Pure : Prop := ∀ (l0 : List Int) (l1 : List Int), l0.length ≤ maxLen → l0.length * 1 ≤ 140737488351232 → (∀ x ∈ l0, (Lit.int .u8 x).wf = true) → l1.length ≤ maxLen → l1.length * 1 ≤ 140737488351232 → (∀ x ∈ l1, (Lit.int .u8 x).wf = true) → ∃ k, laws_FnWaysOfHurwitz.f k l0 l1 = some true
theorem laws_FnWaysOfHurwitz.walk (P : laws_FnWaysOfHurwitz.Pure) (a0 : Option Addr) (len0 cap0 : Nat) (z0 : List Int) (a1 : Option Addr) (len1 cap1 : Nat) (z1 : List Int) (w : World) (w0 : (a0 = none ∧ len0 = 0 ∧ cap0 = 0 ∧ z0 = []) ∨ ∃ x, a0 = some x ∧ len0 ≤ cap0 ∧ cap0 ≤ maxLen ∧ z0.length = cap0 ∧ (∀ i, i < z0.length → w.cell? (x.add i) = some (.int .u8 (z0.getD i 0))) ∧ ∀ n ∈ z0, (Lit.int .u8 n).wf = true) (y0 : len0 * 1 ≤ 140737488351232) (w1 : (a1 = none ∧ len1 = 0 ∧ cap1 = 0 ∧ z1 = []) ∨ ∃ x, a1 = some x ∧ len1 ≤ cap1 ∧ cap1 ≤ maxLen ∧ z1.length = cap1 ∧ (∀ i, i < z1.length → w.cell? (x.add i) = some (.int .u8 (z1.getD i 0))) ∧ ∀ n ∈ z1, (Lit.int .u8 n).wf = true) (y1 : len1 * 1 ≤ 140737488351232) :
  Calls Try.prog 6 #[.slice a0 len0 cap0, .slice a1 len1 cap1] w fun e w' => e = .returned (.bool true) ∧ Below w.heap.size w w' := by
 obtain ⟨l0, rfl, hr0, hm0, hw0, hc0⟩ := ReadsInt.ofRowC w0
 obtain ⟨l1, rfl, hr1, hm1, hw1, hc1⟩ := ReadsInt.ofRowC w1
 obtain ⟨k, h⟩ := P l0 l1 hm0 y0 hw0 hm1 y1 hw1
 refine (laws_FnWaysOfHurwitz.calls k _ _ l0 _ _ l1 true w (Kd.C_of_reads (d := (0 : Int)) (h1 := fun _ => rfl) hr0) hc0 (Kd.C_of_reads (d := (0 : Int)) (h1 := fun _ => rfl) hr1) hc1 h).mono ?_
 rintro e w' ⟨rfl, hd⟩
 exact ⟨rfl, hd⟩

end Go.Proofs.Ytgpoljimomfbbaa.P
