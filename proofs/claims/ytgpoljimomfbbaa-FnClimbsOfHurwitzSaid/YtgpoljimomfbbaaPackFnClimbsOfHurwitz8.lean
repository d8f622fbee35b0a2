/- Climbing goes jump by jump, and branches are the jumps that make the sum greater. No condition. -/
import Derived.Test.YtgpoljimomfbbaaPackFnClimbsOfHurwitz7
-- PFFnClimbsOfHurwitz
namespace Go.Proofs.Ytgpoljimomfbbaa.P
open Go.RowKit Go.Proofs.YtgpoljimomfbbaaW.PrintWords Go.Proofs.YtgpoljimomfbbaaW.PrintLast
set_option linter.unusedVariables false
set_option linter.unusedSimpArgs false

/-! ### laws_FnClimbsOfHurwitz: function 8 -/
mutual
def laws_FnClimbsOfHurwitz.j0 : Nat → List Int → List Int → Int → Int → List Int → List Int → Bool → Bool → Option (Bool)
 | 0, _, _, _, _, _, _, _, _ => none
 | k + 1, x1, x5, x6, x7, x8, x9, x10, x65 => if x65 = true then (some false) else (if x10 = true then (laws_FnClimbsOfHurwitz.l0 k x1 x5 x6 x7 x9 x5 x8 (x8.length : Int) 0) else (laws_FnClimbsOfHurwitz.j2 k x1))
def laws_FnClimbsOfHurwitz.j2 : Nat → List Int → Option (Bool)
 | 0, _ => none
 | k + 1, x1 => (spec_DrawBranchesOf.f k x1).bind fun bt792 => ((impl_BranchesOf.f k bt792.1 bt792.2.1 bt792.2.2).bind fun bt797 => ((spec_BranchesOf.f k bt792.1 bt792.2.1 bt792.2.2).bind fun bt801 => (if (bt797.2 != bt801.2) = true then (laws_FnClimbsOfHurwitz.j3 k bt792.1 bt792.2.1 bt792.2.2 bt797.1 true) else ((laws_vSameLists.f k bt797.1 bt801.1).bind fun t805 => (laws_FnClimbsOfHurwitz.j3 k bt792.1 bt792.2.1 bt792.2.2 bt797.1 (!t805))))))
def laws_FnClimbsOfHurwitz.j3 : Nat → List Int → Int → Int → List (List Int) → Bool → Option (Bool)
 | 0, _, _, _, _, _ => none
 | k + 1, x22, x23, x24, x25, x150 => if x150 = true then (some false) else (laws_FnClimbsOfHurwitz.l1 k x22 x23 x24 x25 x25 (x25.length : Int) 0)
def laws_FnClimbsOfHurwitz.l1 : Nat → List Int → Int → Int → List (List Int) → List (List Int) → Int → Int → Option (Bool)
 | 0, _, _, _, _, _, _, _ => none
 | k + 1, x22, x23, x24, x25, x151, x152, x153 => if x153 < x152 then (if 0 ≤ x153 then (if x153 < (x151.length : Int) then ((laws_vSolves.f k (rd_L1 x151 x153) x23 x24).bind fun t807 => (if t807 = true then ((laws_vSum.f k (rd_L1 x151 x153)).bind fun t808 => ((laws_vSum.f k x22).bind fun t809 => (if t808 ≤ t809 then (some false) else (if x153 > 0 then (if 0 ≤ (wrap64 (x153 - 1)) then (if (wrap64 (x153 - 1)) < (x25.length : Int) then ((laws_vBefore.f k (rd_L1 x25 (wrap64 (x153 - 1))) (rd_L1 x151 x153)).bind fun t811 => (if t811 = true then (laws_FnClimbsOfHurwitz.l1 k x22 x23 x24 x25 x151 x152 (wrap64 (x153 + 1))) else (some false))) else (none)) else (none)) else (laws_FnClimbsOfHurwitz.l1 k x22 x23 x24 x25 x151 x152 (wrap64 (x153 + 1))))))) else (some false))) else (none)) else (none)) else (some true)
def laws_FnClimbsOfHurwitz.l0 : Nat → List Int → List Int → Int → Int → List Int → List Int → List Int → Int → Int → Option (Bool)
 | 0, _, _, _, _, _, _, _, _, _ => none
 | k + 1, x1, x5, x6, x7, x9, x13, x68, x69, x70 => if x70 < x69 then (if 0 ≤ x70 then (if x70 < (x68.length : Int) then ((impl_JumpAt.f k x13 x6 x7 (rd x68 x70)).bind fun bt778 => (if bt778.2 = true then (laws_FnClimbsOfHurwitz.l0 k x1 x5 x6 x7 x9 bt778.1 x68 x69 (wrap64 (x70 + 1))) else (some false))) else (none)) else (none)) else ((impl_FundamentalOf.f k x5 x6 x7).bind fun bt782 => ((impl_FundamentalOf.f k x9 x6 x7).bind fun bt786 => ((laws_vSame.f k x13 x9).bind fun t790 => (if t790 = true then (if bt782.2 = true then (if bt786.2 = true then (if x7 = 0 then ((laws_vSame.f k bt782.1 bt786.1).bind fun t791 => (if t791 = true then (laws_FnClimbsOfHurwitz.j2 k x1) else (some false))) else (laws_FnClimbsOfHurwitz.j2 k x1)) else (some false)) else (some false)) else (some false)))))
end
def laws_FnClimbsOfHurwitz.f (k : Nat) (l0 : List Int) (l1 : List Int) : Option (Bool) := (laws_big.f l0 l1).bind fun t759 => (if t759 = true then (some true) else ((spec_DrawClimbHurwitz.f k l0).bind fun bt760 => ((impl_ClimbHurwitz.f k bt760.1 bt760.2.1 bt760.2.2.1 bt760.2.2.2).bind fun bt768 => ((spec_ClimbHurwitz.f k bt760.1 bt760.2.1 bt760.2.2.1 bt760.2.2.2).bind fun bt772 => (if (bt768.2 != bt772.2) = true then (laws_FnClimbsOfHurwitz.j0 k l1 bt760.1 bt760.2.1 bt760.2.2.1 bt760.2.2.2 bt768.1 bt768.2 true) else ((laws_vSame.f k bt768.1 bt772.1).bind fun t776 => (laws_FnClimbsOfHurwitz.j0 k l1 bt760.1 bt760.2.1 bt760.2.2.1 bt760.2.2.2 bt768.1 bt768.2 (!t776))))))))
theorem laws_FnClimbsOfHurwitz.mono_l : ∀ k, (∀ y0 y1 y2 y3 y4 y5 y6 y7, LeO (laws_FnClimbsOfHurwitz.j0 k y0 y1 y2 y3 y4 y5 y6 y7) (laws_FnClimbsOfHurwitz.j0 (k + 1) y0 y1 y2 y3 y4 y5 y6 y7)) ∧ (∀ y0, LeO (laws_FnClimbsOfHurwitz.j2 k y0) (laws_FnClimbsOfHurwitz.j2 (k + 1) y0)) ∧ (∀ y0 y1 y2 y3 y4, LeO (laws_FnClimbsOfHurwitz.j3 k y0 y1 y2 y3 y4) (laws_FnClimbsOfHurwitz.j3 (k + 1) y0 y1 y2 y3 y4)) ∧ (∀ y0 y1 y2 y3 y4 y5 y6, LeO (laws_FnClimbsOfHurwitz.l1 k y0 y1 y2 y3 y4 y5 y6) (laws_FnClimbsOfHurwitz.l1 (k + 1) y0 y1 y2 y3 y4 y5 y6)) ∧ (∀ y0 y1 y2 y3 y4 y5 y6 y7 y8, LeO (laws_FnClimbsOfHurwitz.l0 k y0 y1 y2 y3 y4 y5 y6 y7 y8) (laws_FnClimbsOfHurwitz.l0 (k + 1) y0 y1 y2 y3 y4 y5 y6 y7 y8))
 | 0 => ⟨fun _ _ _ _ _ _ _ _ r h => by simp [laws_FnClimbsOfHurwitz.j0] at h, fun _ r h => by simp [laws_FnClimbsOfHurwitz.j2] at h, fun _ _ _ _ _ r h => by simp [laws_FnClimbsOfHurwitz.j3] at h, fun _ _ _ _ _ _ _ r h => by simp [laws_FnClimbsOfHurwitz.l1] at h, fun _ _ _ _ _ _ _ _ _ r h => by simp [laws_FnClimbsOfHurwitz.l0] at h⟩
 | k + 1 => by
  obtain ⟨ih0, ih1, ih2, ih3, ih4⟩ := laws_FnClimbsOfHurwitz.mono_l k
  refine ⟨?_, ?_, ?_, ?_, ?_⟩
  ·intro y0 y1 y2 y3 y4 y5 y6 y7
   unfold laws_FnClimbsOfHurwitz.j0
   repeat' first
   | (with_reducible exact ih0 _ _ _ _ _ _ _ _)
   | (with_reducible exact ih1 _)
   | (with_reducible exact ih2 _ _ _ _ _)
   | (with_reducible exact ih3 _ _ _ _ _ _ _)
   | (with_reducible exact ih4 _ _ _ _ _ _ _ _ _)
   | (with_reducible exact impl_BranchesOf.mono _ _ _ _)
   | (with_reducible exact impl_ClimbHurwitz.mono _ _ _ _ _)
   | (with_reducible exact impl_FundamentalOf.mono _ _ _ _)
   | (with_reducible exact impl_JumpAt.mono _ _ _ _ _)
   | (with_reducible exact laws_vBefore.mono _ _ _)
   | (with_reducible exact laws_vSame.mono _ _ _)
   | (with_reducible exact laws_vSameLists.mono _ _ _)
   | (with_reducible exact laws_vSolves.mono _ _ _ _)
   | (with_reducible exact laws_vSum.mono _ _)
   | (with_reducible exact spec_BranchesOf.mono _ _ _ _)
   | (with_reducible exact spec_ClimbHurwitz.mono _ _ _ _ _)
   | (with_reducible exact spec_DrawBranchesOf.mono _ _)
   | (with_reducible exact spec_DrawClimbHurwitz.mono _ _)
   | (with_reducible exact LeO.refl _)
   | (with_reducible exact LeO.none _)
   | (with_reducible refine LeO.ite ?_ ?_)
   | (with_reducible refine LeO.bind ?_ (fun _ => ?_))
   | exact ih0 _ _ _ _ _ _ _ _
   | exact ih1 _
   | exact ih2 _ _ _ _ _
   | exact ih3 _ _ _ _ _ _ _
   | exact ih4 _ _ _ _ _ _ _ _ _
   | exact impl_BranchesOf.mono _ _ _ _
   | exact impl_ClimbHurwitz.mono _ _ _ _ _
   | exact impl_FundamentalOf.mono _ _ _ _
   | exact impl_JumpAt.mono _ _ _ _ _
   | exact laws_vBefore.mono _ _ _
   | exact laws_vSame.mono _ _ _
   | exact laws_vSameLists.mono _ _ _
   | exact laws_vSolves.mono _ _ _ _
   | exact laws_vSum.mono _ _
   | exact spec_BranchesOf.mono _ _ _ _
   | exact spec_ClimbHurwitz.mono _ _ _ _ _
   | exact spec_DrawBranchesOf.mono _ _
   | exact spec_DrawClimbHurwitz.mono _ _
   | exact LeO.none _
   | refine LeO.ite ?_ ?_
   | refine LeO.bind ?_ (fun _ => ?_)
  ·intro y0
   unfold laws_FnClimbsOfHurwitz.j2
   repeat' first
   | (with_reducible exact ih0 _ _ _ _ _ _ _ _)
   | (with_reducible exact ih1 _)
   | (with_reducible exact ih2 _ _ _ _ _)
   | (with_reducible exact ih3 _ _ _ _ _ _ _)
   | (with_reducible exact ih4 _ _ _ _ _ _ _ _ _)
   | (with_reducible exact impl_BranchesOf.mono _ _ _ _)
   | (with_reducible exact impl_ClimbHurwitz.mono _ _ _ _ _)
   | (with_reducible exact impl_FundamentalOf.mono _ _ _ _)
   | (with_reducible exact impl_JumpAt.mono _ _ _ _ _)
   | (with_reducible exact laws_vBefore.mono _ _ _)
   | (with_reducible exact laws_vSame.mono _ _ _)
   | (with_reducible exact laws_vSameLists.mono _ _ _)
   | (with_reducible exact laws_vSolves.mono _ _ _ _)
   | (with_reducible exact laws_vSum.mono _ _)
   | (with_reducible exact spec_BranchesOf.mono _ _ _ _)
   | (with_reducible exact spec_ClimbHurwitz.mono _ _ _ _ _)
   | (with_reducible exact spec_DrawBranchesOf.mono _ _)
   | (with_reducible exact spec_DrawClimbHurwitz.mono _ _)
   | (with_reducible exact LeO.refl _)
   | (with_reducible exact LeO.none _)
   | (with_reducible refine LeO.ite ?_ ?_)
   | (with_reducible refine LeO.bind ?_ (fun _ => ?_))
   | exact ih0 _ _ _ _ _ _ _ _
   | exact ih1 _
   | exact ih2 _ _ _ _ _
   | exact ih3 _ _ _ _ _ _ _
   | exact ih4 _ _ _ _ _ _ _ _ _
   | exact impl_BranchesOf.mono _ _ _ _
   | exact impl_ClimbHurwitz.mono _ _ _ _ _
   | exact impl_FundamentalOf.mono _ _ _ _
   | exact impl_JumpAt.mono _ _ _ _ _
   | exact laws_vBefore.mono _ _ _
   | exact laws_vSame.mono _ _ _
   | exact laws_vSameLists.mono _ _ _
   | exact laws_vSolves.mono _ _ _ _
   | exact laws_vSum.mono _ _
   | exact spec_BranchesOf.mono _ _ _ _
   | exact spec_ClimbHurwitz.mono _ _ _ _ _
   | exact spec_DrawBranchesOf.mono _ _
   | exact spec_DrawClimbHurwitz.mono _ _
   | exact LeO.none _
   | refine LeO.ite ?_ ?_
   | refine LeO.bind ?_ (fun _ => ?_)
  ·intro y0 y1 y2 y3 y4
   unfold laws_FnClimbsOfHurwitz.j3
   repeat' first
   | (with_reducible exact ih0 _ _ _ _ _ _ _ _)
   | (with_reducible exact ih1 _)
   | (with_reducible exact ih2 _ _ _ _ _)
   | (with_reducible exact ih3 _ _ _ _ _ _ _)
   | (with_reducible exact ih4 _ _ _ _ _ _ _ _ _)
   | (with_reducible exact impl_BranchesOf.mono _ _ _ _)
   | (with_reducible exact impl_ClimbHurwitz.mono _ _ _ _ _)
   | (with_reducible exact impl_FundamentalOf.mono _ _ _ _)
   | (with_reducible exact impl_JumpAt.mono _ _ _ _ _)
   | (with_reducible exact laws_vBefore.mono _ _ _)
   | (with_reducible exact laws_vSame.mono _ _ _)
   | (with_reducible exact laws_vSameLists.mono _ _ _)
   | (with_reducible exact laws_vSolves.mono _ _ _ _)
   | (with_reducible exact laws_vSum.mono _ _)
   | (with_reducible exact spec_BranchesOf.mono _ _ _ _)
   | (with_reducible exact spec_ClimbHurwitz.mono _ _ _ _ _)
   | (with_reducible exact spec_DrawBranchesOf.mono _ _)
   | (with_reducible exact spec_DrawClimbHurwitz.mono _ _)
   | (with_reducible exact LeO.refl _)
   | (with_reducible exact LeO.none _)
   | (with_reducible refine LeO.ite ?_ ?_)
   | (with_reducible refine LeO.bind ?_ (fun _ => ?_))
   | exact ih0 _ _ _ _ _ _ _ _
   | exact ih1 _
   | exact ih2 _ _ _ _ _
   | exact ih3 _ _ _ _ _ _ _
   | exact ih4 _ _ _ _ _ _ _ _ _
   | exact impl_BranchesOf.mono _ _ _ _
   | exact impl_ClimbHurwitz.mono _ _ _ _ _
   | exact impl_FundamentalOf.mono _ _ _ _
   | exact impl_JumpAt.mono _ _ _ _ _
   | exact laws_vBefore.mono _ _ _
   | exact laws_vSame.mono _ _ _
   | exact laws_vSameLists.mono _ _ _
   | exact laws_vSolves.mono _ _ _ _
   | exact laws_vSum.mono _ _
   | exact spec_BranchesOf.mono _ _ _ _
   | exact spec_ClimbHurwitz.mono _ _ _ _ _
   | exact spec_DrawBranchesOf.mono _ _
   | exact spec_DrawClimbHurwitz.mono _ _
   | exact LeO.none _
   | refine LeO.ite ?_ ?_
   | refine LeO.bind ?_ (fun _ => ?_)
  ·intro y0 y1 y2 y3 y4 y5 y6
   unfold laws_FnClimbsOfHurwitz.l1
   repeat' first
   | (with_reducible exact ih0 _ _ _ _ _ _ _ _)
   | (with_reducible exact ih1 _)
   | (with_reducible exact ih2 _ _ _ _ _)
   | (with_reducible exact ih3 _ _ _ _ _ _ _)
   | (with_reducible exact ih4 _ _ _ _ _ _ _ _ _)
   | (with_reducible exact impl_BranchesOf.mono _ _ _ _)
   | (with_reducible exact impl_ClimbHurwitz.mono _ _ _ _ _)
   | (with_reducible exact impl_FundamentalOf.mono _ _ _ _)
   | (with_reducible exact impl_JumpAt.mono _ _ _ _ _)
   | (with_reducible exact laws_vBefore.mono _ _ _)
   | (with_reducible exact laws_vSame.mono _ _ _)
   | (with_reducible exact laws_vSameLists.mono _ _ _)
   | (with_reducible exact laws_vSolves.mono _ _ _ _)
   | (with_reducible exact laws_vSum.mono _ _)
   | (with_reducible exact spec_BranchesOf.mono _ _ _ _)
   | (with_reducible exact spec_ClimbHurwitz.mono _ _ _ _ _)
   | (with_reducible exact spec_DrawBranchesOf.mono _ _)
   | (with_reducible exact spec_DrawClimbHurwitz.mono _ _)
   | (with_reducible exact LeO.refl _)
   | (with_reducible exact LeO.none _)
   | (with_reducible refine LeO.ite ?_ ?_)
   | (with_reducible refine LeO.bind ?_ (fun _ => ?_))
   | exact ih0 _ _ _ _ _ _ _ _
   | exact ih1 _
   | exact ih2 _ _ _ _ _
   | exact ih3 _ _ _ _ _ _ _
   | exact ih4 _ _ _ _ _ _ _ _ _
   | exact impl_BranchesOf.mono _ _ _ _
   | exact impl_ClimbHurwitz.mono _ _ _ _ _
   | exact impl_FundamentalOf.mono _ _ _ _
   | exact impl_JumpAt.mono _ _ _ _ _
   | exact laws_vBefore.mono _ _ _
   | exact laws_vSame.mono _ _ _
   | exact laws_vSameLists.mono _ _ _
   | exact laws_vSolves.mono _ _ _ _
   | exact laws_vSum.mono _ _
   | exact spec_BranchesOf.mono _ _ _ _
   | exact spec_ClimbHurwitz.mono _ _ _ _ _
   | exact spec_DrawBranchesOf.mono _ _
   | exact spec_DrawClimbHurwitz.mono _ _
   | exact LeO.none _
   | refine LeO.ite ?_ ?_
   | refine LeO.bind ?_ (fun _ => ?_)
  ·intro y0 y1 y2 y3 y4 y5 y6 y7 y8
   unfold laws_FnClimbsOfHurwitz.l0
   repeat' first
   | (with_reducible exact ih0 _ _ _ _ _ _ _ _)
   | (with_reducible exact ih1 _)
   | (with_reducible exact ih2 _ _ _ _ _)
   | (with_reducible exact ih3 _ _ _ _ _ _ _)
   | (with_reducible exact ih4 _ _ _ _ _ _ _ _ _)
   | (with_reducible exact impl_BranchesOf.mono _ _ _ _)
   | (with_reducible exact impl_ClimbHurwitz.mono _ _ _ _ _)
   | (with_reducible exact impl_FundamentalOf.mono _ _ _ _)
   | (with_reducible exact impl_JumpAt.mono _ _ _ _ _)
   | (with_reducible exact laws_vBefore.mono _ _ _)
   | (with_reducible exact laws_vSame.mono _ _ _)
   | (with_reducible exact laws_vSameLists.mono _ _ _)
   | (with_reducible exact laws_vSolves.mono _ _ _ _)
   | (with_reducible exact laws_vSum.mono _ _)
   | (with_reducible exact spec_BranchesOf.mono _ _ _ _)
   | (with_reducible exact spec_ClimbHurwitz.mono _ _ _ _ _)
   | (with_reducible exact spec_DrawBranchesOf.mono _ _)
   | (with_reducible exact spec_DrawClimbHurwitz.mono _ _)
   | (with_reducible exact LeO.refl _)
   | (with_reducible exact LeO.none _)
   | (with_reducible refine LeO.ite ?_ ?_)
   | (with_reducible refine LeO.bind ?_ (fun _ => ?_))
   | exact ih0 _ _ _ _ _ _ _ _
   | exact ih1 _
   | exact ih2 _ _ _ _ _
   | exact ih3 _ _ _ _ _ _ _
   | exact ih4 _ _ _ _ _ _ _ _ _
   | exact impl_BranchesOf.mono _ _ _ _
   | exact impl_ClimbHurwitz.mono _ _ _ _ _
   | exact impl_FundamentalOf.mono _ _ _ _
   | exact impl_JumpAt.mono _ _ _ _ _
   | exact laws_vBefore.mono _ _ _
   | exact laws_vSame.mono _ _ _
   | exact laws_vSameLists.mono _ _ _
   | exact laws_vSolves.mono _ _ _ _
   | exact laws_vSum.mono _ _
   | exact spec_BranchesOf.mono _ _ _ _
   | exact spec_ClimbHurwitz.mono _ _ _ _ _
   | exact spec_DrawBranchesOf.mono _ _
   | exact spec_DrawClimbHurwitz.mono _ _
   | exact LeO.none _
   | refine LeO.ite ?_ ?_
   | refine LeO.bind ?_ (fun _ => ?_)
theorem laws_FnClimbsOfHurwitz.mono : ∀ a0 a1 k, LeO (laws_FnClimbsOfHurwitz.f k a0 a1) (laws_FnClimbsOfHurwitz.f (k + 1) a0 a1) := by
 intro a0 a1 k
 obtain ⟨ih0, ih1, ih2, ih3, ih4⟩ := laws_FnClimbsOfHurwitz.mono_l k
 unfold laws_FnClimbsOfHurwitz.f
 repeat' first
   | (with_reducible exact ih0 _ _ _ _ _ _ _ _)
   | (with_reducible exact ih1 _)
   | (with_reducible exact ih2 _ _ _ _ _)
   | (with_reducible exact ih3 _ _ _ _ _ _ _)
   | (with_reducible exact ih4 _ _ _ _ _ _ _ _ _)
   | (with_reducible exact impl_BranchesOf.mono _ _ _ _)
   | (with_reducible exact impl_ClimbHurwitz.mono _ _ _ _ _)
   | (with_reducible exact impl_FundamentalOf.mono _ _ _ _)
   | (with_reducible exact impl_JumpAt.mono _ _ _ _ _)
   | (with_reducible exact laws_vBefore.mono _ _ _)
   | (with_reducible exact laws_vSame.mono _ _ _)
   | (with_reducible exact laws_vSameLists.mono _ _ _)
   | (with_reducible exact laws_vSolves.mono _ _ _ _)
   | (with_reducible exact laws_vSum.mono _ _)
   | (with_reducible exact spec_BranchesOf.mono _ _ _ _)
   | (with_reducible exact spec_ClimbHurwitz.mono _ _ _ _ _)
   | (with_reducible exact spec_DrawBranchesOf.mono _ _)
   | (with_reducible exact spec_DrawClimbHurwitz.mono _ _)
   | (with_reducible exact LeO.refl _)
   | (with_reducible exact LeO.none _)
   | (with_reducible refine LeO.ite ?_ ?_)
   | (with_reducible refine LeO.bind ?_ (fun _ => ?_))
   | exact ih0 _ _ _ _ _ _ _ _
   | exact ih1 _
   | exact ih2 _ _ _ _ _
   | exact ih3 _ _ _ _ _ _ _
   | exact ih4 _ _ _ _ _ _ _ _ _
   | exact impl_BranchesOf.mono _ _ _ _
   | exact impl_ClimbHurwitz.mono _ _ _ _ _
   | exact impl_FundamentalOf.mono _ _ _ _
   | exact impl_JumpAt.mono _ _ _ _ _
   | exact laws_vBefore.mono _ _ _
   | exact laws_vSame.mono _ _ _
   | exact laws_vSameLists.mono _ _ _
   | exact laws_vSolves.mono _ _ _ _
   | exact laws_vSum.mono _ _
   | exact spec_BranchesOf.mono _ _ _ _
   | exact spec_ClimbHurwitz.mono _ _ _ _ _
   | exact spec_DrawBranchesOf.mono _ _
   | exact spec_DrawClimbHurwitz.mono _ _
   | exact LeO.none _
   | refine LeO.ite ?_ ?_
   | refine LeO.bind ?_ (fun _ => ?_)
set_option maxHeartbeats 8000000 in
set_option maxRecDepth 100000 in
theorem laws_FnClimbsOfHurwitz.calls (k : Nat) (A0 : Option Addr) (c0 : Nat) (l0 : List Int) (A1 : Option Addr) (c1 : Nat) (l1 : List Int) (r : Bool) (w : World) (hr0 : Kd.C (Kd.int .u8) w A0 l0.length l0) (hc0 : l0.length ≤ c0) (hr1 : Kd.C (Kd.int .u8) w A1 l1.length l1) (hc1 : l1.length ≤ c1) (h : laws_FnClimbsOfHurwitz.f k l0 l1 = some r) :
  Calls Try.prog 8 #[.slice A0 l0.length c0, .slice A1 l1.length c1] w fun e w' => e = .returned (.bool r) ∧ Below w.heap.size w w' := by
 have HR0 := Aside0.mk hr0
 have HC0 := Aside0.mk hc0
 clear hr0 hc0
 have HR1 := Aside0.mk hr1
 have HC1 := Aside0.mk hc1
 clear hr1 hc1
 have HB := Aside0.mk (Below.refl w.heap.size w)
 have H : ((laws_big.f l0 l1).bind fun t759 => (if t759 = true then (some true) else ((spec_DrawClimbHurwitz.f k l0).bind fun bt760 => ((impl_ClimbHurwitz.f k bt760.1 bt760.2.1 bt760.2.2.1 bt760.2.2.2).bind fun bt768 => ((spec_ClimbHurwitz.f k bt760.1 bt760.2.1 bt760.2.2.1 bt760.2.2.2).bind fun bt772 => (if (bt768.2 != bt772.2) = true then (laws_FnClimbsOfHurwitz.j0 k l1 bt760.1 bt760.2.1 bt760.2.2.1 bt760.2.2.2 bt768.1 bt768.2 true) else ((laws_vSame.f k bt768.1 bt772.1).bind fun t776 => (laws_FnClimbsOfHurwitz.j0 k l1 bt760.1 bt760.2.1 bt760.2.2.1 bt760.2.2.2 bt768.1 bt768.2 (!t776))))))))) = some r := h
 clear h
 replace H := Option.bind_eq_some_iff.mp H
 obtain ⟨t759, A30, H⟩ := H
 replace H : (if t759 = true then (some true) else ((spec_DrawClimbHurwitz.f k l0).bind fun bt760 => ((impl_ClimbHurwitz.f k bt760.1 bt760.2.1 bt760.2.2.1 bt760.2.2.2).bind fun bt768 => ((spec_ClimbHurwitz.f k bt760.1 bt760.2.1 bt760.2.2.1 bt760.2.2.2).bind fun bt772 => (if (bt768.2 != bt772.2) = true then (laws_FnClimbsOfHurwitz.j0 k l1 bt760.1 bt760.2.1 bt760.2.2.1 bt760.2.2.2 bt768.1 bt768.2 true) else ((laws_vSame.f k bt768.1 bt772.1).bind fun t776 => (laws_FnClimbsOfHurwitz.j0 k l1 bt760.1 bt760.2.1 bt760.2.2.1 bt760.2.2.2 bt768.1 bt768.2 (!t776)))))))) = some r := H
 have A3 := Aside0.mk A30
 clear A30
 by_cases c4 : t759 = true
 ·subst c4
  have H1 : (some true) = some r := by rw [if_pos rfl] at H; exact H
  clear H; have H := H1; clear H1
  obtain rfl := Option.some.inj H
  go_enter Try.func8, Try.ntmps8
  go_wp2_with (first | ((with_reducible refine gate_callee (f := 19) rfl ?_); refine goesL_ (some 33) rfl rfl Try.func19 (by kernel_rfl) rfl #[.slice A0 l0.length c0, .slice A1 l1.length c1] rfl (by (try simp only [List.map_toArray, List.map_cons, List.map_nil]); first | done | rfl) ?_; (with_reducible refine (laws_big.calls _ _ l0 _ _ l1 true _ ?side1 ?side2 ?side3 ?side4 A3.out).mono ?_); (case side1 => repeat (first | exact HR0.out | (with_reducible refine Kd.C_alloc ?_ _) | (with_reducible refine Kd.C_drewN ?_ _) | (with_reducible refine Kd.C_drew ?_))); (case side2 => exact HC0.out); (case side3 => repeat (first | exact HR1.out | (with_reducible refine Kd.C_alloc ?_ _) | (with_reducible refine Kd.C_drewN ?_ _) | (with_reducible refine Kd.C_drew ?_))); (case side4 => exact HC1.out); rintro e w' ⟨rfl, ⟨nd, rfl⟩⟩; refine ⟨_, rfl, ?_⟩))
  go_ret
  exact ⟨by first | rfl | (simp [errW_none, errW_some] <;> rfl) | (simp [*, errW_none, errW_some] <;> rfl), by repeat (first | (with_reducible first | exact HB.out | apply below_alloc | apply pw_below_drewN | apply below_drew1) | exact HB.out)⟩
 ·as_aux_lemma =>
  replace c4 := Bool.eq_false_iff.mpr c4
  subst c4
  have H1 : ((spec_DrawClimbHurwitz.f k l0).bind fun bt760 => ((impl_ClimbHurwitz.f k bt760.1 bt760.2.1 bt760.2.2.1 bt760.2.2.2).bind fun bt768 => ((spec_ClimbHurwitz.f k bt760.1 bt760.2.1 bt760.2.2.1 bt760.2.2.2).bind fun bt772 => (if (bt768.2 != bt772.2) = true then (laws_FnClimbsOfHurwitz.j0 k l1 bt760.1 bt760.2.1 bt760.2.2.1 bt760.2.2.2 bt768.1 bt768.2 true) else ((laws_vSame.f k bt768.1 bt772.1).bind fun t776 => (laws_FnClimbsOfHurwitz.j0 k l1 bt760.1 bt760.2.1 bt760.2.2.1 bt760.2.2.2 bt768.1 bt768.2 (!t776))))))) = some r := by rw [if_neg (show ¬ (false = true) by decide)] at H; exact H
  clear H; have H := H1; clear H1
  replace H := Option.bind_eq_some_iff.mp H
  obtain ⟨⟨t760, t761, t762, t763⟩, A50, H⟩ := H
  replace H : ((impl_ClimbHurwitz.f k t760 t761 t762 t763).bind fun bt768 => ((spec_ClimbHurwitz.f k t760 t761 t762 t763).bind fun bt772 => (if (bt768.2 != bt772.2) = true then (laws_FnClimbsOfHurwitz.j0 k l1 t760 t761 t762 t763 bt768.1 bt768.2 true) else ((laws_vSame.f k bt768.1 bt772.1).bind fun t776 => (laws_FnClimbsOfHurwitz.j0 k l1 t760 t761 t762 t763 bt768.1 bt768.2 (!t776)))))) = some r := H
  have A5 := Aside0.mk A50
  clear A50
  replace H := Option.bind_eq_some_iff.mp H
  obtain ⟨⟨t768, t769⟩, A60, H⟩ := H
  replace H : ((spec_ClimbHurwitz.f k t760 t761 t762 t763).bind fun bt772 => (if (t769 != bt772.2) = true then (laws_FnClimbsOfHurwitz.j0 k l1 t760 t761 t762 t763 t768 t769 true) else ((laws_vSame.f k t768 bt772.1).bind fun t776 => (laws_FnClimbsOfHurwitz.j0 k l1 t760 t761 t762 t763 t768 t769 (!t776))))) = some r := H
  have A6 := Aside0.mk A60
  clear A60
  replace H := Option.bind_eq_some_iff.mp H
  obtain ⟨⟨t772, t773⟩, A70, H⟩ := H
  replace H : (if (t769 != t773) = true then (laws_FnClimbsOfHurwitz.j0 k l1 t760 t761 t762 t763 t768 t769 true) else ((laws_vSame.f k t768 t772).bind fun t776 => (laws_FnClimbsOfHurwitz.j0 k l1 t760 t761 t762 t763 t768 t769 (!t776)))) = some r := H
  have A7 := Aside0.mk A70
  clear A70
  have HC8 := Aside0.mk H
  clear H
  go_enter Try.func8, Try.ntmps8
  go_upto_region 6 with (first | ((with_reducible refine gate_callee (f := 19) rfl ?_); refine goesL_ (some 33) rfl rfl Try.func19 (by kernel_rfl) rfl #[.slice A0 l0.length c0, .slice A1 l1.length c1] rfl (by (try simp only [List.map_toArray, List.map_cons, List.map_nil]); first | done | rfl) ?_; (with_reducible refine (laws_big.calls _ _ l0 _ _ l1 false _ ?side1 ?side2 ?side3 ?side4 A3.out).mono ?_); (case side1 => repeat (first | exact HR0.out | (with_reducible refine Kd.C_alloc ?_ _) | (with_reducible refine Kd.C_drewN ?_ _) | (with_reducible refine Kd.C_drew ?_))); (case side2 => exact HC0.out); (case side3 => repeat (first | exact HR1.out | (with_reducible refine Kd.C_alloc ?_ _) | (with_reducible refine Kd.C_drewN ?_ _) | (with_reducible refine Kd.C_drew ?_))); (case side4 => exact HC1.out); rintro e w' ⟨rfl, ⟨nd, rfl⟩⟩; refine ⟨_, rfl, ?_⟩) | ((with_reducible refine gate_callee (f := 43) rfl ?_); refine goesL_ (some 36) rfl rfl Try.func43 (by kernel_rfl) rfl #[.slice A0 l0.length c0] rfl (by (try simp only [List.map_toArray, List.map_cons, List.map_nil]); first | done | rfl) ?_; (with_reducible refine (spec_DrawClimbHurwitz.calls k _ _ l0 t760 t761 t762 t763 _ ?side1 ?side2 A5.out).mono ?_); (case side1 => repeat (first | exact HR0.out | (with_reducible refine Kd.C_alloc ?_ _) | (with_reducible refine Kd.C_drewN ?_ _) | (with_reducible refine Kd.C_drew ?_))); (case side2 => exact HC0.out); rintro e w9 ⟨v764, v766, rfl, ho0, ho1, hb⟩; refine ⟨_, rfl, ?_⟩; have n0_ := Aside0.mk (Kd.R_lower ho0 (below_size (by repeat (first | (with_reducible first | exact HB.out | apply below_alloc | apply pw_below_drewN | apply below_drew1) | exact HB.out)))); have n1_ := Aside0.mk (Kd.R_lower ho1 (below_size (by repeat (first | (with_reducible first | exact HB.out | apply below_alloc | apply pw_below_drewN | apply below_drew1) | exact HB.out)))); have n2_ := Aside0.mk (below_step (by repeat (first | (with_reducible first | exact HB.out | apply below_alloc | apply pw_below_drewN | apply below_drew1) | exact HB.out)) hb); clear HB; have HO765 := n0_; have HO767 := n1_; have HB := n2_; clear n0_ n1_ n2_; (try clear hb); (try clear hb2); (try clear hk); (try clear hi); (try clear ho0); (try clear ho1); obtain ⟨Ao10, co10, eo10⟩ := Kd.R_slice HO765.out; subst eo10; obtain ⟨Ao11, co11, eo11⟩ := Kd.R_slice HO767.out; subst eo11) | ((with_reducible refine gate_callee (f := 41) rfl ?_); refine goesL_ (some 46) rfl rfl Try.func41 (by kernel_rfl) rfl #[.slice Ao10 t760.length co10, .int .i64 t761, .int .i64 t762, .slice Ao11 t763.length co11] rfl (by (try simp only [List.map_toArray, List.map_cons, List.map_nil]); first | done | rfl) ?_; (with_reducible refine (impl_ClimbHurwitz.calls k _ _ t760 t761 t762 _ _ t763 t768 t769 _ ?side1 ?side2 ?side3 ?side4 A6.out).mono ?_); (case side1 => repeat (first | exact (Kd.R_reads' HO765.out).2.2 | (with_reducible refine Kd.C_alloc ?_ _) | (with_reducible refine Kd.C_drewN ?_ _) | (with_reducible refine Kd.C_drew ?_))); (case side2 => exact (Kd.R_reads' HO765.out).2.1); (case side3 => repeat (first | exact (Kd.R_reads' HO767.out).2.2 | (with_reducible refine Kd.C_alloc ?_ _) | (with_reducible refine Kd.C_drewN ?_ _) | (with_reducible refine Kd.C_drew ?_))); (case side4 => exact (Kd.R_reads' HO767.out).2.1); rintro e w12 ⟨v770, rfl, ho0, hb⟩; refine ⟨_, rfl, ?_⟩; have n0_ := Aside0.mk (Kd.R_elder' (by (with_reducible repeat (first | apply Kd.R_alloc | apply Kd.R_drewN | apply Kd.R_drew)); exact HO765.out) (Kd.R_base ho0) hb); have n1_ := Aside0.mk (Kd.R_elder' (by (with_reducible repeat (first | apply Kd.R_alloc | apply Kd.R_drewN | apply Kd.R_drew)); exact HO767.out) (Kd.R_base ho0) hb); have n2_ := Aside0.mk (Kd.R_lower (Kd.R_new' (Kd.R_new' ho0 (Kd.R_lt (by (with_reducible repeat (first | apply Kd.R_alloc | apply Kd.R_drewN | apply Kd.R_drew)); exact HO765.out))) (Kd.R_lt (by (with_reducible repeat (first | apply Kd.R_alloc | apply Kd.R_drewN | apply Kd.R_drew)); exact HO767.out))) (below_size (by repeat (first | (with_reducible first | exact HB.out | apply below_alloc | apply pw_below_drewN | apply below_drew1) | exact HB.out)))); have n3_ := Aside0.mk (below_step (by repeat (first | (with_reducible first | exact HB.out | apply below_alloc | apply pw_below_drewN | apply below_drew1) | exact HB.out)) hb); clear HO765; clear HO767; clear HB; have HO765 := n0_; have HO767 := n1_; have HO771 := n2_; have HB := n3_; clear n0_ n1_ n2_ n3_; (try clear hb); (try clear hb2); (try clear hk); (try clear hi); (try clear ho0)) | ((with_reducible refine gate_callee (f := 44) rfl ?_); refine goesL_ (some 54) rfl rfl Try.func44 (by kernel_rfl) rfl #[.slice Ao10 t760.length co10, .int .i64 t761, .int .i64 t762, .slice Ao11 t763.length co11] rfl (by (try simp only [List.map_toArray, List.map_cons, List.map_nil]); first | done | rfl) ?_; (with_reducible refine (spec_ClimbHurwitz.calls k _ _ t760 t761 t762 _ _ t763 t772 t773 _ ?side1 ?side2 ?side3 ?side4 A7.out).mono ?_); (case side1 => repeat (first | exact (Kd.R_reads' HO765.out).2.2 | (with_reducible refine Kd.C_alloc ?_ _) | (with_reducible refine Kd.C_drewN ?_ _) | (with_reducible refine Kd.C_drew ?_))); (case side2 => exact (Kd.R_reads' HO765.out).2.1); (case side3 => repeat (first | exact (Kd.R_reads' HO767.out).2.2 | (with_reducible refine Kd.C_alloc ?_ _) | (with_reducible refine Kd.C_drewN ?_ _) | (with_reducible refine Kd.C_drew ?_))); (case side4 => exact (Kd.R_reads' HO767.out).2.1); rintro e w13 ⟨v774, rfl, ho0, hb⟩; refine ⟨_, rfl, ?_⟩; have n0_ := Aside0.mk (Kd.R_elder' (by (with_reducible repeat (first | apply Kd.R_alloc | apply Kd.R_drewN | apply Kd.R_drew)); exact HO765.out) (Kd.R_base ho0) hb); have n1_ := Aside0.mk (Kd.R_elder' (by (with_reducible repeat (first | apply Kd.R_alloc | apply Kd.R_drewN | apply Kd.R_drew)); exact HO767.out) (Kd.R_base ho0) hb); have n2_ := Aside0.mk (Kd.R_elder' (by (with_reducible repeat (first | apply Kd.R_alloc | apply Kd.R_drewN | apply Kd.R_drew)); exact HO771.out) (Kd.R_base ho0) hb); have n3_ := Aside0.mk (Kd.R_lower (Kd.R_new' (Kd.R_new' (Kd.R_new' ho0 (Kd.R_lt (by (with_reducible repeat (first | apply Kd.R_alloc | apply Kd.R_drewN | apply Kd.R_drew)); exact HO765.out))) (Kd.R_lt (by (with_reducible repeat (first | apply Kd.R_alloc | apply Kd.R_drewN | apply Kd.R_drew)); exact HO767.out))) (Kd.R_lt (by (with_reducible repeat (first | apply Kd.R_alloc | apply Kd.R_drewN | apply Kd.R_drew)); exact HO771.out))) (below_size (by repeat (first | (with_reducible first | exact HB.out | apply below_alloc | apply pw_below_drewN | apply below_drew1) | exact HB.out)))); have n4_ := Aside0.mk (below_step (by repeat (first | (with_reducible first | exact HB.out | apply below_alloc | apply pw_below_drewN | apply below_drew1) | exact HB.out)) hb); clear HO765; clear HO767; clear HO771; clear HB; have HO765 := n0_; have HO767 := n1_; have HO771 := n2_; have HO775 := n3_; have HB := n4_; clear n0_ n1_ n2_ n3_ n4_; (try clear hb); (try clear hb2); (try clear hk); (try clear hi); (try clear ho0)))
  (try simp only [Act.put, List.setIfInBounds_toArray, List.set_cons_zero, List.set_cons_succ])
  go_cut [65] (fun v65 wc => ∃ (kq : Nat) (x65_7 : Bool), v65 = .bool x65_7 ∧ Aside0 (laws_FnClimbsOfHurwitz.j0 kq l1 t760 t761 t762 t763 t768 t769 x65_7 = some r) ∧ Aside0 (kq ≤ k) ∧ Aside0 (Kd.R (Kd.int .i64) 3 wc w.heap.size (fun k_ => some k_ ≠ ((.slice Ao11 t763.length co11) : Value).ownBlock ∧ some k_ ≠ (v770 : Value).ownBlock) (.slice Ao10 t760.length co10) t760) ∧ Aside0 (Kd.R (Kd.int .i64) 3 wc w.heap.size (fun k_ => some k_ ≠ ((.slice Ao10 t760.length co10) : Value).ownBlock ∧ some k_ ≠ (v770 : Value).ownBlock) (.slice Ao11 t763.length co11) t763) ∧ Aside0 (Kd.R (Kd.int .i64) 3 wc w.heap.size (fun k_ => some k_ ≠ ((.slice Ao10 t760.length co10) : Value).ownBlock ∧ some k_ ≠ ((.slice Ao11 t763.length co11) : Value).ownBlock) v770 t768) ∧ Aside0 (Below w.heap.size w wc))
  case first => as_aux_lemma =>
   have H := HC8.out; clear HC8
   by_cases c14 : (t769 != t773) = true
   ·rw [if_pos c14] at H
    have c14b0 : (t769 != t773) = true := c14
    (try (have c14b1 : decide (t769 = t773) = false := by simpa using c14))
    (try (have c14b2 : (t769 == t773) = false := by simpa using c14))
    (try (have c14b3 : ¬ (t769 = t773) := by simpa using c14))
    clear c14
    (first | rw [c14b0] | (simp only [i64_w, i32_w]; rw [c14b0]) | skip)
    have H' := Aside0.mk H
    clear H
    go_wp2
    go_meet
    case rel => exact ⟨_, (true), (by first | rfl | (simp; done) | (simp [*]; done)), H', ⟨by first | omega | exact Nat.le_refl _⟩, ⟨by (with_reducible repeat (first | apply Kd.R_alloc | apply Kd.R_drewN | apply Kd.R_drew)); exact Kd.R_mono HO765.out (fun _ hk => ⟨hk.1.1, hk.1.2⟩)⟩, ⟨by (with_reducible repeat (first | apply Kd.R_alloc | apply Kd.R_drewN | apply Kd.R_drew)); exact Kd.R_mono HO767.out (fun _ hk => ⟨hk.1.1, hk.1.2⟩)⟩, ⟨by (with_reducible repeat (first | apply Kd.R_alloc | apply Kd.R_drewN | apply Kd.R_drew)); exact Kd.R_mono HO771.out (fun _ hk => ⟨hk.1.1.2, hk.1.2⟩)⟩, ⟨by repeat (first | (with_reducible first | exact HB.out | apply below_alloc | apply pw_below_drewN | apply below_drew1) | exact HB.out)⟩⟩
   ·as_aux_lemma =>
    rw [if_neg c14] at H
    have c14b0 : (t769 != t773) = false := by simpa using c14
    (try (have c14b1 : decide (t769 = t773) = true := by simpa using c14))
    (try (have c14b2 : (t769 == t773) = true := by simpa using c14))
    clear c14
    (first | rw [c14b0] | (simp only [i64_w, i32_w]; rw [c14b0]) | skip)
    replace H := Option.bind_eq_some_iff.mp H
    obtain ⟨t776, A150, H⟩ := H
    replace H : (laws_FnClimbsOfHurwitz.j0 k l1 t760 t761 t762 t763 t768 t769 (!t776)) = some r := H
    have A15 := Aside0.mk A150
    clear A150
    have H' := Aside0.mk H
    clear H
    obtain ⟨Ao16, co16, eo16⟩ := Kd.R_slice HO771.out
    subst eo16
    obtain ⟨Ao17, co17, eo17⟩ := Kd.R_slice HO775.out
    subst eo17
    go_wp2_with (first | (go_at_call 29; (with_reducible refine (laws_vSame.calls k _ _ t768 _ _ t772 t776 _ ?side1 ?side2 ?side3 ?side4 A15.out).mono ?_); (case side1 => repeat (first | exact (Kd.R_reads' HO771.out).2.2 | (with_reducible refine Kd.C_alloc ?_ _) | (with_reducible refine Kd.C_drewN ?_ _) | (with_reducible refine Kd.C_drew ?_))); (case side2 => exact (Kd.R_reads' HO771.out).2.1); (case side3 => repeat (first | exact (Kd.R_reads' HO775.out).2.2 | (with_reducible refine Kd.C_alloc ?_ _) | (with_reducible refine Kd.C_drewN ?_ _) | (with_reducible refine Kd.C_drew ?_))); (case side4 => exact (Kd.R_reads' HO775.out).2.1); rintro e w' ⟨rfl, ⟨nd, rfl⟩⟩))
    go_meet
    case rel => exact ⟨_, (!t776), (by first | rfl | (simp; done) | (simp [*]; done)), H', ⟨by first | omega | exact Nat.le_refl _⟩, ⟨by (with_reducible repeat (first | apply Kd.R_alloc | apply Kd.R_drewN | apply Kd.R_drew)); exact Kd.R_mono HO765.out (fun _ hk => ⟨hk.1.1, hk.1.2⟩)⟩, ⟨by (with_reducible repeat (first | apply Kd.R_alloc | apply Kd.R_drewN | apply Kd.R_drew)); exact Kd.R_mono HO767.out (fun _ hk => ⟨hk.1.1, hk.1.2⟩)⟩, ⟨by (with_reducible repeat (first | apply Kd.R_alloc | apply Kd.R_drewN | apply Kd.R_drew)); exact Kd.R_mono HO771.out (fun _ hk => ⟨hk.1.1.2, hk.1.2⟩)⟩, ⟨by repeat (first | (with_reducible first | exact HB.out | apply below_alloc | apply pw_below_drewN | apply below_drew1) | exact HB.out)⟩⟩
  case rest => as_aux_lemma =>
   clear HC8
   try clear c1
   try clear p2
   try clear c4
   try clear c8
   try clear c14
   try clear c14b0
   try clear c14b1
   try clear c14b2
   obtain ⟨kq, x65_7, rfl, HA, HJ7, HO_5, HO_8, HO_9, HB⟩ := hcut
   cases kq with
   | zero => exact absurd HA.out (by simp [laws_FnClimbsOfHurwitz.j0])
   | succ kj7 =>
    have H := HA.out; clear HA
    simp only [laws_FnClimbsOfHurwitz.j0] at H
    by_cases c18 : x65_7 = true
    ·subst c18
     have H1 : (some false) = some r := by rw [if_pos rfl] at H; exact H
     clear H; have H := H1; clear H1
     obtain rfl := Option.some.inj H
     go_wp2
     go_ret
     exact ⟨by first | rfl | (simp [errW_none, errW_some] <;> rfl) | (simp [*, errW_none, errW_some] <;> rfl), by repeat (first | (with_reducible first | exact HB.out | apply below_alloc | apply pw_below_drewN | apply below_drew1) | exact HB.out)⟩
    ·as_aux_lemma =>
     replace c18 := Bool.eq_false_iff.mpr c18
     subst c18
     have H1 : (if t769 = true then (laws_FnClimbsOfHurwitz.l0 kj7 l1 t760 t761 t762 t768 t760 t763 (t763.length : Int) 0) else (laws_FnClimbsOfHurwitz.j2 kj7 l1)) = some r := by rw [if_neg (show ¬ (false = true) by decide)] at H; exact H
     clear H; have H := H1; clear H1
     have HC19 := Aside0.mk H
     clear H
     go_upto_if 66 with (fail)
     go_cut [] (fun wc => ∃ (kq : Nat), Aside0 (laws_FnClimbsOfHurwitz.j2 kq l1 = some r) ∧ Aside0 (kq ≤ kj7) ∧ Aside0 (Below w.heap.size w wc))
     case first => as_aux_lemma =>
      have H := HC19.out; clear HC19
      by_cases c20 : t769 = true
      ·as_aux_lemma =>
       subst c20
       have H1 : (laws_FnClimbsOfHurwitz.l0 kj7 l1 t760 t761 t762 t768 t760 t763 (t763.length : Int) 0) = some r := by rw [if_pos rfl] at H; exact H
       clear H; have H := H1; clear H1
       have H' := Aside0.mk H
       clear H
       go_wp2
       go_loopg [13, 70] kj7 (fun kq v13 v70 w' => ∃ (x13_2 : List Int) (x70_2 : Int), v70 = .int .i64 x70_2 ∧ Aside0 (laws_FnClimbsOfHurwitz.l0 kq l1 t760 t761 t762 t768 x13_2 t763 (t763.length : Int) x70_2 = some r) ∧ Aside0 (kq ≤ kj7) ∧ Aside0 (Kd.R (Kd.int .i64) 3 w' w.heap.size (fun k_ => some k_ ≠ (v770 : Value).ownBlock ∧ some k_ ≠ ((.slice Ao11 t763.length co11) : Value).ownBlock) (.slice Ao10 t760.length co10) t760) ∧ Aside0 (Kd.R (Kd.int .i64) 3 w' w.heap.size (fun k_ => some k_ ≠ ((.slice Ao10 t760.length co10) : Value).ownBlock ∧ some k_ ≠ (v13 : Value).ownBlock ∧ some k_ ≠ ((.slice Ao11 t763.length co11) : Value).ownBlock) v770 t768) ∧ Aside0 (Kd.R (Kd.int .i64) 3 w' w.heap.size (fun k_ => some k_ ≠ (v770 : Value).ownBlock ∧ some k_ ≠ ((.slice Ao11 t763.length co11) : Value).ownBlock) v13 x13_2) ∧ Aside0 (Kd.R (Kd.int .i64) 3 w' w.heap.size (fun k_ => some k_ ≠ ((.slice Ao10 t760.length co10) : Value).ownBlock ∧ some k_ ≠ (v770 : Value).ownBlock ∧ some k_ ≠ (v13 : Value).ownBlock) (.slice Ao11 t763.length co11) t763) ∧ Aside0 (Below w.heap.size w w'))
       case atStart => exact ⟨(t760), (0), (by first | rfl | (simp; done) | (simp [*]; done)), H', ⟨Nat.le_refl _⟩, ⟨by (with_reducible repeat (first | apply Kd.R_alloc | apply Kd.R_drewN | apply Kd.R_drew)); exact Kd.R_mono HO_5.out (fun _ hk => ⟨hk.2, hk.1⟩)⟩, ⟨by (with_reducible repeat (first | apply Kd.R_alloc | apply Kd.R_drewN | apply Kd.R_drew)); exact Kd.R_mono HO_9.out (fun _ hk => ⟨hk.1, ⟨hk.1, hk.2⟩⟩)⟩, ⟨by (with_reducible repeat (first | apply Kd.R_alloc | apply Kd.R_drewN | apply Kd.R_drew)); exact Kd.R_mono HO_5.out (fun _ hk => ⟨hk.2, hk.1⟩)⟩, ⟨by (with_reducible repeat (first | apply Kd.R_alloc | apply Kd.R_drewN | apply Kd.R_drew)); exact Kd.R_mono HO_8.out (fun _ hk => ⟨hk.1, ⟨hk.2, hk.1⟩⟩)⟩, ⟨by repeat (first | (with_reducible first | exact HB.out | apply below_alloc | apply pw_below_drewN | apply below_drew1) | exact HB.out)⟩⟩
       case round => as_aux_lemma =>
        clear H'
        try clear c1
        try clear c2
        try clear p2
        try clear c4
        try clear c8
        try clear c14
        try clear c14b0
        try clear c14b1
        try clear c14b2
        try clear c18
        try clear c19
        try clear c20
        try clear p2
        obtain ⟨x13_2, x70_2, rfl, HA, HK2, HO_5, HO_9, HO_13, HO_68, HB⟩ := hrel
        cases gk with
        | zero => exact absurd HA.out (by simp [laws_FnClimbsOfHurwitz.l0])
        | succ k2 =>
         have H := HA.out; clear HA
         simp only [laws_FnClimbsOfHurwitz.l0] at H
         by_cases c21 : x70_2 < (t763.length : Int)
         ·as_aux_lemma =>
          rw [if_pos c21] at H
          have c21b0 : decide (x70_2 < (t763.length : Int)) = true := decide_eq_true c21
          clear c21
          (first | rw [c21b0] | (simp only [i64_w, i32_w]; rw [c21b0]) | skip)
          by_cases c22 : 0 ≤ x70_2
          rotate_left
          ·rw [if_neg c22] at H
           exact absurd H (by simp)
          as_aux_lemma =>
          rw [if_pos c22] at H
          have c22b0 : decide (0 ≤ x70_2) = true := decide_eq_true c22
          clear c22
          by_cases c23 : x70_2 < (t763.length : Int)
          rotate_left
          ·rw [if_neg c23] at H
           exact absurd H (by simp)
          as_aux_lemma =>
          rw [if_pos c23] at H
          have c23b0 : decide (x70_2 < (t763.length : Int)) = true := decide_eq_true c23
          clear c23
          replace H := Option.bind_eq_some_iff.mp H
          obtain ⟨⟨t778, t779⟩, A240, H⟩ := H
          replace H : (if t779 = true then (laws_FnClimbsOfHurwitz.l0 k2 l1 t760 t761 t762 t768 t778 t763 (t763.length : Int) (wrap64 (x70_2 + 1))) else (some false)) = some r := H
          have A24 := Aside0.mk A240
          clear A240
          by_cases c25 : t779 = true
          ·as_aux_lemma =>
           subst c25
           have H1 : (laws_FnClimbsOfHurwitz.l0 k2 l1 t760 t761 t762 t768 t778 t763 (t763.length : Int) (wrap64 (x70_2 + 1))) = some r := by rw [if_pos rfl] at H; exact H
           clear H; have H := H1; clear H1
           have H' := Aside0.mk H
           clear H
           have p777 : 0 ≤ (x70_2 : Int) := of_decide_eq_true (by first | (with_reducible assumption) | assumption)
           have q777 : x70_2 < (t763.length : Int) := of_decide_eq_true (by first | (with_reducible assumption) | assumption)
           obtain ⟨ad777, e777, hx777_0⟩ := Kd.at_int (Kd.R_reads' HO_68.out).2.2 x70_2 p777 q777
           cases e777
           replace p777 := eq_true p777; replace q777 := eq_true q777
           obtain ⟨Ao26, co26, eo26⟩ := Kd.R_slice HO_13.out
           subst eo26
           go_wp2_with (first | ((with_reducible refine gate_callee (f := 45) rfl ?_); refine goesL_ (some 79) rfl rfl Try.func45 (by kernel_rfl) rfl #[.slice Ao26 x13_2.length co26, .int .i64 t761, .int .i64 t762, .int .i64 (rd t763 x70_2)] rfl (by (try simp only [List.map_toArray, List.map_cons, List.map_nil]); first | done | rfl) ?_; (with_reducible refine (impl_JumpAt.calls k2 _ _ x13_2 t761 t762 (rd t763 x70_2) t778 true _ ?side1 ?side2 A24.out).mono ?_); (case side1 => repeat (first | exact (Kd.R_reads' HO_13.out).2.2 | (with_reducible refine Kd.C_alloc ?_ _) | (with_reducible refine Kd.C_drewN ?_ _) | (with_reducible refine Kd.C_drew ?_))); (case side2 => exact (Kd.R_reads' HO_13.out).2.1); rintro e w27 ⟨v780, rfl, ho0, hb⟩; refine ⟨_, rfl, ?_⟩; have n0_ := Aside0.mk (Kd.R_elder' (by (with_reducible repeat (first | apply Kd.R_alloc | apply Kd.R_drewN | apply Kd.R_drew)); exact HO_5.out) (Kd.R_base ho0) hb); have n1_ := Aside0.mk (Kd.R_elder' (by (with_reducible repeat (first | apply Kd.R_alloc | apply Kd.R_drewN | apply Kd.R_drew)); exact HO_9.out) (Kd.R_base ho0) hb); have n2_ := Aside0.mk (Kd.R_elder' (by (with_reducible repeat (first | apply Kd.R_alloc | apply Kd.R_drewN | apply Kd.R_drew)); exact HO_13.out) (Kd.R_base ho0) hb); have n3_ := Aside0.mk (Kd.R_elder' (by (with_reducible repeat (first | apply Kd.R_alloc | apply Kd.R_drewN | apply Kd.R_drew)); exact HO_68.out) (Kd.R_base ho0) hb); have n4_ := Aside0.mk (Kd.R_lower (Kd.R_new' (Kd.R_new' (Kd.R_new' (Kd.R_new' ho0 (Kd.R_lt (by (with_reducible repeat (first | apply Kd.R_alloc | apply Kd.R_drewN | apply Kd.R_drew)); exact HO_5.out))) (Kd.R_lt (by (with_reducible repeat (first | apply Kd.R_alloc | apply Kd.R_drewN | apply Kd.R_drew)); exact HO_9.out))) (Kd.R_lt (by (with_reducible repeat (first | apply Kd.R_alloc | apply Kd.R_drewN | apply Kd.R_drew)); exact HO_13.out))) (Kd.R_lt (by (with_reducible repeat (first | apply Kd.R_alloc | apply Kd.R_drewN | apply Kd.R_drew)); exact HO_68.out))) (below_size (by repeat (first | (with_reducible first | exact HB.out | apply below_alloc | apply pw_below_drewN | apply below_drew1) | exact HB.out)))); have n5_ := Aside0.mk (below_step (by repeat (first | (with_reducible first | exact HB.out | apply below_alloc | apply pw_below_drewN | apply below_drew1) | exact HB.out)) hb); clear HO_5; clear HO_9; clear HO_13; clear HO_68; clear HB; have HO_5 := n0_; have HO_9 := n1_; have HO_13 := n2_; have HO_68 := n3_; have HO781 := n4_; have HB := n5_; clear n0_ n1_ n2_ n3_ n4_ n5_; (try clear hb); (try clear hb2); (try clear hk); (try clear hi); (try clear ho0)))
           go_roundg k2
           case measure => have := HJ7.out; have := HK2.out; omega
           case rel => exact ⟨(t778), (wrap64 (x70_2 + 1)), (by first | rfl | (simp; done) | (simp [*]; done)), H', ⟨by have := HJ7.out; have := HK2.out; omega⟩, ⟨by (with_reducible repeat (first | apply Kd.R_alloc | apply Kd.R_drewN | apply Kd.R_drew)); exact Kd.R_mono HO_5.out (fun _ hk => ⟨hk.1.1, hk.1.2⟩)⟩, ⟨by (with_reducible repeat (first | apply Kd.R_alloc | apply Kd.R_drewN | apply Kd.R_drew)); exact Kd.R_mono HO_9.out (fun _ hk => ⟨hk.1.1, ⟨hk.2, hk.1.2.2⟩⟩)⟩, ⟨by (with_reducible repeat (first | apply Kd.R_alloc | apply Kd.R_drewN | apply Kd.R_drew)); exact Kd.R_mono HO781.out (fun _ hk => ⟨hk.1.1.2, hk.2⟩)⟩, ⟨by (with_reducible repeat (first | apply Kd.R_alloc | apply Kd.R_drewN | apply Kd.R_drew)); exact Kd.R_mono HO_68.out (fun _ hk => ⟨hk.1.1, ⟨hk.1.2.1, hk.2⟩⟩)⟩, ⟨by repeat (first | (with_reducible first | exact HB.out | apply below_alloc | apply pw_below_drewN | apply below_drew1) | exact HB.out)⟩⟩
          ·as_aux_lemma =>
           replace c25 := Bool.eq_false_iff.mpr c25
           subst c25
           have H1 : (some false) = some r := by rw [if_neg (show ¬ (false = true) by decide)] at H; exact H
           clear H; have H := H1; clear H1
           obtain rfl := Option.some.inj H
           have p777 : 0 ≤ (x70_2 : Int) := of_decide_eq_true (by first | (with_reducible assumption) | assumption)
           have q777 : x70_2 < (t763.length : Int) := of_decide_eq_true (by first | (with_reducible assumption) | assumption)
           obtain ⟨ad777, e777, hx777_0⟩ := Kd.at_int (Kd.R_reads' HO_68.out).2.2 x70_2 p777 q777
           cases e777
           replace p777 := eq_true p777; replace q777 := eq_true q777
           obtain ⟨Ao28, co28, eo28⟩ := Kd.R_slice HO_13.out
           subst eo28
           go_wp2_with (first | ((with_reducible refine gate_callee (f := 45) rfl ?_); refine goesL_ (some 79) rfl rfl Try.func45 (by kernel_rfl) rfl #[.slice Ao28 x13_2.length co28, .int .i64 t761, .int .i64 t762, .int .i64 (rd t763 x70_2)] rfl (by (try simp only [List.map_toArray, List.map_cons, List.map_nil]); first | done | rfl) ?_; (with_reducible refine (impl_JumpAt.calls k2 _ _ x13_2 t761 t762 (rd t763 x70_2) t778 false _ ?side1 ?side2 A24.out).mono ?_); (case side1 => repeat (first | exact (Kd.R_reads' HO_13.out).2.2 | (with_reducible refine Kd.C_alloc ?_ _) | (with_reducible refine Kd.C_drewN ?_ _) | (with_reducible refine Kd.C_drew ?_))); (case side2 => exact (Kd.R_reads' HO_13.out).2.1); rintro e w29 ⟨v780, rfl, ho0, hb⟩; refine ⟨_, rfl, ?_⟩; have n0_ := Aside0.mk (Kd.R_elder' (by (with_reducible repeat (first | apply Kd.R_alloc | apply Kd.R_drewN | apply Kd.R_drew)); exact HO_5.out) (Kd.R_base ho0) hb); have n1_ := Aside0.mk (Kd.R_elder' (by (with_reducible repeat (first | apply Kd.R_alloc | apply Kd.R_drewN | apply Kd.R_drew)); exact HO_9.out) (Kd.R_base ho0) hb); have n2_ := Aside0.mk (Kd.R_elder' (by (with_reducible repeat (first | apply Kd.R_alloc | apply Kd.R_drewN | apply Kd.R_drew)); exact HO_13.out) (Kd.R_base ho0) hb); have n3_ := Aside0.mk (Kd.R_elder' (by (with_reducible repeat (first | apply Kd.R_alloc | apply Kd.R_drewN | apply Kd.R_drew)); exact HO_68.out) (Kd.R_base ho0) hb); have n4_ := Aside0.mk (Kd.R_lower (Kd.R_new' (Kd.R_new' (Kd.R_new' (Kd.R_new' ho0 (Kd.R_lt (by (with_reducible repeat (first | apply Kd.R_alloc | apply Kd.R_drewN | apply Kd.R_drew)); exact HO_5.out))) (Kd.R_lt (by (with_reducible repeat (first | apply Kd.R_alloc | apply Kd.R_drewN | apply Kd.R_drew)); exact HO_9.out))) (Kd.R_lt (by (with_reducible repeat (first | apply Kd.R_alloc | apply Kd.R_drewN | apply Kd.R_drew)); exact HO_13.out))) (Kd.R_lt (by (with_reducible repeat (first | apply Kd.R_alloc | apply Kd.R_drewN | apply Kd.R_drew)); exact HO_68.out))) (below_size (by repeat (first | (with_reducible first | exact HB.out | apply below_alloc | apply pw_below_drewN | apply below_drew1) | exact HB.out)))); have n5_ := Aside0.mk (below_step (by repeat (first | (with_reducible first | exact HB.out | apply below_alloc | apply pw_below_drewN | apply below_drew1) | exact HB.out)) hb); clear HO_5; clear HO_9; clear HO_13; clear HO_68; clear HB; have HO_5 := n0_; have HO_9 := n1_; have HO_13 := n2_; have HO_68 := n3_; have HO781 := n4_; have HB := n5_; clear n0_ n1_ n2_ n3_ n4_ n5_; (try clear hb); (try clear hb2); (try clear hk); (try clear hi); (try clear ho0)))
           go_ret
           exact ⟨by first | rfl | (simp [errW_none, errW_some] <;> rfl) | (simp [*, errW_none, errW_some] <;> rfl), by repeat (first | (with_reducible first | exact HB.out | apply below_alloc | apply pw_below_drewN | apply below_drew1) | exact HB.out)⟩
         ·as_aux_lemma =>
          rw [if_neg c21] at H
          have c21b0 : decide (x70_2 < (t763.length : Int)) = false := decide_eq_false c21
          clear c21
          (first | rw [c21b0] | (simp only [i64_w, i32_w]; rw [c21b0]) | skip)
          replace H := Option.bind_eq_some_iff.mp H
          obtain ⟨⟨t782, t783⟩, A300, H⟩ := H
          replace H : ((impl_FundamentalOf.f k2 t768 t761 t762).bind fun bt786 => ((laws_vSame.f k2 x13_2 t768).bind fun t790 => (if t790 = true then (if t783 = true then (if bt786.2 = true then (if t762 = 0 then ((laws_vSame.f k2 t782 bt786.1).bind fun t791 => (if t791 = true then (laws_FnClimbsOfHurwitz.j2 k2 l1) else (some false))) else (laws_FnClimbsOfHurwitz.j2 k2 l1)) else (some false)) else (some false)) else (some false)))) = some r := H
          have A30 := Aside0.mk A300
          clear A300
          replace H := Option.bind_eq_some_iff.mp H
          obtain ⟨⟨t786, t787⟩, A310, H⟩ := H
          replace H : ((laws_vSame.f k2 x13_2 t768).bind fun t790 => (if t790 = true then (if t783 = true then (if t787 = true then (if t762 = 0 then ((laws_vSame.f k2 t782 t786).bind fun t791 => (if t791 = true then (laws_FnClimbsOfHurwitz.j2 k2 l1) else (some false))) else (laws_FnClimbsOfHurwitz.j2 k2 l1)) else (some false)) else (some false)) else (some false))) = some r := H
          have A31 := Aside0.mk A310
          clear A310
          replace H := Option.bind_eq_some_iff.mp H
          obtain ⟨t790, A320, H⟩ := H
          replace H : (if t790 = true then (if t783 = true then (if t787 = true then (if t762 = 0 then ((laws_vSame.f k2 t782 t786).bind fun t791 => (if t791 = true then (laws_FnClimbsOfHurwitz.j2 k2 l1) else (some false))) else (laws_FnClimbsOfHurwitz.j2 k2 l1)) else (some false)) else (some false)) else (some false)) = some r := H
          have A32 := Aside0.mk A320
          clear A320
          by_cases c33 : t790 = true
          ·as_aux_lemma =>
           subst c33
           have H1 : (if t783 = true then (if t787 = true then (if t762 = 0 then ((laws_vSame.f k2 t782 t786).bind fun t791 => (if t791 = true then (laws_FnClimbsOfHurwitz.j2 k2 l1) else (some false))) else (laws_FnClimbsOfHurwitz.j2 k2 l1)) else (some false)) else (some false)) = some r := by rw [if_pos rfl] at H; exact H
           clear H; have H := H1; clear H1
           by_cases c34 : t783 = true
           ·as_aux_lemma =>
            subst c34
            have H1 : (if t787 = true then (if t762 = 0 then ((laws_vSame.f k2 t782 t786).bind fun t791 => (if t791 = true then (laws_FnClimbsOfHurwitz.j2 k2 l1) else (some false))) else (laws_FnClimbsOfHurwitz.j2 k2 l1)) else (some false)) = some r := by rw [if_pos rfl] at H; exact H
            clear H; have H := H1; clear H1
            by_cases c35 : t787 = true
            ·as_aux_lemma =>
             subst c35
             have H1 : (if t762 = 0 then ((laws_vSame.f k2 t782 t786).bind fun t791 => (if t791 = true then (laws_FnClimbsOfHurwitz.j2 k2 l1) else (some false))) else (laws_FnClimbsOfHurwitz.j2 k2 l1)) = some r := by rw [if_pos rfl] at H; exact H
             clear H; have H := H1; clear H1
             by_cases c36 : t762 = 0
             ·as_aux_lemma =>
              rw [if_pos c36] at H
              have c36b0 : (t762 == 0) = true := beq_iff_eq.mpr c36
              have c36b1 : (t762 != 0) = false := bne_eq_false_iff_eq.mpr c36
              clear c36
              replace H := Option.bind_eq_some_iff.mp H
              obtain ⟨t791, A370, H⟩ := H
              replace H : (if t791 = true then (laws_FnClimbsOfHurwitz.j2 k2 l1) else (some false)) = some r := H
              have A37 := Aside0.mk A370
              clear A370
              by_cases c38 : t791 = true
              ·subst c38
               have H1 : (laws_FnClimbsOfHurwitz.j2 k2 l1) = some r := by rw [if_pos rfl] at H; exact H
               clear H; have H := H1; clear H1
               have H' := Aside0.mk H
               clear H
               go_wp2_with (first | ((with_reducible refine gate_callee (f := 30) rfl ?_); refine goesL_ (some 90) rfl rfl Try.func30 (by kernel_rfl) rfl #[.slice Ao10 t760.length co10, .int .i64 t761, .int .i64 t762] rfl (by (try simp only [List.map_toArray, List.map_cons, List.map_nil]); first | done | rfl) ?_; (with_reducible refine (impl_FundamentalOf.calls k2 _ _ t760 t761 t762 t782 true _ ?side1 ?side2 A30.out).mono ?_); (case side1 => repeat (first | exact (Kd.R_reads' HO_5.out).2.2 | (with_reducible refine Kd.C_alloc ?_ _) | (with_reducible refine Kd.C_drewN ?_ _) | (with_reducible refine Kd.C_drew ?_))); (case side2 => exact (Kd.R_reads' HO_5.out).2.1); rintro e w39 ⟨v784, rfl, ho0, hb⟩; refine ⟨_, rfl, ?_⟩; have n0_ := Aside0.mk (Kd.R_elder' (by (with_reducible repeat (first | apply Kd.R_alloc | apply Kd.R_drewN | apply Kd.R_drew)); exact HO_5.out) (Kd.R_base ho0) hb); have n1_ := Aside0.mk (Kd.R_elder' (by (with_reducible repeat (first | apply Kd.R_alloc | apply Kd.R_drewN | apply Kd.R_drew)); exact HO_9.out) (Kd.R_base ho0) hb); have n2_ := Aside0.mk (Kd.R_elder' (by (with_reducible repeat (first | apply Kd.R_alloc | apply Kd.R_drewN | apply Kd.R_drew)); exact HO_13.out) (Kd.R_base ho0) hb); have n3_ := Aside0.mk (Kd.R_elder' (by (with_reducible repeat (first | apply Kd.R_alloc | apply Kd.R_drewN | apply Kd.R_drew)); exact HO_68.out) (Kd.R_base ho0) hb); have n4_ := Aside0.mk (Kd.R_lower (Kd.R_new' (Kd.R_new' (Kd.R_new' (Kd.R_new' ho0 (Kd.R_lt (by (with_reducible repeat (first | apply Kd.R_alloc | apply Kd.R_drewN | apply Kd.R_drew)); exact HO_5.out))) (Kd.R_lt (by (with_reducible repeat (first | apply Kd.R_alloc | apply Kd.R_drewN | apply Kd.R_drew)); exact HO_9.out))) (Kd.R_lt (by (with_reducible repeat (first | apply Kd.R_alloc | apply Kd.R_drewN | apply Kd.R_drew)); exact HO_13.out))) (Kd.R_lt (by (with_reducible repeat (first | apply Kd.R_alloc | apply Kd.R_drewN | apply Kd.R_drew)); exact HO_68.out))) (below_size (by repeat (first | (with_reducible first | exact HB.out | apply below_alloc | apply pw_below_drewN | apply below_drew1) | exact HB.out)))); have n5_ := Aside0.mk (below_step (by repeat (first | (with_reducible first | exact HB.out | apply below_alloc | apply pw_below_drewN | apply below_drew1) | exact HB.out)) hb); clear HO_5; clear HO_9; clear HO_13; clear HO_68; clear HB; have HO_5 := n0_; have HO_9 := n1_; have HO_13 := n2_; have HO_68 := n3_; have HO785 := n4_; have HB := n5_; clear n0_ n1_ n2_ n3_ n4_ n5_; (try clear hb); (try clear hb2); (try clear hk); (try clear hi); (try clear ho0); obtain ⟨Ao40, co40, eo40⟩ := Kd.R_slice HO_9.out; subst eo40) | ((with_reducible refine gate_callee (f := 30) rfl ?_); refine goesL_ (some 97) rfl rfl Try.func30 (by kernel_rfl) rfl #[.slice Ao40 t768.length co40, .int .i64 t761, .int .i64 t762] rfl (by (try simp only [List.map_toArray, List.map_cons, List.map_nil]); first | done | rfl) ?_; (with_reducible refine (impl_FundamentalOf.calls k2 _ _ t768 t761 t762 t786 true _ ?side1 ?side2 A31.out).mono ?_); (case side1 => repeat (first | exact (Kd.R_reads' HO_9.out).2.2 | (with_reducible refine Kd.C_alloc ?_ _) | (with_reducible refine Kd.C_drewN ?_ _) | (with_reducible refine Kd.C_drew ?_))); (case side2 => exact (Kd.R_reads' HO_9.out).2.1); rintro e w41 ⟨v788, rfl, ho0, hb⟩; refine ⟨_, rfl, ?_⟩; have n0_ := Aside0.mk (Kd.R_elder' (by (with_reducible repeat (first | apply Kd.R_alloc | apply Kd.R_drewN | apply Kd.R_drew)); exact HO_5.out) (Kd.R_base ho0) hb); have n1_ := Aside0.mk (Kd.R_elder' (by (with_reducible repeat (first | apply Kd.R_alloc | apply Kd.R_drewN | apply Kd.R_drew)); exact HO_9.out) (Kd.R_base ho0) hb); have n2_ := Aside0.mk (Kd.R_elder' (by (with_reducible repeat (first | apply Kd.R_alloc | apply Kd.R_drewN | apply Kd.R_drew)); exact HO_13.out) (Kd.R_base ho0) hb); have n3_ := Aside0.mk (Kd.R_elder' (by (with_reducible repeat (first | apply Kd.R_alloc | apply Kd.R_drewN | apply Kd.R_drew)); exact HO_68.out) (Kd.R_base ho0) hb); have n4_ := Aside0.mk (Kd.R_elder' (by (with_reducible repeat (first | apply Kd.R_alloc | apply Kd.R_drewN | apply Kd.R_drew)); exact HO785.out) (Kd.R_base ho0) hb); have n5_ := Aside0.mk (Kd.R_lower (Kd.R_new' (Kd.R_new' (Kd.R_new' (Kd.R_new' (Kd.R_new' ho0 (Kd.R_lt (by (with_reducible repeat (first | apply Kd.R_alloc | apply Kd.R_drewN | apply Kd.R_drew)); exact HO_5.out))) (Kd.R_lt (by (with_reducible repeat (first | apply Kd.R_alloc | apply Kd.R_drewN | apply Kd.R_drew)); exact HO_9.out))) (Kd.R_lt (by (with_reducible repeat (first | apply Kd.R_alloc | apply Kd.R_drewN | apply Kd.R_drew)); exact HO_13.out))) (Kd.R_lt (by (with_reducible repeat (first | apply Kd.R_alloc | apply Kd.R_drewN | apply Kd.R_drew)); exact HO_68.out))) (Kd.R_lt (by (with_reducible repeat (first | apply Kd.R_alloc | apply Kd.R_drewN | apply Kd.R_drew)); exact HO785.out))) (below_size (by repeat (first | (with_reducible first | exact HB.out | apply below_alloc | apply pw_below_drewN | apply below_drew1) | exact HB.out)))); have n6_ := Aside0.mk (below_step (by repeat (first | (with_reducible first | exact HB.out | apply below_alloc | apply pw_below_drewN | apply below_drew1) | exact HB.out)) hb); clear HO_5; clear HO_9; clear HO_13; clear HO_68; clear HO785; clear HB; have HO_5 := n0_; have HO_9 := n1_; have HO_13 := n2_; have HO_68 := n3_; have HO785 := n4_; have HO789 := n5_; have HB := n6_; clear n0_ n1_ n2_ n3_ n4_ n5_ n6_; (try clear hb); (try clear hb2); (try clear hk); (try clear hi); (try clear ho0); obtain ⟨Ao42, co42, eo42⟩ := Kd.R_slice HO_13.out; subst eo42) | ((with_reducible refine gate_callee (f := 29) rfl ?_); refine goesL_ (some 102) rfl rfl Try.func29 (by kernel_rfl) rfl #[.slice Ao42 x13_2.length co42, .slice Ao40 t768.length co40] rfl (by (try simp only [List.map_toArray, List.map_cons, List.map_nil]); first | done | rfl) ?_; (with_reducible refine (laws_vSame.calls k2 _ _ x13_2 _ _ t768 true _ ?side1 ?side2 ?side3 ?side4 A32.out).mono ?_); (case side1 => repeat (first | exact (Kd.R_reads' HO_13.out).2.2 | (with_reducible refine Kd.C_alloc ?_ _) | (with_reducible refine Kd.C_drewN ?_ _) | (with_reducible refine Kd.C_drew ?_))); (case side2 => exact (Kd.R_reads' HO_13.out).2.1); (case side3 => repeat (first | exact (Kd.R_reads' HO_9.out).2.2 | (with_reducible refine Kd.C_alloc ?_ _) | (with_reducible refine Kd.C_drewN ?_ _) | (with_reducible refine Kd.C_drew ?_))); (case side4 => exact (Kd.R_reads' HO_9.out).2.1); rintro e w' ⟨rfl, ⟨nd, rfl⟩⟩; refine ⟨_, rfl, ?_⟩; obtain ⟨Ao43, co43, eo43⟩ := Kd.R_slice HO785.out; subst eo43; obtain ⟨Ao44, co44, eo44⟩ := Kd.R_slice HO789.out; subst eo44) | (go_at_call 29; (with_reducible refine (laws_vSame.calls k2 _ _ t782 _ _ t786 true _ ?side1 ?side2 ?side3 ?side4 A37.out).mono ?_); (case side1 => repeat (first | exact (Kd.R_reads' HO785.out).2.2 | (with_reducible refine Kd.C_alloc ?_ _) | (with_reducible refine Kd.C_drewN ?_ _) | (with_reducible refine Kd.C_drew ?_))); (case side2 => exact (Kd.R_reads' HO785.out).2.1); (case side3 => repeat (first | exact (Kd.R_reads' HO789.out).2.2 | (with_reducible refine Kd.C_alloc ?_ _) | (with_reducible refine Kd.C_drewN ?_ _) | (with_reducible refine Kd.C_drew ?_))); (case side4 => exact (Kd.R_reads' HO789.out).2.1); rintro e w' ⟨rfl, ⟨nd, rfl⟩⟩))
               go_meet
               case rel => exact ⟨_, H', ⟨by have := HJ7.out; have := HK2.out; first | omega | exact Nat.le_refl _⟩, ⟨by repeat (first | (with_reducible first | exact HB.out | apply below_alloc | apply pw_below_drewN | apply below_drew1) | exact HB.out)⟩⟩
              ·replace c38 := Bool.eq_false_iff.mpr c38
               subst c38
               have H1 : (some false) = some r := by rw [if_neg (show ¬ (false = true) by decide)] at H; exact H
               clear H; have H := H1; clear H1
               obtain rfl := Option.some.inj H
               go_wp2_with (first | ((with_reducible refine gate_callee (f := 30) rfl ?_); refine goesL_ (some 90) rfl rfl Try.func30 (by kernel_rfl) rfl #[.slice Ao10 t760.length co10, .int .i64 t761, .int .i64 t762] rfl (by (try simp only [List.map_toArray, List.map_cons, List.map_nil]); first | done | rfl) ?_; (with_reducible refine (impl_FundamentalOf.calls k2 _ _ t760 t761 t762 t782 true _ ?side1 ?side2 A30.out).mono ?_); (case side1 => repeat (first | exact (Kd.R_reads' HO_5.out).2.2 | (with_reducible refine Kd.C_alloc ?_ _) | (with_reducible refine Kd.C_drewN ?_ _) | (with_reducible refine Kd.C_drew ?_))); (case side2 => exact (Kd.R_reads' HO_5.out).2.1); rintro e w45 ⟨v784, rfl, ho0, hb⟩; refine ⟨_, rfl, ?_⟩; have n0_ := Aside0.mk (Kd.R_elder' (by (with_reducible repeat (first | apply Kd.R_alloc | apply Kd.R_drewN | apply Kd.R_drew)); exact HO_5.out) (Kd.R_base ho0) hb); have n1_ := Aside0.mk (Kd.R_elder' (by (with_reducible repeat (first | apply Kd.R_alloc | apply Kd.R_drewN | apply Kd.R_drew)); exact HO_9.out) (Kd.R_base ho0) hb); have n2_ := Aside0.mk (Kd.R_elder' (by (with_reducible repeat (first | apply Kd.R_alloc | apply Kd.R_drewN | apply Kd.R_drew)); exact HO_13.out) (Kd.R_base ho0) hb); have n3_ := Aside0.mk (Kd.R_elder' (by (with_reducible repeat (first | apply Kd.R_alloc | apply Kd.R_drewN | apply Kd.R_drew)); exact HO_68.out) (Kd.R_base ho0) hb); have n4_ := Aside0.mk (Kd.R_lower (Kd.R_new' (Kd.R_new' (Kd.R_new' (Kd.R_new' ho0 (Kd.R_lt (by (with_reducible repeat (first | apply Kd.R_alloc | apply Kd.R_drewN | apply Kd.R_drew)); exact HO_5.out))) (Kd.R_lt (by (with_reducible repeat (first | apply Kd.R_alloc | apply Kd.R_drewN | apply Kd.R_drew)); exact HO_9.out))) (Kd.R_lt (by (with_reducible repeat (first | apply Kd.R_alloc | apply Kd.R_drewN | apply Kd.R_drew)); exact HO_13.out))) (Kd.R_lt (by (with_reducible repeat (first | apply Kd.R_alloc | apply Kd.R_drewN | apply Kd.R_drew)); exact HO_68.out))) (below_size (by repeat (first | (with_reducible first | exact HB.out | apply below_alloc | apply pw_below_drewN | apply below_drew1) | exact HB.out)))); have n5_ := Aside0.mk (below_step (by repeat (first | (with_reducible first | exact HB.out | apply below_alloc | apply pw_below_drewN | apply below_drew1) | exact HB.out)) hb); clear HO_5; clear HO_9; clear HO_13; clear HO_68; clear HB; have HO_5 := n0_; have HO_9 := n1_; have HO_13 := n2_; have HO_68 := n3_; have HO785 := n4_; have HB := n5_; clear n0_ n1_ n2_ n3_ n4_ n5_; (try clear hb); (try clear hb2); (try clear hk); (try clear hi); (try clear ho0); obtain ⟨Ao46, co46, eo46⟩ := Kd.R_slice HO_9.out; subst eo46) | ((with_reducible refine gate_callee (f := 30) rfl ?_); refine goesL_ (some 97) rfl rfl Try.func30 (by kernel_rfl) rfl #[.slice Ao46 t768.length co46, .int .i64 t761, .int .i64 t762] rfl (by (try simp only [List.map_toArray, List.map_cons, List.map_nil]); first | done | rfl) ?_; (with_reducible refine (impl_FundamentalOf.calls k2 _ _ t768 t761 t762 t786 true _ ?side1 ?side2 A31.out).mono ?_); (case side1 => repeat (first | exact (Kd.R_reads' HO_9.out).2.2 | (with_reducible refine Kd.C_alloc ?_ _) | (with_reducible refine Kd.C_drewN ?_ _) | (with_reducible refine Kd.C_drew ?_))); (case side2 => exact (Kd.R_reads' HO_9.out).2.1); rintro e w47 ⟨v788, rfl, ho0, hb⟩; refine ⟨_, rfl, ?_⟩; have n0_ := Aside0.mk (Kd.R_elder' (by (with_reducible repeat (first | apply Kd.R_alloc | apply Kd.R_drewN | apply Kd.R_drew)); exact HO_5.out) (Kd.R_base ho0) hb); have n1_ := Aside0.mk (Kd.R_elder' (by (with_reducible repeat (first | apply Kd.R_alloc | apply Kd.R_drewN | apply Kd.R_drew)); exact HO_9.out) (Kd.R_base ho0) hb); have n2_ := Aside0.mk (Kd.R_elder' (by (with_reducible repeat (first | apply Kd.R_alloc | apply Kd.R_drewN | apply Kd.R_drew)); exact HO_13.out) (Kd.R_base ho0) hb); have n3_ := Aside0.mk (Kd.R_elder' (by (with_reducible repeat (first | apply Kd.R_alloc | apply Kd.R_drewN | apply Kd.R_drew)); exact HO_68.out) (Kd.R_base ho0) hb); have n4_ := Aside0.mk (Kd.R_elder' (by (with_reducible repeat (first | apply Kd.R_alloc | apply Kd.R_drewN | apply Kd.R_drew)); exact HO785.out) (Kd.R_base ho0) hb); have n5_ := Aside0.mk (Kd.R_lower (Kd.R_new' (Kd.R_new' (Kd.R_new' (Kd.R_new' (Kd.R_new' ho0 (Kd.R_lt (by (with_reducible repeat (first | apply Kd.R_alloc | apply Kd.R_drewN | apply Kd.R_drew)); exact HO_5.out))) (Kd.R_lt (by (with_reducible repeat (first | apply Kd.R_alloc | apply Kd.R_drewN | apply Kd.R_drew)); exact HO_9.out))) (Kd.R_lt (by (with_reducible repeat (first | apply Kd.R_alloc | apply Kd.R_drewN | apply Kd.R_drew)); exact HO_13.out))) (Kd.R_lt (by (with_reducible repeat (first | apply Kd.R_alloc | apply Kd.R_drewN | apply Kd.R_drew)); exact HO_68.out))) (Kd.R_lt (by (with_reducible repeat (first | apply Kd.R_alloc | apply Kd.R_drewN | apply Kd.R_drew)); exact HO785.out))) (below_size (by repeat (first | (with_reducible first | exact HB.out | apply below_alloc | apply pw_below_drewN | apply below_drew1) | exact HB.out)))); have n6_ := Aside0.mk (below_step (by repeat (first | (with_reducible first | exact HB.out | apply below_alloc | apply pw_below_drewN | apply below_drew1) | exact HB.out)) hb); clear HO_5; clear HO_9; clear HO_13; clear HO_68; clear HO785; clear HB; have HO_5 := n0_; have HO_9 := n1_; have HO_13 := n2_; have HO_68 := n3_; have HO785 := n4_; have HO789 := n5_; have HB := n6_; clear n0_ n1_ n2_ n3_ n4_ n5_ n6_; (try clear hb); (try clear hb2); (try clear hk); (try clear hi); (try clear ho0); obtain ⟨Ao48, co48, eo48⟩ := Kd.R_slice HO_13.out; subst eo48) | ((with_reducible refine gate_callee (f := 29) rfl ?_); refine goesL_ (some 102) rfl rfl Try.func29 (by kernel_rfl) rfl #[.slice Ao48 x13_2.length co48, .slice Ao46 t768.length co46] rfl (by (try simp only [List.map_toArray, List.map_cons, List.map_nil]); first | done | rfl) ?_; (with_reducible refine (laws_vSame.calls k2 _ _ x13_2 _ _ t768 true _ ?side1 ?side2 ?side3 ?side4 A32.out).mono ?_); (case side1 => repeat (first | exact (Kd.R_reads' HO_13.out).2.2 | (with_reducible refine Kd.C_alloc ?_ _) | (with_reducible refine Kd.C_drewN ?_ _) | (with_reducible refine Kd.C_drew ?_))); (case side2 => exact (Kd.R_reads' HO_13.out).2.1); (case side3 => repeat (first | exact (Kd.R_reads' HO_9.out).2.2 | (with_reducible refine Kd.C_alloc ?_ _) | (with_reducible refine Kd.C_drewN ?_ _) | (with_reducible refine Kd.C_drew ?_))); (case side4 => exact (Kd.R_reads' HO_9.out).2.1); rintro e w' ⟨rfl, ⟨nd, rfl⟩⟩; refine ⟨_, rfl, ?_⟩; obtain ⟨Ao49, co49, eo49⟩ := Kd.R_slice HO785.out; subst eo49; obtain ⟨Ao50, co50, eo50⟩ := Kd.R_slice HO789.out; subst eo50) | (go_at_call 29; (with_reducible refine (laws_vSame.calls k2 _ _ t782 _ _ t786 false _ ?side1 ?side2 ?side3 ?side4 A37.out).mono ?_); (case side1 => repeat (first | exact (Kd.R_reads' HO785.out).2.2 | (with_reducible refine Kd.C_alloc ?_ _) | (with_reducible refine Kd.C_drewN ?_ _) | (with_reducible refine Kd.C_drew ?_))); (case side2 => exact (Kd.R_reads' HO785.out).2.1); (case side3 => repeat (first | exact (Kd.R_reads' HO789.out).2.2 | (with_reducible refine Kd.C_alloc ?_ _) | (with_reducible refine Kd.C_drewN ?_ _) | (with_reducible refine Kd.C_drew ?_))); (case side4 => exact (Kd.R_reads' HO789.out).2.1); rintro e w' ⟨rfl, ⟨nd, rfl⟩⟩))
               go_ret
               exact ⟨by first | rfl | (simp [errW_none, errW_some] <;> rfl) | (simp [*, errW_none, errW_some] <;> rfl), by repeat (first | (with_reducible first | exact HB.out | apply below_alloc | apply pw_below_drewN | apply below_drew1) | exact HB.out)⟩
             ·rw [if_neg c36] at H
              have c36b0 : (t762 == 0) = false := beq_eq_false_iff_ne.mpr c36
              have c36b1 : (t762 != 0) = true := bne_iff_ne.mpr c36
              have H' := Aside0.mk H
              clear H
              go_wp2_with (first | ((with_reducible refine gate_callee (f := 30) rfl ?_); refine goesL_ (some 90) rfl rfl Try.func30 (by kernel_rfl) rfl #[.slice Ao10 t760.length co10, .int .i64 t761, .int .i64 t762] rfl (by (try simp only [List.map_toArray, List.map_cons, List.map_nil]); first | done | rfl) ?_; (with_reducible refine (impl_FundamentalOf.calls k2 _ _ t760 t761 t762 t782 true _ ?side1 ?side2 A30.out).mono ?_); (case side1 => repeat (first | exact (Kd.R_reads' HO_5.out).2.2 | (with_reducible refine Kd.C_alloc ?_ _) | (with_reducible refine Kd.C_drewN ?_ _) | (with_reducible refine Kd.C_drew ?_))); (case side2 => exact (Kd.R_reads' HO_5.out).2.1); rintro e w51 ⟨v784, rfl, ho0, hb⟩; refine ⟨_, rfl, ?_⟩; have n0_ := Aside0.mk (Kd.R_elder' (by (with_reducible repeat (first | apply Kd.R_alloc | apply Kd.R_drewN | apply Kd.R_drew)); exact HO_5.out) (Kd.R_base ho0) hb); have n1_ := Aside0.mk (Kd.R_elder' (by (with_reducible repeat (first | apply Kd.R_alloc | apply Kd.R_drewN | apply Kd.R_drew)); exact HO_9.out) (Kd.R_base ho0) hb); have n2_ := Aside0.mk (Kd.R_elder' (by (with_reducible repeat (first | apply Kd.R_alloc | apply Kd.R_drewN | apply Kd.R_drew)); exact HO_13.out) (Kd.R_base ho0) hb); have n3_ := Aside0.mk (Kd.R_elder' (by (with_reducible repeat (first | apply Kd.R_alloc | apply Kd.R_drewN | apply Kd.R_drew)); exact HO_68.out) (Kd.R_base ho0) hb); have n4_ := Aside0.mk (Kd.R_lower (Kd.R_new' (Kd.R_new' (Kd.R_new' (Kd.R_new' ho0 (Kd.R_lt (by (with_reducible repeat (first | apply Kd.R_alloc | apply Kd.R_drewN | apply Kd.R_drew)); exact HO_5.out))) (Kd.R_lt (by (with_reducible repeat (first | apply Kd.R_alloc | apply Kd.R_drewN | apply Kd.R_drew)); exact HO_9.out))) (Kd.R_lt (by (with_reducible repeat (first | apply Kd.R_alloc | apply Kd.R_drewN | apply Kd.R_drew)); exact HO_13.out))) (Kd.R_lt (by (with_reducible repeat (first | apply Kd.R_alloc | apply Kd.R_drewN | apply Kd.R_drew)); exact HO_68.out))) (below_size (by repeat (first | (with_reducible first | exact HB.out | apply below_alloc | apply pw_below_drewN | apply below_drew1) | exact HB.out)))); have n5_ := Aside0.mk (below_step (by repeat (first | (with_reducible first | exact HB.out | apply below_alloc | apply pw_below_drewN | apply below_drew1) | exact HB.out)) hb); clear HO_5; clear HO_9; clear HO_13; clear HO_68; clear HB; have HO_5 := n0_; have HO_9 := n1_; have HO_13 := n2_; have HO_68 := n3_; have HO785 := n4_; have HB := n5_; clear n0_ n1_ n2_ n3_ n4_ n5_; (try clear hb); (try clear hb2); (try clear hk); (try clear hi); (try clear ho0); obtain ⟨Ao52, co52, eo52⟩ := Kd.R_slice HO_9.out; subst eo52) | ((with_reducible refine gate_callee (f := 30) rfl ?_); refine goesL_ (some 97) rfl rfl Try.func30 (by kernel_rfl) rfl #[.slice Ao52 t768.length co52, .int .i64 t761, .int .i64 t762] rfl (by (try simp only [List.map_toArray, List.map_cons, List.map_nil]); first | done | rfl) ?_; (with_reducible refine (impl_FundamentalOf.calls k2 _ _ t768 t761 t762 t786 true _ ?side1 ?side2 A31.out).mono ?_); (case side1 => repeat (first | exact (Kd.R_reads' HO_9.out).2.2 | (with_reducible refine Kd.C_alloc ?_ _) | (with_reducible refine Kd.C_drewN ?_ _) | (with_reducible refine Kd.C_drew ?_))); (case side2 => exact (Kd.R_reads' HO_9.out).2.1); rintro e w53 ⟨v788, rfl, ho0, hb⟩; refine ⟨_, rfl, ?_⟩; have n0_ := Aside0.mk (Kd.R_elder' (by (with_reducible repeat (first | apply Kd.R_alloc | apply Kd.R_drewN | apply Kd.R_drew)); exact HO_5.out) (Kd.R_base ho0) hb); have n1_ := Aside0.mk (Kd.R_elder' (by (with_reducible repeat (first | apply Kd.R_alloc | apply Kd.R_drewN | apply Kd.R_drew)); exact HO_9.out) (Kd.R_base ho0) hb); have n2_ := Aside0.mk (Kd.R_elder' (by (with_reducible repeat (first | apply Kd.R_alloc | apply Kd.R_drewN | apply Kd.R_drew)); exact HO_13.out) (Kd.R_base ho0) hb); have n3_ := Aside0.mk (Kd.R_elder' (by (with_reducible repeat (first | apply Kd.R_alloc | apply Kd.R_drewN | apply Kd.R_drew)); exact HO_68.out) (Kd.R_base ho0) hb); have n4_ := Aside0.mk (Kd.R_elder' (by (with_reducible repeat (first | apply Kd.R_alloc | apply Kd.R_drewN | apply Kd.R_drew)); exact HO785.out) (Kd.R_base ho0) hb); have n5_ := Aside0.mk (Kd.R_lower (Kd.R_new' (Kd.R_new' (Kd.R_new' (Kd.R_new' (Kd.R_new' ho0 (Kd.R_lt (by (with_reducible repeat (first | apply Kd.R_alloc | apply Kd.R_drewN | apply Kd.R_drew)); exact HO_5.out))) (Kd.R_lt (by (with_reducible repeat (first | apply Kd.R_alloc | apply Kd.R_drewN | apply Kd.R_drew)); exact HO_9.out))) (Kd.R_lt (by (with_reducible repeat (first | apply Kd.R_alloc | apply Kd.R_drewN | apply Kd.R_drew)); exact HO_13.out))) (Kd.R_lt (by (with_reducible repeat (first | apply Kd.R_alloc | apply Kd.R_drewN | apply Kd.R_drew)); exact HO_68.out))) (Kd.R_lt (by (with_reducible repeat (first | apply Kd.R_alloc | apply Kd.R_drewN | apply Kd.R_drew)); exact HO785.out))) (below_size (by repeat (first | (with_reducible first | exact HB.out | apply below_alloc | apply pw_below_drewN | apply below_drew1) | exact HB.out)))); have n6_ := Aside0.mk (below_step (by repeat (first | (with_reducible first | exact HB.out | apply below_alloc | apply pw_below_drewN | apply below_drew1) | exact HB.out)) hb); clear HO_5; clear HO_9; clear HO_13; clear HO_68; clear HO785; clear HB; have HO_5 := n0_; have HO_9 := n1_; have HO_13 := n2_; have HO_68 := n3_; have HO785 := n4_; have HO789 := n5_; have HB := n6_; clear n0_ n1_ n2_ n3_ n4_ n5_ n6_; (try clear hb); (try clear hb2); (try clear hk); (try clear hi); (try clear ho0); obtain ⟨Ao54, co54, eo54⟩ := Kd.R_slice HO_13.out; subst eo54) | ((with_reducible refine gate_callee (f := 29) rfl ?_); refine goesL_ (some 102) rfl rfl Try.func29 (by kernel_rfl) rfl #[.slice Ao54 x13_2.length co54, .slice Ao52 t768.length co52] rfl (by (try simp only [List.map_toArray, List.map_cons, List.map_nil]); first | done | rfl) ?_; (with_reducible refine (laws_vSame.calls k2 _ _ x13_2 _ _ t768 true _ ?side1 ?side2 ?side3 ?side4 A32.out).mono ?_); (case side1 => repeat (first | exact (Kd.R_reads' HO_13.out).2.2 | (with_reducible refine Kd.C_alloc ?_ _) | (with_reducible refine Kd.C_drewN ?_ _) | (with_reducible refine Kd.C_drew ?_))); (case side2 => exact (Kd.R_reads' HO_13.out).2.1); (case side3 => repeat (first | exact (Kd.R_reads' HO_9.out).2.2 | (with_reducible refine Kd.C_alloc ?_ _) | (with_reducible refine Kd.C_drewN ?_ _) | (with_reducible refine Kd.C_drew ?_))); (case side4 => exact (Kd.R_reads' HO_9.out).2.1); rintro e w' ⟨rfl, ⟨nd, rfl⟩⟩; refine ⟨_, rfl, ?_⟩))
              go_meet
              case rel => exact ⟨_, H', ⟨by have := HJ7.out; have := HK2.out; first | omega | exact Nat.le_refl _⟩, ⟨by repeat (first | (with_reducible first | exact HB.out | apply below_alloc | apply pw_below_drewN | apply below_drew1) | exact HB.out)⟩⟩
            ·replace c35 := Bool.eq_false_iff.mpr c35
             subst c35
             have H1 : (some false) = some r := by rw [if_neg (show ¬ (false = true) by decide)] at H; exact H
             clear H; have H := H1; clear H1
             obtain rfl := Option.some.inj H
             go_wp2_with (first | ((with_reducible refine gate_callee (f := 30) rfl ?_); refine goesL_ (some 90) rfl rfl Try.func30 (by kernel_rfl) rfl #[.slice Ao10 t760.length co10, .int .i64 t761, .int .i64 t762] rfl (by (try simp only [List.map_toArray, List.map_cons, List.map_nil]); first | done | rfl) ?_; (with_reducible refine (impl_FundamentalOf.calls k2 _ _ t760 t761 t762 t782 true _ ?side1 ?side2 A30.out).mono ?_); (case side1 => repeat (first | exact (Kd.R_reads' HO_5.out).2.2 | (with_reducible refine Kd.C_alloc ?_ _) | (with_reducible refine Kd.C_drewN ?_ _) | (with_reducible refine Kd.C_drew ?_))); (case side2 => exact (Kd.R_reads' HO_5.out).2.1); rintro e w55 ⟨v784, rfl, ho0, hb⟩; refine ⟨_, rfl, ?_⟩; have n0_ := Aside0.mk (Kd.R_elder' (by (with_reducible repeat (first | apply Kd.R_alloc | apply Kd.R_drewN | apply Kd.R_drew)); exact HO_5.out) (Kd.R_base ho0) hb); have n1_ := Aside0.mk (Kd.R_elder' (by (with_reducible repeat (first | apply Kd.R_alloc | apply Kd.R_drewN | apply Kd.R_drew)); exact HO_9.out) (Kd.R_base ho0) hb); have n2_ := Aside0.mk (Kd.R_elder' (by (with_reducible repeat (first | apply Kd.R_alloc | apply Kd.R_drewN | apply Kd.R_drew)); exact HO_13.out) (Kd.R_base ho0) hb); have n3_ := Aside0.mk (Kd.R_elder' (by (with_reducible repeat (first | apply Kd.R_alloc | apply Kd.R_drewN | apply Kd.R_drew)); exact HO_68.out) (Kd.R_base ho0) hb); have n4_ := Aside0.mk (Kd.R_lower (Kd.R_new' (Kd.R_new' (Kd.R_new' (Kd.R_new' ho0 (Kd.R_lt (by (with_reducible repeat (first | apply Kd.R_alloc | apply Kd.R_drewN | apply Kd.R_drew)); exact HO_5.out))) (Kd.R_lt (by (with_reducible repeat (first | apply Kd.R_alloc | apply Kd.R_drewN | apply Kd.R_drew)); exact HO_9.out))) (Kd.R_lt (by (with_reducible repeat (first | apply Kd.R_alloc | apply Kd.R_drewN | apply Kd.R_drew)); exact HO_13.out))) (Kd.R_lt (by (with_reducible repeat (first | apply Kd.R_alloc | apply Kd.R_drewN | apply Kd.R_drew)); exact HO_68.out))) (below_size (by repeat (first | (with_reducible first | exact HB.out | apply below_alloc | apply pw_below_drewN | apply below_drew1) | exact HB.out)))); have n5_ := Aside0.mk (below_step (by repeat (first | (with_reducible first | exact HB.out | apply below_alloc | apply pw_below_drewN | apply below_drew1) | exact HB.out)) hb); clear HO_5; clear HO_9; clear HO_13; clear HO_68; clear HB; have HO_5 := n0_; have HO_9 := n1_; have HO_13 := n2_; have HO_68 := n3_; have HO785 := n4_; have HB := n5_; clear n0_ n1_ n2_ n3_ n4_ n5_; (try clear hb); (try clear hb2); (try clear hk); (try clear hi); (try clear ho0); obtain ⟨Ao56, co56, eo56⟩ := Kd.R_slice HO_9.out; subst eo56) | ((with_reducible refine gate_callee (f := 30) rfl ?_); refine goesL_ (some 97) rfl rfl Try.func30 (by kernel_rfl) rfl #[.slice Ao56 t768.length co56, .int .i64 t761, .int .i64 t762] rfl (by (try simp only [List.map_toArray, List.map_cons, List.map_nil]); first | done | rfl) ?_; (with_reducible refine (impl_FundamentalOf.calls k2 _ _ t768 t761 t762 t786 false _ ?side1 ?side2 A31.out).mono ?_); (case side1 => repeat (first | exact (Kd.R_reads' HO_9.out).2.2 | (with_reducible refine Kd.C_alloc ?_ _) | (with_reducible refine Kd.C_drewN ?_ _) | (with_reducible refine Kd.C_drew ?_))); (case side2 => exact (Kd.R_reads' HO_9.out).2.1); rintro e w57 ⟨v788, rfl, ho0, hb⟩; refine ⟨_, rfl, ?_⟩; have n0_ := Aside0.mk (Kd.R_elder' (by (with_reducible repeat (first | apply Kd.R_alloc | apply Kd.R_drewN | apply Kd.R_drew)); exact HO_5.out) (Kd.R_base ho0) hb); have n1_ := Aside0.mk (Kd.R_elder' (by (with_reducible repeat (first | apply Kd.R_alloc | apply Kd.R_drewN | apply Kd.R_drew)); exact HO_9.out) (Kd.R_base ho0) hb); have n2_ := Aside0.mk (Kd.R_elder' (by (with_reducible repeat (first | apply Kd.R_alloc | apply Kd.R_drewN | apply Kd.R_drew)); exact HO_13.out) (Kd.R_base ho0) hb); have n3_ := Aside0.mk (Kd.R_elder' (by (with_reducible repeat (first | apply Kd.R_alloc | apply Kd.R_drewN | apply Kd.R_drew)); exact HO_68.out) (Kd.R_base ho0) hb); have n4_ := Aside0.mk (Kd.R_elder' (by (with_reducible repeat (first | apply Kd.R_alloc | apply Kd.R_drewN | apply Kd.R_drew)); exact HO785.out) (Kd.R_base ho0) hb); have n5_ := Aside0.mk (Kd.R_lower (Kd.R_new' (Kd.R_new' (Kd.R_new' (Kd.R_new' (Kd.R_new' ho0 (Kd.R_lt (by (with_reducible repeat (first | apply Kd.R_alloc | apply Kd.R_drewN | apply Kd.R_drew)); exact HO_5.out))) (Kd.R_lt (by (with_reducible repeat (first | apply Kd.R_alloc | apply Kd.R_drewN | apply Kd.R_drew)); exact HO_9.out))) (Kd.R_lt (by (with_reducible repeat (first | apply Kd.R_alloc | apply Kd.R_drewN | apply Kd.R_drew)); exact HO_13.out))) (Kd.R_lt (by (with_reducible repeat (first | apply Kd.R_alloc | apply Kd.R_drewN | apply Kd.R_drew)); exact HO_68.out))) (Kd.R_lt (by (with_reducible repeat (first | apply Kd.R_alloc | apply Kd.R_drewN | apply Kd.R_drew)); exact HO785.out))) (below_size (by repeat (first | (with_reducible first | exact HB.out | apply below_alloc | apply pw_below_drewN | apply below_drew1) | exact HB.out)))); have n6_ := Aside0.mk (below_step (by repeat (first | (with_reducible first | exact HB.out | apply below_alloc | apply pw_below_drewN | apply below_drew1) | exact HB.out)) hb); clear HO_5; clear HO_9; clear HO_13; clear HO_68; clear HO785; clear HB; have HO_5 := n0_; have HO_9 := n1_; have HO_13 := n2_; have HO_68 := n3_; have HO785 := n4_; have HO789 := n5_; have HB := n6_; clear n0_ n1_ n2_ n3_ n4_ n5_ n6_; (try clear hb); (try clear hb2); (try clear hk); (try clear hi); (try clear ho0); obtain ⟨Ao58, co58, eo58⟩ := Kd.R_slice HO_13.out; subst eo58) | ((with_reducible refine gate_callee (f := 29) rfl ?_); refine goesL_ (some 102) rfl rfl Try.func29 (by kernel_rfl) rfl #[.slice Ao58 x13_2.length co58, .slice Ao56 t768.length co56] rfl (by (try simp only [List.map_toArray, List.map_cons, List.map_nil]); first | done | rfl) ?_; (with_reducible refine (laws_vSame.calls k2 _ _ x13_2 _ _ t768 true _ ?side1 ?side2 ?side3 ?side4 A32.out).mono ?_); (case side1 => repeat (first | exact (Kd.R_reads' HO_13.out).2.2 | (with_reducible refine Kd.C_alloc ?_ _) | (with_reducible refine Kd.C_drewN ?_ _) | (with_reducible refine Kd.C_drew ?_))); (case side2 => exact (Kd.R_reads' HO_13.out).2.1); (case side3 => repeat (first | exact (Kd.R_reads' HO_9.out).2.2 | (with_reducible refine Kd.C_alloc ?_ _) | (with_reducible refine Kd.C_drewN ?_ _) | (with_reducible refine Kd.C_drew ?_))); (case side4 => exact (Kd.R_reads' HO_9.out).2.1); rintro e w' ⟨rfl, ⟨nd, rfl⟩⟩; refine ⟨_, rfl, ?_⟩))
             go_ret
             exact ⟨by first | rfl | (simp [errW_none, errW_some] <;> rfl) | (simp [*, errW_none, errW_some] <;> rfl), by repeat (first | (with_reducible first | exact HB.out | apply below_alloc | apply pw_below_drewN | apply below_drew1) | exact HB.out)⟩
           ·replace c34 := Bool.eq_false_iff.mpr c34
            subst c34
            have H1 : (some false) = some r := by rw [if_neg (show ¬ (false = true) by decide)] at H; exact H
            clear H; have H := H1; clear H1
            obtain rfl := Option.some.inj H
            go_wp2_with (first | ((with_reducible refine gate_callee (f := 30) rfl ?_); refine goesL_ (some 90) rfl rfl Try.func30 (by kernel_rfl) rfl #[.slice Ao10 t760.length co10, .int .i64 t761, .int .i64 t762] rfl (by (try simp only [List.map_toArray, List.map_cons, List.map_nil]); first | done | rfl) ?_; (with_reducible refine (impl_FundamentalOf.calls k2 _ _ t760 t761 t762 t782 false _ ?side1 ?side2 A30.out).mono ?_); (case side1 => repeat (first | exact (Kd.R_reads' HO_5.out).2.2 | (with_reducible refine Kd.C_alloc ?_ _) | (with_reducible refine Kd.C_drewN ?_ _) | (with_reducible refine Kd.C_drew ?_))); (case side2 => exact (Kd.R_reads' HO_5.out).2.1); rintro e w59 ⟨v784, rfl, ho0, hb⟩; refine ⟨_, rfl, ?_⟩; have n0_ := Aside0.mk (Kd.R_elder' (by (with_reducible repeat (first | apply Kd.R_alloc | apply Kd.R_drewN | apply Kd.R_drew)); exact HO_5.out) (Kd.R_base ho0) hb); have n1_ := Aside0.mk (Kd.R_elder' (by (with_reducible repeat (first | apply Kd.R_alloc | apply Kd.R_drewN | apply Kd.R_drew)); exact HO_9.out) (Kd.R_base ho0) hb); have n2_ := Aside0.mk (Kd.R_elder' (by (with_reducible repeat (first | apply Kd.R_alloc | apply Kd.R_drewN | apply Kd.R_drew)); exact HO_13.out) (Kd.R_base ho0) hb); have n3_ := Aside0.mk (Kd.R_elder' (by (with_reducible repeat (first | apply Kd.R_alloc | apply Kd.R_drewN | apply Kd.R_drew)); exact HO_68.out) (Kd.R_base ho0) hb); have n4_ := Aside0.mk (Kd.R_lower (Kd.R_new' (Kd.R_new' (Kd.R_new' (Kd.R_new' ho0 (Kd.R_lt (by (with_reducible repeat (first | apply Kd.R_alloc | apply Kd.R_drewN | apply Kd.R_drew)); exact HO_5.out))) (Kd.R_lt (by (with_reducible repeat (first | apply Kd.R_alloc | apply Kd.R_drewN | apply Kd.R_drew)); exact HO_9.out))) (Kd.R_lt (by (with_reducible repeat (first | apply Kd.R_alloc | apply Kd.R_drewN | apply Kd.R_drew)); exact HO_13.out))) (Kd.R_lt (by (with_reducible repeat (first | apply Kd.R_alloc | apply Kd.R_drewN | apply Kd.R_drew)); exact HO_68.out))) (below_size (by repeat (first | (with_reducible first | exact HB.out | apply below_alloc | apply pw_below_drewN | apply below_drew1) | exact HB.out)))); have n5_ := Aside0.mk (below_step (by repeat (first | (with_reducible first | exact HB.out | apply below_alloc | apply pw_below_drewN | apply below_drew1) | exact HB.out)) hb); clear HO_5; clear HO_9; clear HO_13; clear HO_68; clear HB; have HO_5 := n0_; have HO_9 := n1_; have HO_13 := n2_; have HO_68 := n3_; have HO785 := n4_; have HB := n5_; clear n0_ n1_ n2_ n3_ n4_ n5_; (try clear hb); (try clear hb2); (try clear hk); (try clear hi); (try clear ho0); obtain ⟨Ao60, co60, eo60⟩ := Kd.R_slice HO_9.out; subst eo60) | ((with_reducible refine gate_callee (f := 30) rfl ?_); refine goesL_ (some 97) rfl rfl Try.func30 (by kernel_rfl) rfl #[.slice Ao60 t768.length co60, .int .i64 t761, .int .i64 t762] rfl (by (try simp only [List.map_toArray, List.map_cons, List.map_nil]); first | done | rfl) ?_; (with_reducible refine (impl_FundamentalOf.calls k2 _ _ t768 t761 t762 t786 t787 _ ?side1 ?side2 A31.out).mono ?_); (case side1 => repeat (first | exact (Kd.R_reads' HO_9.out).2.2 | (with_reducible refine Kd.C_alloc ?_ _) | (with_reducible refine Kd.C_drewN ?_ _) | (with_reducible refine Kd.C_drew ?_))); (case side2 => exact (Kd.R_reads' HO_9.out).2.1); rintro e w61 ⟨v788, rfl, ho0, hb⟩; refine ⟨_, rfl, ?_⟩; have n0_ := Aside0.mk (Kd.R_elder' (by (with_reducible repeat (first | apply Kd.R_alloc | apply Kd.R_drewN | apply Kd.R_drew)); exact HO_5.out) (Kd.R_base ho0) hb); have n1_ := Aside0.mk (Kd.R_elder' (by (with_reducible repeat (first | apply Kd.R_alloc | apply Kd.R_drewN | apply Kd.R_drew)); exact HO_9.out) (Kd.R_base ho0) hb); have n2_ := Aside0.mk (Kd.R_elder' (by (with_reducible repeat (first | apply Kd.R_alloc | apply Kd.R_drewN | apply Kd.R_drew)); exact HO_13.out) (Kd.R_base ho0) hb); have n3_ := Aside0.mk (Kd.R_elder' (by (with_reducible repeat (first | apply Kd.R_alloc | apply Kd.R_drewN | apply Kd.R_drew)); exact HO_68.out) (Kd.R_base ho0) hb); have n4_ := Aside0.mk (Kd.R_elder' (by (with_reducible repeat (first | apply Kd.R_alloc | apply Kd.R_drewN | apply Kd.R_drew)); exact HO785.out) (Kd.R_base ho0) hb); have n5_ := Aside0.mk (Kd.R_lower (Kd.R_new' (Kd.R_new' (Kd.R_new' (Kd.R_new' (Kd.R_new' ho0 (Kd.R_lt (by (with_reducible repeat (first | apply Kd.R_alloc | apply Kd.R_drewN | apply Kd.R_drew)); exact HO_5.out))) (Kd.R_lt (by (with_reducible repeat (first | apply Kd.R_alloc | apply Kd.R_drewN | apply Kd.R_drew)); exact HO_9.out))) (Kd.R_lt (by (with_reducible repeat (first | apply Kd.R_alloc | apply Kd.R_drewN | apply Kd.R_drew)); exact HO_13.out))) (Kd.R_lt (by (with_reducible repeat (first | apply Kd.R_alloc | apply Kd.R_drewN | apply Kd.R_drew)); exact HO_68.out))) (Kd.R_lt (by (with_reducible repeat (first | apply Kd.R_alloc | apply Kd.R_drewN | apply Kd.R_drew)); exact HO785.out))) (below_size (by repeat (first | (with_reducible first | exact HB.out | apply below_alloc | apply pw_below_drewN | apply below_drew1) | exact HB.out)))); have n6_ := Aside0.mk (below_step (by repeat (first | (with_reducible first | exact HB.out | apply below_alloc | apply pw_below_drewN | apply below_drew1) | exact HB.out)) hb); clear HO_5; clear HO_9; clear HO_13; clear HO_68; clear HO785; clear HB; have HO_5 := n0_; have HO_9 := n1_; have HO_13 := n2_; have HO_68 := n3_; have HO785 := n4_; have HO789 := n5_; have HB := n6_; clear n0_ n1_ n2_ n3_ n4_ n5_ n6_; (try clear hb); (try clear hb2); (try clear hk); (try clear hi); (try clear ho0); obtain ⟨Ao62, co62, eo62⟩ := Kd.R_slice HO_13.out; subst eo62) | ((with_reducible refine gate_callee (f := 29) rfl ?_); refine goesL_ (some 102) rfl rfl Try.func29 (by kernel_rfl) rfl #[.slice Ao62 x13_2.length co62, .slice Ao60 t768.length co60] rfl (by (try simp only [List.map_toArray, List.map_cons, List.map_nil]); first | done | rfl) ?_; (with_reducible refine (laws_vSame.calls k2 _ _ x13_2 _ _ t768 true _ ?side1 ?side2 ?side3 ?side4 A32.out).mono ?_); (case side1 => repeat (first | exact (Kd.R_reads' HO_13.out).2.2 | (with_reducible refine Kd.C_alloc ?_ _) | (with_reducible refine Kd.C_drewN ?_ _) | (with_reducible refine Kd.C_drew ?_))); (case side2 => exact (Kd.R_reads' HO_13.out).2.1); (case side3 => repeat (first | exact (Kd.R_reads' HO_9.out).2.2 | (with_reducible refine Kd.C_alloc ?_ _) | (with_reducible refine Kd.C_drewN ?_ _) | (with_reducible refine Kd.C_drew ?_))); (case side4 => exact (Kd.R_reads' HO_9.out).2.1); rintro e w' ⟨rfl, ⟨nd, rfl⟩⟩; refine ⟨_, rfl, ?_⟩))
            go_ret
            exact ⟨by first | rfl | (simp [errW_none, errW_some] <;> rfl) | (simp [*, errW_none, errW_some] <;> rfl), by repeat (first | (with_reducible first | exact HB.out | apply below_alloc | apply pw_below_drewN | apply below_drew1) | exact HB.out)⟩
          ·replace c33 := Bool.eq_false_iff.mpr c33
           subst c33
           have H1 : (some false) = some r := by rw [if_neg (show ¬ (false = true) by decide)] at H; exact H
           clear H; have H := H1; clear H1
           obtain rfl := Option.some.inj H
           go_wp2_with (first | ((with_reducible refine gate_callee (f := 30) rfl ?_); refine goesL_ (some 90) rfl rfl Try.func30 (by kernel_rfl) rfl #[.slice Ao10 t760.length co10, .int .i64 t761, .int .i64 t762] rfl (by (try simp only [List.map_toArray, List.map_cons, List.map_nil]); first | done | rfl) ?_; (with_reducible refine (impl_FundamentalOf.calls k2 _ _ t760 t761 t762 t782 t783 _ ?side1 ?side2 A30.out).mono ?_); (case side1 => repeat (first | exact (Kd.R_reads' HO_5.out).2.2 | (with_reducible refine Kd.C_alloc ?_ _) | (with_reducible refine Kd.C_drewN ?_ _) | (with_reducible refine Kd.C_drew ?_))); (case side2 => exact (Kd.R_reads' HO_5.out).2.1); rintro e w63 ⟨v784, rfl, ho0, hb⟩; refine ⟨_, rfl, ?_⟩; have n0_ := Aside0.mk (Kd.R_elder' (by (with_reducible repeat (first | apply Kd.R_alloc | apply Kd.R_drewN | apply Kd.R_drew)); exact HO_5.out) (Kd.R_base ho0) hb); have n1_ := Aside0.mk (Kd.R_elder' (by (with_reducible repeat (first | apply Kd.R_alloc | apply Kd.R_drewN | apply Kd.R_drew)); exact HO_9.out) (Kd.R_base ho0) hb); have n2_ := Aside0.mk (Kd.R_elder' (by (with_reducible repeat (first | apply Kd.R_alloc | apply Kd.R_drewN | apply Kd.R_drew)); exact HO_13.out) (Kd.R_base ho0) hb); have n3_ := Aside0.mk (Kd.R_elder' (by (with_reducible repeat (first | apply Kd.R_alloc | apply Kd.R_drewN | apply Kd.R_drew)); exact HO_68.out) (Kd.R_base ho0) hb); have n4_ := Aside0.mk (Kd.R_lower (Kd.R_new' (Kd.R_new' (Kd.R_new' (Kd.R_new' ho0 (Kd.R_lt (by (with_reducible repeat (first | apply Kd.R_alloc | apply Kd.R_drewN | apply Kd.R_drew)); exact HO_5.out))) (Kd.R_lt (by (with_reducible repeat (first | apply Kd.R_alloc | apply Kd.R_drewN | apply Kd.R_drew)); exact HO_9.out))) (Kd.R_lt (by (with_reducible repeat (first | apply Kd.R_alloc | apply Kd.R_drewN | apply Kd.R_drew)); exact HO_13.out))) (Kd.R_lt (by (with_reducible repeat (first | apply Kd.R_alloc | apply Kd.R_drewN | apply Kd.R_drew)); exact HO_68.out))) (below_size (by repeat (first | (with_reducible first | exact HB.out | apply below_alloc | apply pw_below_drewN | apply below_drew1) | exact HB.out)))); have n5_ := Aside0.mk (below_step (by repeat (first | (with_reducible first | exact HB.out | apply below_alloc | apply pw_below_drewN | apply below_drew1) | exact HB.out)) hb); clear HO_5; clear HO_9; clear HO_13; clear HO_68; clear HB; have HO_5 := n0_; have HO_9 := n1_; have HO_13 := n2_; have HO_68 := n3_; have HO785 := n4_; have HB := n5_; clear n0_ n1_ n2_ n3_ n4_ n5_; (try clear hb); (try clear hb2); (try clear hk); (try clear hi); (try clear ho0); obtain ⟨Ao64, co64, eo64⟩ := Kd.R_slice HO_9.out; subst eo64) | ((with_reducible refine gate_callee (f := 30) rfl ?_); refine goesL_ (some 97) rfl rfl Try.func30 (by kernel_rfl) rfl #[.slice Ao64 t768.length co64, .int .i64 t761, .int .i64 t762] rfl (by (try simp only [List.map_toArray, List.map_cons, List.map_nil]); first | done | rfl) ?_; (with_reducible refine (impl_FundamentalOf.calls k2 _ _ t768 t761 t762 t786 t787 _ ?side1 ?side2 A31.out).mono ?_); (case side1 => repeat (first | exact (Kd.R_reads' HO_9.out).2.2 | (with_reducible refine Kd.C_alloc ?_ _) | (with_reducible refine Kd.C_drewN ?_ _) | (with_reducible refine Kd.C_drew ?_))); (case side2 => exact (Kd.R_reads' HO_9.out).2.1); rintro e w65 ⟨v788, rfl, ho0, hb⟩; refine ⟨_, rfl, ?_⟩; have n0_ := Aside0.mk (Kd.R_elder' (by (with_reducible repeat (first | apply Kd.R_alloc | apply Kd.R_drewN | apply Kd.R_drew)); exact HO_5.out) (Kd.R_base ho0) hb); have n1_ := Aside0.mk (Kd.R_elder' (by (with_reducible repeat (first | apply Kd.R_alloc | apply Kd.R_drewN | apply Kd.R_drew)); exact HO_9.out) (Kd.R_base ho0) hb); have n2_ := Aside0.mk (Kd.R_elder' (by (with_reducible repeat (first | apply Kd.R_alloc | apply Kd.R_drewN | apply Kd.R_drew)); exact HO_13.out) (Kd.R_base ho0) hb); have n3_ := Aside0.mk (Kd.R_elder' (by (with_reducible repeat (first | apply Kd.R_alloc | apply Kd.R_drewN | apply Kd.R_drew)); exact HO_68.out) (Kd.R_base ho0) hb); have n4_ := Aside0.mk (Kd.R_elder' (by (with_reducible repeat (first | apply Kd.R_alloc | apply Kd.R_drewN | apply Kd.R_drew)); exact HO785.out) (Kd.R_base ho0) hb); have n5_ := Aside0.mk (Kd.R_lower (Kd.R_new' (Kd.R_new' (Kd.R_new' (Kd.R_new' (Kd.R_new' ho0 (Kd.R_lt (by (with_reducible repeat (first | apply Kd.R_alloc | apply Kd.R_drewN | apply Kd.R_drew)); exact HO_5.out))) (Kd.R_lt (by (with_reducible repeat (first | apply Kd.R_alloc | apply Kd.R_drewN | apply Kd.R_drew)); exact HO_9.out))) (Kd.R_lt (by (with_reducible repeat (first | apply Kd.R_alloc | apply Kd.R_drewN | apply Kd.R_drew)); exact HO_13.out))) (Kd.R_lt (by (with_reducible repeat (first | apply Kd.R_alloc | apply Kd.R_drewN | apply Kd.R_drew)); exact HO_68.out))) (Kd.R_lt (by (with_reducible repeat (first | apply Kd.R_alloc | apply Kd.R_drewN | apply Kd.R_drew)); exact HO785.out))) (below_size (by repeat (first | (with_reducible first | exact HB.out | apply below_alloc | apply pw_below_drewN | apply below_drew1) | exact HB.out)))); have n6_ := Aside0.mk (below_step (by repeat (first | (with_reducible first | exact HB.out | apply below_alloc | apply pw_below_drewN | apply below_drew1) | exact HB.out)) hb); clear HO_5; clear HO_9; clear HO_13; clear HO_68; clear HO785; clear HB; have HO_5 := n0_; have HO_9 := n1_; have HO_13 := n2_; have HO_68 := n3_; have HO785 := n4_; have HO789 := n5_; have HB := n6_; clear n0_ n1_ n2_ n3_ n4_ n5_ n6_; (try clear hb); (try clear hb2); (try clear hk); (try clear hi); (try clear ho0); obtain ⟨Ao66, co66, eo66⟩ := Kd.R_slice HO_13.out; subst eo66) | ((with_reducible refine gate_callee (f := 29) rfl ?_); refine goesL_ (some 102) rfl rfl Try.func29 (by kernel_rfl) rfl #[.slice Ao66 x13_2.length co66, .slice Ao64 t768.length co64] rfl (by (try simp only [List.map_toArray, List.map_cons, List.map_nil]); first | done | rfl) ?_; (with_reducible refine (laws_vSame.calls k2 _ _ x13_2 _ _ t768 false _ ?side1 ?side2 ?side3 ?side4 A32.out).mono ?_); (case side1 => repeat (first | exact (Kd.R_reads' HO_13.out).2.2 | (with_reducible refine Kd.C_alloc ?_ _) | (with_reducible refine Kd.C_drewN ?_ _) | (with_reducible refine Kd.C_drew ?_))); (case side2 => exact (Kd.R_reads' HO_13.out).2.1); (case side3 => repeat (first | exact (Kd.R_reads' HO_9.out).2.2 | (with_reducible refine Kd.C_alloc ?_ _) | (with_reducible refine Kd.C_drewN ?_ _) | (with_reducible refine Kd.C_drew ?_))); (case side4 => exact (Kd.R_reads' HO_9.out).2.1); rintro e w' ⟨rfl, ⟨nd, rfl⟩⟩; refine ⟨_, rfl, ?_⟩))
           go_ret
           exact ⟨by first | rfl | (simp [errW_none, errW_some] <;> rfl) | (simp [*, errW_none, errW_some] <;> rfl), by repeat (first | (with_reducible first | exact HB.out | apply below_alloc | apply pw_below_drewN | apply below_drew1) | exact HB.out)⟩
      ·replace c20 := Bool.eq_false_iff.mpr c20
       subst c20
       have H1 : (laws_FnClimbsOfHurwitz.j2 kj7 l1) = some r := by rw [if_neg (show ¬ (false = true) by decide)] at H; exact H
       clear H; have H := H1; clear H1
       have H' := Aside0.mk H
       clear H
       go_wp2
       go_meet
       case rel => exact ⟨_, H', ⟨by have := HJ7.out; first | omega | exact Nat.le_refl _⟩, ⟨by repeat (first | (with_reducible first | exact HB.out | apply below_alloc | apply pw_below_drewN | apply below_drew1) | exact HB.out)⟩⟩
     case rest => as_aux_lemma =>
      clear HC19
      try clear c1
      try clear c2
      try clear p2
      try clear c3
      try clear c4
      try clear p6
      try clear p7
      try clear q7
      try clear hx7
      try clear c8
      try clear c14
      try clear c14b0
      try clear c14b1
      try clear c14b2
      try clear c18
      try clear c19
      try clear c20
      try clear c21
      try clear c21b0
      try clear c22
      try clear c22b0
      try clear c23
      try clear c23b0
      try clear c25
      try clear c29
      try clear c30
      try clear c33
      try clear c34
      try clear c35
      try clear c36
      try clear c36b0
      try clear c36b1
      try clear c38
      try clear c41
      try clear c43
      try clear c44
      try clear c45
      try clear p64
      try clear hx777_0
      try clear p2
      try clear p777
      try clear q777
      obtain ⟨kq, HA, HJ18, HB⟩ := hcut
      cases kq with
      | zero => exact absurd HA.out (by simp [laws_FnClimbsOfHurwitz.j2])
      | succ kj18 =>
       have H := HA.out; clear HA
       simp only [laws_FnClimbsOfHurwitz.j2] at H
       replace H := Option.bind_eq_some_iff.mp H
       obtain ⟨⟨t792, t793, t794⟩, A670, H⟩ := H
       replace H : ((impl_BranchesOf.f kj18 t792 t793 t794).bind fun bt797 => ((spec_BranchesOf.f kj18 t792 t793 t794).bind fun bt801 => (if (bt797.2 != bt801.2) = true then (laws_FnClimbsOfHurwitz.j3 kj18 t792 t793 t794 bt797.1 true) else ((laws_vSameLists.f kj18 bt797.1 bt801.1).bind fun t805 => (laws_FnClimbsOfHurwitz.j3 kj18 t792 t793 t794 bt797.1 (!t805)))))) = some r := H
       have A67 := Aside0.mk A670
       clear A670
       replace H := Option.bind_eq_some_iff.mp H
       obtain ⟨⟨t797, t798⟩, A680, H⟩ := H
       replace H : ((spec_BranchesOf.f kj18 t792 t793 t794).bind fun bt801 => (if (t798 != bt801.2) = true then (laws_FnClimbsOfHurwitz.j3 kj18 t792 t793 t794 t797 true) else ((laws_vSameLists.f kj18 t797 bt801.1).bind fun t805 => (laws_FnClimbsOfHurwitz.j3 kj18 t792 t793 t794 t797 (!t805))))) = some r := H
       have A68 := Aside0.mk A680
       clear A680
       replace H := Option.bind_eq_some_iff.mp H
       obtain ⟨⟨t801, t804⟩, A690, H⟩ := H
       replace H : (if (t798 != t804) = true then (laws_FnClimbsOfHurwitz.j3 kj18 t792 t793 t794 t797 true) else ((laws_vSameLists.f kj18 t797 t801).bind fun t805 => (laws_FnClimbsOfHurwitz.j3 kj18 t792 t793 t794 t797 (!t805)))) = some r := H
       have A69 := Aside0.mk A690
       clear A690
       have HC70 := Aside0.mk H
       clear H
       go_upto_region 25 with (first | ((with_reducible refine gate_callee (f := 46) rfl ?_); refine goesL_ (some 124) rfl rfl Try.func46 (by kernel_rfl) rfl #[.slice A1 l1.length c1] rfl (by (try simp only [List.map_toArray, List.map_cons, List.map_nil]); first | done | rfl) ?_; (with_reducible refine (spec_DrawBranchesOf.calls kj18 _ _ l1 t792 t793 t794 _ ?side1 ?side2 A67.out).mono ?_); (case side1 => repeat (first | exact (Kd.C_below HR1.out HB.out) | (with_reducible refine Kd.C_alloc ?_ _) | (with_reducible refine Kd.C_drewN ?_ _) | (with_reducible refine Kd.C_drew ?_))); (case side2 => exact HC1.out); rintro e w71 ⟨v795, rfl, ho0, hb⟩; refine ⟨_, rfl, ?_⟩; have n0_ := Aside0.mk (Kd.R_lower ho0 (below_size (by repeat (first | (with_reducible first | exact HB.out | apply below_alloc | apply pw_below_drewN | apply below_drew1) | exact HB.out)))); have n1_ := Aside0.mk (below_step (by repeat (first | (with_reducible first | exact HB.out | apply below_alloc | apply pw_below_drewN | apply below_drew1) | exact HB.out)) hb); clear HB; have HO796 := n0_; have HB := n1_; clear n0_ n1_; (try clear hb); (try clear hb2); (try clear hk); (try clear hi); (try clear ho0); obtain ⟨Ao72, co72, eo72⟩ := Kd.R_slice HO796.out; subst eo72) | ((with_reducible refine gate_callee (f := 11) rfl ?_); refine goesL_ (some 132) rfl rfl Try.func11 (by kernel_rfl) rfl #[.slice Ao72 t792.length co72, .int .i64 t793, .int .i64 t794] rfl (by (try simp only [List.map_toArray, List.map_cons, List.map_nil]); first | done | rfl) ?_; (with_reducible refine (impl_BranchesOf.calls kj18 _ _ t792 t793 t794 t797 t798 _ ?side1 ?side2 A68.out).mono ?_); (case side1 => repeat (first | exact (Kd.R_reads' HO796.out).2.2 | (with_reducible refine Kd.C_alloc ?_ _) | (with_reducible refine Kd.C_drewN ?_ _) | (with_reducible refine Kd.C_drew ?_))); (case side2 => exact (Kd.R_reads' HO796.out).2.1); rintro e w73 ⟨v799, rfl, ho0, hb⟩; refine ⟨_, rfl, ?_⟩; have n0_ := Aside0.mk (Kd.R_below (by (with_reducible repeat (first | apply Kd.R_alloc | apply Kd.R_drewN | apply Kd.R_drew)); exact HO796.out) hb); have n1_ := Aside0.mk (Kd.S_lower (Kd.S_new' ho0 (Kd.R_lt (by (with_reducible repeat (first | apply Kd.R_alloc | apply Kd.R_drewN | apply Kd.R_drew)); exact HO796.out))) (below_size (by repeat (first | (with_reducible first | exact HB.out | apply below_alloc | apply pw_below_drewN | apply below_drew1) | exact HB.out)))); have n2_ := Aside0.mk (below_step (by repeat (first | (with_reducible first | exact HB.out | apply below_alloc | apply pw_below_drewN | apply below_drew1) | exact HB.out)) hb); clear HO796; clear HB; have HO796 := n0_; have HO800 := n1_; have HB := n2_; clear n0_ n1_ n2_; (try clear hb); (try clear hb2); (try clear hk); (try clear hi); (try clear ho0)) | ((with_reducible refine gate_callee (f := 9) rfl ?_); refine goesL_ (some 139) rfl rfl Try.func9 (by kernel_rfl) rfl #[.slice Ao72 t792.length co72, .int .i64 t793, .int .i64 t794] rfl (by (try simp only [List.map_toArray, List.map_cons, List.map_nil]); first | done | rfl) ?_; (with_reducible refine (spec_BranchesOf.calls kj18 _ _ t792 t793 t794 t801 t804 _ ?side1 ?side2 A69.out).mono ?_); (case side1 => repeat (first | exact (Kd.R_reads' HO796.out).2.2 | (with_reducible refine Kd.C_alloc ?_ _) | (with_reducible refine Kd.C_drewN ?_ _) | (with_reducible refine Kd.C_drew ?_))); (case side2 => exact (Kd.R_reads' HO796.out).2.1); rintro e w74 ⟨v802, rfl, ho0, hb⟩; refine ⟨_, rfl, ?_⟩; have n0_ := Aside0.mk (Kd.R_below (by (with_reducible repeat (first | apply Kd.R_alloc | apply Kd.R_drewN | apply Kd.R_drew)); exact HO796.out) hb); have n1_ := Aside0.mk (Kd.S_below (by (with_reducible repeat (first | apply Kd.S_alloc | apply Kd.S_drewN | apply Kd.S_drew)); exact HO800.out) hb); have n2_ := Aside0.mk (Kd.V_lower (Kd.V_mono (ok' := fun k_ => some k_ ≠ (.slice Ao72 t792.length co72 : Value).ownBlock ∧ some k_ ≠ (v799 : Value).ownBlock) ho0 (fun k_ hk_ => ⟨(Kd.fresh' (Kd.R_lt (by (with_reducible repeat (first | apply Kd.R_alloc | apply Kd.R_drewN | apply Kd.R_drew)); exact HO796.out)) k_ hk_), (Kd.fresh' (Kd.S_lt (by (with_reducible repeat (first | apply Kd.S_alloc | apply Kd.S_drewN | apply Kd.S_drew)); exact HO800.out)) k_ hk_)⟩)) (below_size (by repeat (first | (with_reducible first | exact HB.out | apply below_alloc | apply pw_below_drewN | apply below_drew1) | exact HB.out)))); have n3_ := Aside0.mk (below_step (by repeat (first | (with_reducible first | exact HB.out | apply below_alloc | apply pw_below_drewN | apply below_drew1) | exact HB.out)) hb); clear HO796; clear HO800; clear HB; have HO796 := n0_; have HO800 := n1_; have HO803 := n2_; have HB := n3_; clear n0_ n1_ n2_ n3_; (try clear hb); (try clear hb2); (try clear hk); (try clear hi); (try clear ho0)))
       (try simp only [Act.put, List.setIfInBounds_toArray, List.set_cons_zero, List.set_cons_succ])
       go_cut [150] (fun v150 wc => ∃ (kq : Nat) (x150_69 : Bool), v150 = .bool x150_69 ∧ Aside0 (laws_FnClimbsOfHurwitz.j3 kq t792 t793 t794 t797 x150_69 = some r) ∧ Aside0 (kq ≤ kj18) ∧ Aside0 (Kd.R (Kd.int .i64) 3 wc w.heap.size (fun _ => True) (.slice Ao72 t792.length co72) t792) ∧ Aside0 (Kd.S (Kd.slice 3 (Kd.int .i64)) 22 wc w.heap.size (fun k_ => some k_ ≠ ((.slice Ao72 t792.length co72) : Value).ownBlock) v799 t797) ∧ Aside0 (Below w.heap.size w wc))
       case first => as_aux_lemma =>
        have H := HC70.out; clear HC70
        by_cases c75 : (t798 != t804) = true
        ·rw [if_pos c75] at H
         have c75b0 : (t798 != t804) = true := c75
         (try (have c75b1 : decide (t798 = t804) = false := by simpa using c75))
         (try (have c75b2 : (t798 == t804) = false := by simpa using c75))
         (try (have c75b3 : ¬ (t798 = t804) := by simpa using c75))
         clear c75
         (first | rw [c75b0] | (simp only [i64_w, i32_w]; rw [c75b0]) | skip)
         have H' := Aside0.mk H
         clear H
         go_wp2
         go_meet
         case rel => exact ⟨_, (true), (by first | rfl | (simp; done) | (simp [*]; done)), H', ⟨by have := HJ7.out; have := HJ18.out; first | omega | exact Nat.le_refl _⟩, ⟨by (with_reducible repeat (first | apply Kd.R_alloc | apply Kd.R_drewN | apply Kd.R_drew)); exact HO796.out⟩, ⟨by (with_reducible repeat (first | apply Kd.S_alloc | apply Kd.S_drewN | apply Kd.S_drew)); exact Kd.S_mono HO800.out (fun _ hk => hk.2)⟩, ⟨by repeat (first | (with_reducible first | exact HB.out | apply below_alloc | apply pw_below_drewN | apply below_drew1) | exact HB.out)⟩⟩
        ·as_aux_lemma =>
         rw [if_neg c75] at H
         have c75b0 : (t798 != t804) = false := by simpa using c75
         (try (have c75b1 : decide (t798 = t804) = true := by simpa using c75))
         (try (have c75b2 : (t798 == t804) = true := by simpa using c75))
         clear c75
         (first | rw [c75b0] | (simp only [i64_w, i32_w]; rw [c75b0]) | skip)
         replace H := Option.bind_eq_some_iff.mp H
         obtain ⟨t805, A760, H⟩ := H
         replace H : (laws_FnClimbsOfHurwitz.j3 kj18 t792 t793 t794 t797 (!t805)) = some r := H
         have A76 := Aside0.mk A760
         clear A760
         have H' := Aside0.mk H
         clear H
         obtain ⟨Ao77, co77, eo77⟩ := Kd.S_slice HO800.out
         subst eo77
         obtain ⟨Ao78, co78, eo78⟩ := Kd.V_slice HO803.out
         subst eo78
         go_wp2_with (first | (go_at_call 25; (with_reducible refine (laws_vSameLists.calls kj18 _ _ t797 _ _ t801 t805 _ ?side1 ?side2 ?side3 ?side4 A76.out).mono ?_); (case side1 => repeat (first | exact (Kd.S_reads' HO800.out).2.2 | (with_reducible refine Kd.C_alloc ?_ _) | (with_reducible refine Kd.C_drewN ?_ _) | (with_reducible refine Kd.C_drew ?_))); (case side2 => exact (Kd.S_reads' HO800.out).2.1); (case side3 => repeat (first | exact (Kd.V_reads' HO803.out).2.2 | (with_reducible refine Kd.C_alloc ?_ _) | (with_reducible refine Kd.C_drewN ?_ _) | (with_reducible refine Kd.C_drew ?_))); (case side4 => exact (Kd.V_reads' HO803.out).2.1); rintro e w' ⟨rfl, ⟨nd, rfl⟩⟩))
         go_meet
         case rel => exact ⟨_, (!t805), (by first | rfl | (simp; done) | (simp [*]; done)), H', ⟨by have := HJ7.out; have := HJ18.out; first | omega | exact Nat.le_refl _⟩, ⟨by (with_reducible repeat (first | apply Kd.R_alloc | apply Kd.R_drewN | apply Kd.R_drew)); exact HO796.out⟩, ⟨by (with_reducible repeat (first | apply Kd.S_alloc | apply Kd.S_drewN | apply Kd.S_drew)); exact Kd.S_mono HO800.out (fun _ hk => hk.2)⟩, ⟨by repeat (first | (with_reducible first | exact HB.out | apply below_alloc | apply pw_below_drewN | apply below_drew1) | exact HB.out)⟩⟩
       case rest => as_aux_lemma =>
        clear HC70
        try clear c1
        try clear c2
        try clear p2
        try clear c3
        try clear c4
        try clear p6
        try clear c7
        try clear p7
        try clear q7
        try clear hx7
        try clear c8
        try clear c9
        try clear c11
        try clear c14
        try clear c14b0
        try clear c14b1
        try clear c14b2
        try clear c18
        try clear c19
        try clear c20
        try clear c21
        try clear c21b0
        try clear c22
        try clear c22b0
        try clear c23
        try clear c23b0
        try clear c25
        try clear c29
        try clear c30
        try clear c33
        try clear c34
        try clear c35
        try clear c36
        try clear c36b0
        try clear c36b1
        try clear c38
        try clear c41
        try clear c43
        try clear c44
        try clear c45
        try clear c46
        try clear p64
        try clear c75
        try clear c75b0
        try clear c75b1
        try clear c75b2
        try clear p77
        try clear q77
        try clear hx77
        try clear hx777_0
        try clear p2
        try clear p6
        try clear p64
        try clear p7
        try clear p777
        try clear q7
        try clear q777
        obtain ⟨kq, x150_69, rfl, HA, HJ69, HO_22, HO_25, HB⟩ := hcut
        cases kq with
        | zero => exact absurd HA.out (by simp [laws_FnClimbsOfHurwitz.j3])
        | succ kj69 =>
         have H := HA.out; clear HA
         simp only [laws_FnClimbsOfHurwitz.j3] at H
         by_cases c79 : x150_69 = true
         ·subst c79
          have H1 : (some false) = some r := by rw [if_pos rfl] at H; exact H
          clear H; have H := H1; clear H1
          obtain rfl := Option.some.inj H
          go_wp2
          go_ret
          exact ⟨by first | rfl | (simp [errW_none, errW_some] <;> rfl) | (simp [*, errW_none, errW_some] <;> rfl), by repeat (first | (with_reducible first | exact HB.out | apply below_alloc | apply pw_below_drewN | apply below_drew1) | exact HB.out)⟩
         ·as_aux_lemma =>
          replace c79 := Bool.eq_false_iff.mpr c79
          subst c79
          have H1 : (laws_FnClimbsOfHurwitz.l1 kj69 t792 t793 t794 t797 t797 (t797.length : Int) 0) = some r := by rw [if_neg (show ¬ (false = true) by decide)] at H; exact H
          clear H; have H := H1; clear H1
          have H' := Aside0.mk H
          clear H
          obtain ⟨Ao80, co80, eo80⟩ := Kd.S_slice HO_25.out
          subst eo80
          go_wp2
          go_loopg [153] kj69 (fun kq v153 w' => ∃ (x153_4 : Int), v153 = .int .i64 x153_4 ∧ Aside0 (laws_FnClimbsOfHurwitz.l1 kq t792 t793 t794 t797 t797 (t797.length : Int) x153_4 = some r) ∧ Aside0 (kq ≤ kj69) ∧ Aside0 (Kd.R (Kd.int .i64) 3 w' w.heap.size (fun _ => True) (.slice Ao72 t792.length co72) t792) ∧ Aside0 (Kd.S (Kd.slice 3 (Kd.int .i64)) 22 w' w.heap.size (fun k_ => some k_ ≠ ((.slice Ao72 t792.length co72) : Value).ownBlock) (.slice Ao80 t797.length co80) t797) ∧ Aside0 (Kd.S (Kd.slice 3 (Kd.int .i64)) 22 w' w.heap.size (fun k_ => some k_ ≠ ((.slice Ao72 t792.length co72) : Value).ownBlock) (.slice Ao80 t797.length co80) t797) ∧ Aside0 (Below w.heap.size w w'))
          case atStart => exact ⟨(0), (by first | rfl | (simp; done) | (simp [*]; done)), H', ⟨Nat.le_refl _⟩, ⟨by (with_reducible repeat (first | apply Kd.R_alloc | apply Kd.R_drewN | apply Kd.R_drew)); exact HO_22.out⟩, ⟨by (with_reducible repeat (first | apply Kd.S_alloc | apply Kd.S_drewN | apply Kd.S_drew)); exact HO_25.out⟩, ⟨by (with_reducible repeat (first | apply Kd.S_alloc | apply Kd.S_drewN | apply Kd.S_drew)); exact HO_25.out⟩, ⟨by repeat (first | (with_reducible first | exact HB.out | apply below_alloc | apply pw_below_drewN | apply below_drew1) | exact HB.out)⟩⟩
          case round => as_aux_lemma =>
           clear H'
           try clear c1
           try clear c2
           try clear p2
           try clear c3
           try clear c4
           try clear p6
           try clear c7
           try clear p7
           try clear q7
           try clear hx7
           try clear c8
           try clear c9
           try clear c11
           try clear c14
           try clear c14b0
           try clear c14b1
           try clear c14b2
           try clear c18
           try clear c19
           try clear c20
           try clear c21
           try clear c21b0
           try clear c22
           try clear c22b0
           try clear c23
           try clear c23b0
           try clear c25
           try clear c29
           try clear c30
           try clear c33
           try clear c34
           try clear c35
           try clear c36
           try clear c36b0
           try clear c36b1
           try clear c38
           try clear c41
           try clear c43
           try clear c44
           try clear c45
           try clear c46
           try clear p64
           try clear c75
           try clear c75b0
           try clear c75b1
           try clear c75b2
           try clear p77
           try clear q77
           try clear hx77
           try clear c79
           try clear hx777_0
           try clear p2
           try clear p6
           try clear p64
           try clear p7
           try clear p77
           try clear p777
           try clear q7
           try clear q77
           try clear q777
           obtain ⟨x153_4, rfl, HA, HK4, HO_22, HO_25, HO_151, HB⟩ := hrel
           cases gk with
           | zero => exact absurd HA.out (by simp [laws_FnClimbsOfHurwitz.l1])
           | succ k4 =>
            have H := HA.out; clear HA
            simp only [laws_FnClimbsOfHurwitz.l1] at H
            by_cases c81 : x153_4 < (t797.length : Int)
            ·as_aux_lemma =>
             rw [if_pos c81] at H
             have c81b0 : decide (x153_4 < (t797.length : Int)) = true := decide_eq_true c81
             clear c81
             by_cases c82 : 0 ≤ x153_4
             rotate_left
             ·rw [if_neg c82] at H
              exact absurd H (by simp)
             as_aux_lemma =>
             rw [if_pos c82] at H
             have c82b0 : decide (0 ≤ x153_4) = true := decide_eq_true c82
             clear c82
             by_cases c83 : x153_4 < (t797.length : Int)
             rotate_left
             ·rw [if_neg c83] at H
              exact absurd H (by simp)
             as_aux_lemma =>
             rw [if_pos c83] at H
             have c83b0 : decide (x153_4 < (t797.length : Int)) = true := decide_eq_true c83
             clear c83
             replace H := Option.bind_eq_some_iff.mp H
             obtain ⟨t807, A840, H⟩ := H
             replace H : (if t807 = true then ((laws_vSum.f k4 (rd_L1 t797 x153_4)).bind fun t808 => ((laws_vSum.f k4 t792).bind fun t809 => (if t808 ≤ t809 then (some false) else (if x153_4 > 0 then (if 0 ≤ (wrap64 (x153_4 - 1)) then (if (wrap64 (x153_4 - 1)) < (t797.length : Int) then ((laws_vBefore.f k4 (rd_L1 t797 (wrap64 (x153_4 - 1))) (rd_L1 t797 x153_4)).bind fun t811 => (if t811 = true then (laws_FnClimbsOfHurwitz.l1 k4 t792 t793 t794 t797 t797 (t797.length : Int) (wrap64 (x153_4 + 1))) else (some false))) else (none)) else (none)) else (laws_FnClimbsOfHurwitz.l1 k4 t792 t793 t794 t797 t797 (t797.length : Int) (wrap64 (x153_4 + 1))))))) else (some false)) = some r := H
             have A84 := Aside0.mk A840
             clear A840
             by_cases c85 : t807 = true
             ·as_aux_lemma =>
              subst c85
              have H1 : ((laws_vSum.f k4 (rd_L1 t797 x153_4)).bind fun t808 => ((laws_vSum.f k4 t792).bind fun t809 => (if t808 ≤ t809 then (some false) else (if x153_4 > 0 then (if 0 ≤ (wrap64 (x153_4 - 1)) then (if (wrap64 (x153_4 - 1)) < (t797.length : Int) then ((laws_vBefore.f k4 (rd_L1 t797 (wrap64 (x153_4 - 1))) (rd_L1 t797 x153_4)).bind fun t811 => (if t811 = true then (laws_FnClimbsOfHurwitz.l1 k4 t792 t793 t794 t797 t797 (t797.length : Int) (wrap64 (x153_4 + 1))) else (some false))) else (none)) else (none)) else (laws_FnClimbsOfHurwitz.l1 k4 t792 t793 t794 t797 t797 (t797.length : Int) (wrap64 (x153_4 + 1))))))) = some r := by rw [if_pos rfl] at H; exact H
              clear H; have H := H1; clear H1
              replace H := Option.bind_eq_some_iff.mp H
              obtain ⟨t808, A860, H⟩ := H
              replace H : ((laws_vSum.f k4 t792).bind fun t809 => (if t808 ≤ t809 then (some false) else (if x153_4 > 0 then (if 0 ≤ (wrap64 (x153_4 - 1)) then (if (wrap64 (x153_4 - 1)) < (t797.length : Int) then ((laws_vBefore.f k4 (rd_L1 t797 (wrap64 (x153_4 - 1))) (rd_L1 t797 x153_4)).bind fun t811 => (if t811 = true then (laws_FnClimbsOfHurwitz.l1 k4 t792 t793 t794 t797 t797 (t797.length : Int) (wrap64 (x153_4 + 1))) else (some false))) else (none)) else (none)) else (laws_FnClimbsOfHurwitz.l1 k4 t792 t793 t794 t797 t797 (t797.length : Int) (wrap64 (x153_4 + 1)))))) = some r := H
              have A86 := Aside0.mk A860
              clear A860
              replace H := Option.bind_eq_some_iff.mp H
              obtain ⟨t809, A870, H⟩ := H
              replace H : (if t808 ≤ t809 then (some false) else (if x153_4 > 0 then (if 0 ≤ (wrap64 (x153_4 - 1)) then (if (wrap64 (x153_4 - 1)) < (t797.length : Int) then ((laws_vBefore.f k4 (rd_L1 t797 (wrap64 (x153_4 - 1))) (rd_L1 t797 x153_4)).bind fun t811 => (if t811 = true then (laws_FnClimbsOfHurwitz.l1 k4 t792 t793 t794 t797 t797 (t797.length : Int) (wrap64 (x153_4 + 1))) else (some false))) else (none)) else (none)) else (laws_FnClimbsOfHurwitz.l1 k4 t792 t793 t794 t797 t797 (t797.length : Int) (wrap64 (x153_4 + 1))))) = some r := H
              have A87 := Aside0.mk A870
              clear A870
              by_cases c88 : t808 ≤ t809
              ·as_aux_lemma =>
               rw [if_pos c88] at H
               have c88b0 : decide (t808 ≤ t809) = true := decide_eq_true c88
               clear c88
               obtain rfl := Option.some.inj H
               have p806 : 0 ≤ (x153_4 : Int) := of_decide_eq_true (by first | (with_reducible assumption) | assumption)
               have q806 : x153_4 < (t797.length : Int) := of_decide_eq_true (by first | (with_reducible assumption) | assumption)
               obtain ⟨ad806, A806_0, c806_0, e806, hx806_0, hl806_0, hi806_0⟩ := at_L1 (Kd.S_reads' HO_151.out).2.2 x153_4 p806 q806
               cases e806
               obtain ⟨ce806, hce806, hMe806, hcc806⟩ := Kd.S_get HO_151.out [] x153_4 p806 (by first | exact q806 | exact of_decide_eq_true (by first | (with_reducible assumption) | assumption) | (have e_ := (Kd.S_reads' HO_151.out).1; omega))
               obtain ⟨ve806_0, rfl, ge806_0⟩ := hMe806
               have hv806_0 := hcc806 0 _ rfl
               rw [Nat.add_zero, show ((Kd.slice 3 (Kd.int .i64))).sz = 1 from rfl, Nat.mul_one] at hv806_0
               replace hv806_0 := Option.some.inj (hv806_0.symm.trans hx806_0)
               rw [hv806_0] at ge806_0
               have HL806_0 := Aside0.mk (show Kd.R (Kd.int .i64) 3 _ _ _ _ (rd_L1 t797 x153_4) from ge806_0)
               clear hv806_0 ge806_0; clear hcc806 hce806
               have HR806_0 := Aside0.mk hi806_0
               have HC806_0 := Aside0.mk hl806_0
               clear hi806_0 hl806_0; replace p806 := eq_true p806; replace q806 := eq_true q806
               go_wp2_with (first | ((with_reducible refine gate_callee (f := 39) rfl ?_); refine goesL_ (some 161) rfl rfl Try.func39 (by kernel_rfl) rfl #[.slice A806_0 (rd_L1 t797 x153_4).length c806_0, .int .i64 t793, .int .i64 t794] rfl (by (try simp only [List.map_toArray, List.map_cons, List.map_nil]); first | done | rfl) ?_; (with_reducible refine (laws_vSolves.calls k4 _ _ (rd_L1 t797 x153_4) t793 t794 true _ ?side1 ?side2 A84.out).mono ?_); (case side1 => repeat (first | exact (by repeat (first | (with_reducible exact HR806_0.out) | (with_reducible refine Kd.C_alloc ?_ _) | (with_reducible refine Kd.C_drewN ?_ _) | (with_reducible refine Kd.C_drew ?_) | exact HR806_0.out)) | (with_reducible refine Kd.C_alloc ?_ _) | (with_reducible refine Kd.C_drewN ?_ _) | (with_reducible refine Kd.C_drew ?_))); (case side2 => exact HC806_0.out); rintro e w89 ⟨rfl, hb⟩; refine ⟨_, rfl, ?_⟩; have n0_ := Aside0.mk (Kd.R_below (by (with_reducible repeat (first | apply Kd.R_alloc | apply Kd.R_drewN | apply Kd.R_drew)); exact HO_22.out) hb); have n1_ := Aside0.mk (Kd.S_below (by (with_reducible repeat (first | apply Kd.S_alloc | apply Kd.S_drewN | apply Kd.S_drew)); exact HO_25.out) hb); have n2_ := Aside0.mk (Kd.S_below (by (with_reducible repeat (first | apply Kd.S_alloc | apply Kd.S_drewN | apply Kd.S_drew)); exact HO_151.out) hb); have n3_ := Aside0.mk (Kd.R_below (by (with_reducible repeat (first | apply Kd.R_alloc | apply Kd.R_drewN | apply Kd.R_drew)); exact HL806_0.out) hb); have n4_ := Aside0.mk (Kd.C_below (by repeat (first | (with_reducible exact HR806_0.out) | (with_reducible refine Kd.C_alloc ?_ _) | (with_reducible refine Kd.C_drewN ?_ _) | (with_reducible refine Kd.C_drew ?_) | exact HR806_0.out)) hb); have n5_ := Aside0.mk (below_step (by repeat (first | (with_reducible first | exact HB.out | apply below_alloc | apply pw_below_drewN | apply below_drew1) | exact HB.out)) hb); clear HO_22; clear HO_25; clear HO_151; clear HL806_0; clear HR806_0; clear HB; have HO_22 := n0_; have HO_25 := n1_; have HO_151 := n2_; have HL806_0 := n3_; have HR806_0 := n4_; have HB := n5_; clear n0_ n1_ n2_ n3_ n4_ n5_; (try clear hb); (try clear hb2); (try clear hk); (try clear hi)) | (go_at_call 40; (with_reducible refine (laws_vSum.calls k4 _ _ (rd_L1 t797 x153_4) t808 _ ?side1 ?side2 A86.out).mono ?_); (case side1 => repeat (first | exact (by repeat (first | (with_reducible exact HR806_0.out) | (with_reducible refine Kd.C_alloc ?_ _) | (with_reducible refine Kd.C_drewN ?_ _) | (with_reducible refine Kd.C_drew ?_) | exact HR806_0.out)) | (with_reducible refine Kd.C_alloc ?_ _) | (with_reducible refine Kd.C_drewN ?_ _) | (with_reducible refine Kd.C_drew ?_))); (case side2 => exact HC806_0.out); rintro e w' ⟨rfl, ⟨nd, rfl⟩⟩) | (go_at_call 40; (with_reducible refine (laws_vSum.calls k4 _ _ t792 t809 _ ?side1 ?side2 A87.out).mono ?_); (case side1 => repeat (first | exact (Kd.R_reads' HO_22.out).2.2 | (with_reducible refine Kd.C_alloc ?_ _) | (with_reducible refine Kd.C_drewN ?_ _) | (with_reducible refine Kd.C_drew ?_))); (case side2 => exact (Kd.R_reads' HO_22.out).2.1); rintro e w' ⟨rfl, ⟨nd, rfl⟩⟩))
               go_ret
               exact ⟨by first | rfl | (simp [errW_none, errW_some] <;> rfl) | (simp [*, errW_none, errW_some] <;> rfl), by repeat (first | (with_reducible first | exact HB.out | apply below_alloc | apply pw_below_drewN | apply below_drew1) | exact HB.out)⟩
              ·as_aux_lemma =>
               rw [if_neg c88] at H
               have c88b0 : decide (t808 ≤ t809) = false := decide_eq_false c88
               clear c88
               by_cases c90 : x153_4 > 0
               ·as_aux_lemma =>
                rw [if_pos c90] at H
                have c90b0 : decide (0 < x153_4) = true := decide_eq_true c90
                clear c90
                obtain ⟨ji91, hji91⟩ : ∃ j_ : Int, (wrap64 (x153_4 - 1)) = j_ := ⟨_, rfl⟩
                replace H : (if 0 ≤ (ji91) then (if (ji91) < (t797.length : Int) then ((laws_vBefore.f k4 (rd_L1 t797 (ji91)) (rd_L1 t797 x153_4)).bind fun t811 => (if t811 = true then (laws_FnClimbsOfHurwitz.l1 k4 t792 t793 t794 t797 t797 (t797.length : Int) (wrap64 (x153_4 + 1))) else (some false))) else (none)) else (none)) = some r := by first | (rw [hji91] at H; exact H) | (simp only [hji91] at H ⊢; exact H)
                (try rw [hji91] at A84)
                (try rw [hji91] at A86)
                (try rw [hji91] at A87)
                have hji91w : (IntKind.i64.wrap (x153_4 - 1)) = ji91 := (i64_w _).trans hji91
                by_cases c92 : 0 ≤ (ji91)
                rotate_left
                ·rw [if_neg c92] at H
                 exact absurd H (by simp)
                as_aux_lemma =>
                rw [if_pos c92] at H
                have c92b0 : decide (0 ≤ (ji91)) = true := decide_eq_true c92
                clear c92
                by_cases c93 : (ji91) < (t797.length : Int)
                rotate_left
                ·rw [if_neg c93] at H
                 exact absurd H (by simp)
                as_aux_lemma =>
                rw [if_pos c93] at H
                have c93b0 : decide ((ji91) < (t797.length : Int)) = true := decide_eq_true c93
                clear c93
                replace H := Option.bind_eq_some_iff.mp H
                obtain ⟨t811, A940, H⟩ := H
                replace H : (if t811 = true then (laws_FnClimbsOfHurwitz.l1 k4 t792 t793 t794 t797 t797 (t797.length : Int) (wrap64 (x153_4 + 1))) else (some false)) = some r := H
                have A94 := Aside0.mk A940
                clear A940
                by_cases c95 : t811 = true
                ·as_aux_lemma =>
                 subst c95
                 have H1 : (laws_FnClimbsOfHurwitz.l1 k4 t792 t793 t794 t797 t797 (t797.length : Int) (wrap64 (x153_4 + 1))) = some r := by rw [if_pos rfl] at H; exact H
                 clear H; have H := H1; clear H1
                 have H' := Aside0.mk H
                 clear H
                 have p806 : 0 ≤ (x153_4 : Int) := of_decide_eq_true (by first | (with_reducible assumption) | assumption)
                 have q806 : x153_4 < (t797.length : Int) := of_decide_eq_true (by first | (with_reducible assumption) | assumption)
                 obtain ⟨ad806, A806_0, c806_0, e806, hx806_0, hl806_0, hi806_0⟩ := at_L1 (Kd.S_reads' HO_151.out).2.2 x153_4 p806 q806
                 cases e806
                 obtain ⟨ce806, hce806, hMe806, hcc806⟩ := Kd.S_get HO_151.out [] x153_4 p806 (by first | exact q806 | exact of_decide_eq_true (by first | (with_reducible assumption) | assumption) | (have e_ := (Kd.S_reads' HO_151.out).1; omega))
                 obtain ⟨ve806_0, rfl, ge806_0⟩ := hMe806
                 have hv806_0 := hcc806 0 _ rfl
                 rw [Nat.add_zero, show ((Kd.slice 3 (Kd.int .i64))).sz = 1 from rfl, Nat.mul_one] at hv806_0
                 replace hv806_0 := Option.some.inj (hv806_0.symm.trans hx806_0)
                 rw [hv806_0] at ge806_0
                 have HL806_0 := Aside0.mk (show Kd.R (Kd.int .i64) 3 _ _ _ _ (rd_L1 t797 x153_4) from ge806_0)
                 clear hv806_0 ge806_0; clear hcc806 hce806
                 have HR806_0 := Aside0.mk hi806_0
                 have HC806_0 := Aside0.mk hl806_0
                 clear hi806_0 hl806_0; replace p806 := eq_true p806; replace q806 := eq_true q806
                 go_wp2_with (first | ((with_reducible refine gate_callee (f := 39) rfl ?_); refine goesL_ (some 161) rfl rfl Try.func39 (by kernel_rfl) rfl #[.slice A806_0 (rd_L1 t797 x153_4).length c806_0, .int .i64 t793, .int .i64 t794] rfl (by (try simp only [List.map_toArray, List.map_cons, List.map_nil]); first | done | rfl) ?_; (with_reducible refine (laws_vSolves.calls k4 _ _ (rd_L1 t797 x153_4) t793 t794 true _ ?side1 ?side2 A84.out).mono ?_); (case side1 => repeat (first | exact (by repeat (first | (with_reducible exact HR806_0.out) | (with_reducible refine Kd.C_alloc ?_ _) | (with_reducible refine Kd.C_drewN ?_ _) | (with_reducible refine Kd.C_drew ?_) | exact HR806_0.out)) | (with_reducible refine Kd.C_alloc ?_ _) | (with_reducible refine Kd.C_drewN ?_ _) | (with_reducible refine Kd.C_drew ?_))); (case side2 => exact HC806_0.out); rintro e w96 ⟨rfl, hb⟩; refine ⟨_, rfl, ?_⟩; have n0_ := Aside0.mk (Kd.R_below (by (with_reducible repeat (first | apply Kd.R_alloc | apply Kd.R_drewN | apply Kd.R_drew)); exact HO_22.out) hb); have n1_ := Aside0.mk (Kd.S_below (by (with_reducible repeat (first | apply Kd.S_alloc | apply Kd.S_drewN | apply Kd.S_drew)); exact HO_25.out) hb); have n2_ := Aside0.mk (Kd.S_below (by (with_reducible repeat (first | apply Kd.S_alloc | apply Kd.S_drewN | apply Kd.S_drew)); exact HO_151.out) hb); have n3_ := Aside0.mk (Kd.R_below (by (with_reducible repeat (first | apply Kd.R_alloc | apply Kd.R_drewN | apply Kd.R_drew)); exact HL806_0.out) hb); have n4_ := Aside0.mk (Kd.C_below (by repeat (first | (with_reducible exact HR806_0.out) | (with_reducible refine Kd.C_alloc ?_ _) | (with_reducible refine Kd.C_drewN ?_ _) | (with_reducible refine Kd.C_drew ?_) | exact HR806_0.out)) hb); have n5_ := Aside0.mk (below_step (by repeat (first | (with_reducible first | exact HB.out | apply below_alloc | apply pw_below_drewN | apply below_drew1) | exact HB.out)) hb); clear HO_22; clear HO_25; clear HO_151; clear HL806_0; clear HR806_0; clear HB; have HO_22 := n0_; have HO_25 := n1_; have HO_151 := n2_; have HL806_0 := n3_; have HR806_0 := n4_; have HB := n5_; clear n0_ n1_ n2_ n3_ n4_ n5_; (try clear hb); (try clear hb2); (try clear hk); (try clear hi)) | (go_at_call 40; (with_reducible refine (laws_vSum.calls k4 _ _ (rd_L1 t797 x153_4) t808 _ ?side1 ?side2 A86.out).mono ?_); (case side1 => repeat (first | exact (by repeat (first | (with_reducible exact HR806_0.out) | (with_reducible refine Kd.C_alloc ?_ _) | (with_reducible refine Kd.C_drewN ?_ _) | (with_reducible refine Kd.C_drew ?_) | exact HR806_0.out)) | (with_reducible refine Kd.C_alloc ?_ _) | (with_reducible refine Kd.C_drewN ?_ _) | (with_reducible refine Kd.C_drew ?_))); (case side2 => exact HC806_0.out); rintro e w' ⟨rfl, ⟨nd, rfl⟩⟩) | (go_at_call 40; (with_reducible refine (laws_vSum.calls k4 _ _ t792 t809 _ ?side1 ?side2 A87.out).mono ?_); (case side1 => repeat (first | exact (Kd.R_reads' HO_22.out).2.2 | (with_reducible refine Kd.C_alloc ?_ _) | (with_reducible refine Kd.C_drewN ?_ _) | (with_reducible refine Kd.C_drew ?_))); (case side2 => exact (Kd.R_reads' HO_22.out).2.1); rintro e w' ⟨rfl, ⟨nd, rfl⟩⟩; have p810 : 0 ≤ ((ji91) : Int) := of_decide_eq_true (by first | (with_reducible assumption) | assumption); have q810 : (ji91) < (t797.length : Int) := of_decide_eq_true (by first | (with_reducible assumption) | assumption); obtain ⟨ad810, A810_0, c810_0, e810, hx810_0, hl810_0, hi810_0⟩ := at_L1 (Kd.S_reads' HO_25.out).2.2 (ji91) p810 q810; obtain rfl : ad806 = ad810 := (by injection e810); obtain ⟨ce810, hce810, hMe810, hcc810⟩ := Kd.S_get HO_25.out [] (ji91) p810 (by first | exact q810 | exact of_decide_eq_true (by first | (with_reducible assumption) | assumption) | (have e_ := (Kd.S_reads' HO_25.out).1; omega)); obtain ⟨ve810_0, rfl, ge810_0⟩ := hMe810; have hv810_0 := hcc810 0 _ rfl; rw [Nat.add_zero, show ((Kd.slice 3 (Kd.int .i64))).sz = 1 from rfl, Nat.mul_one] at hv810_0; replace hv810_0 := Option.some.inj (hv810_0.symm.trans hx810_0); rw [hv810_0] at ge810_0; have HL810_0 := Aside0.mk (show Kd.R (Kd.int .i64) 3 _ _ _ _ (rd_L1 t797 (ji91)) from ge810_0); clear hv810_0 ge810_0; clear hcc810 hce810; have HR810_0 := Aside0.mk hi810_0; have HC810_0 := Aside0.mk hl810_0; clear hi810_0 hl810_0; replace p810 := eq_true p810; replace q810 := eq_true q810) | (go_at_call 32; (with_reducible refine (laws_vBefore.calls k4 _ _ (rd_L1 t797 (ji91)) _ _ (rd_L1 t797 x153_4) true _ ?side1 ?side2 ?side3 ?side4 A94.out).mono ?_); (case side1 => repeat (first | exact (by repeat (first | (with_reducible exact HR810_0.out) | (with_reducible refine Kd.C_alloc ?_ _) | (with_reducible refine Kd.C_drewN ?_ _) | (with_reducible refine Kd.C_drew ?_) | exact HR810_0.out)) | (with_reducible refine Kd.C_alloc ?_ _) | (with_reducible refine Kd.C_drewN ?_ _) | (with_reducible refine Kd.C_drew ?_))); (case side2 => exact HC810_0.out); (case side3 => repeat (first | exact (by repeat (first | (with_reducible exact HR806_0.out) | (with_reducible refine Kd.C_alloc ?_ _) | (with_reducible refine Kd.C_drewN ?_ _) | (with_reducible refine Kd.C_drew ?_) | exact HR806_0.out)) | (with_reducible refine Kd.C_alloc ?_ _) | (with_reducible refine Kd.C_drewN ?_ _) | (with_reducible refine Kd.C_drew ?_))); (case side4 => exact HC806_0.out); rintro e w' ⟨rfl, ⟨nd, rfl⟩⟩))
                 go_roundg k4
                 case measure => have := HJ7.out; have := HJ18.out; have := HJ69.out; have := HK4.out; omega
                 case rel => exact ⟨(wrap64 (x153_4 + 1)), (by first | rfl | (simp; done) | (simp [*]; done)), H', ⟨by have := HJ7.out; have := HJ18.out; have := HJ69.out; have := HK4.out; omega⟩, ⟨by (with_reducible repeat (first | apply Kd.R_alloc | apply Kd.R_drewN | apply Kd.R_drew)); exact HO_22.out⟩, ⟨by (with_reducible repeat (first | apply Kd.S_alloc | apply Kd.S_drewN | apply Kd.S_drew)); exact HO_25.out⟩, ⟨by (with_reducible repeat (first | apply Kd.S_alloc | apply Kd.S_drewN | apply Kd.S_drew)); exact HO_151.out⟩, ⟨by repeat (first | (with_reducible first | exact HB.out | apply below_alloc | apply pw_below_drewN | apply below_drew1) | exact HB.out)⟩⟩
                ·as_aux_lemma =>
                 replace c95 := Bool.eq_false_iff.mpr c95
                 subst c95
                 have H1 : (some false) = some r := by rw [if_neg (show ¬ (false = true) by decide)] at H; exact H
                 clear H; have H := H1; clear H1
                 obtain rfl := Option.some.inj H
                 have p806 : 0 ≤ (x153_4 : Int) := of_decide_eq_true (by first | (with_reducible assumption) | assumption)
                 have q806 : x153_4 < (t797.length : Int) := of_decide_eq_true (by first | (with_reducible assumption) | assumption)
                 obtain ⟨ad806, A806_0, c806_0, e806, hx806_0, hl806_0, hi806_0⟩ := at_L1 (Kd.S_reads' HO_151.out).2.2 x153_4 p806 q806
                 cases e806
                 obtain ⟨ce806, hce806, hMe806, hcc806⟩ := Kd.S_get HO_151.out [] x153_4 p806 (by first | exact q806 | exact of_decide_eq_true (by first | (with_reducible assumption) | assumption) | (have e_ := (Kd.S_reads' HO_151.out).1; omega))
                 obtain ⟨ve806_0, rfl, ge806_0⟩ := hMe806
                 have hv806_0 := hcc806 0 _ rfl
                 rw [Nat.add_zero, show ((Kd.slice 3 (Kd.int .i64))).sz = 1 from rfl, Nat.mul_one] at hv806_0
                 replace hv806_0 := Option.some.inj (hv806_0.symm.trans hx806_0)
                 rw [hv806_0] at ge806_0
                 have HL806_0 := Aside0.mk (show Kd.R (Kd.int .i64) 3 _ _ _ _ (rd_L1 t797 x153_4) from ge806_0)
                 clear hv806_0 ge806_0; clear hcc806 hce806
                 have HR806_0 := Aside0.mk hi806_0
                 have HC806_0 := Aside0.mk hl806_0
                 clear hi806_0 hl806_0; replace p806 := eq_true p806; replace q806 := eq_true q806
                 go_wp2_with (first | ((with_reducible refine gate_callee (f := 39) rfl ?_); refine goesL_ (some 161) rfl rfl Try.func39 (by kernel_rfl) rfl #[.slice A806_0 (rd_L1 t797 x153_4).length c806_0, .int .i64 t793, .int .i64 t794] rfl (by (try simp only [List.map_toArray, List.map_cons, List.map_nil]); first | done | rfl) ?_; (with_reducible refine (laws_vSolves.calls k4 _ _ (rd_L1 t797 x153_4) t793 t794 true _ ?side1 ?side2 A84.out).mono ?_); (case side1 => repeat (first | exact (by repeat (first | (with_reducible exact HR806_0.out) | (with_reducible refine Kd.C_alloc ?_ _) | (with_reducible refine Kd.C_drewN ?_ _) | (with_reducible refine Kd.C_drew ?_) | exact HR806_0.out)) | (with_reducible refine Kd.C_alloc ?_ _) | (with_reducible refine Kd.C_drewN ?_ _) | (with_reducible refine Kd.C_drew ?_))); (case side2 => exact HC806_0.out); rintro e w97 ⟨rfl, hb⟩; refine ⟨_, rfl, ?_⟩; have n0_ := Aside0.mk (Kd.R_below (by (with_reducible repeat (first | apply Kd.R_alloc | apply Kd.R_drewN | apply Kd.R_drew)); exact HO_22.out) hb); have n1_ := Aside0.mk (Kd.S_below (by (with_reducible repeat (first | apply Kd.S_alloc | apply Kd.S_drewN | apply Kd.S_drew)); exact HO_25.out) hb); have n2_ := Aside0.mk (Kd.S_below (by (with_reducible repeat (first | apply Kd.S_alloc | apply Kd.S_drewN | apply Kd.S_drew)); exact HO_151.out) hb); have n3_ := Aside0.mk (Kd.R_below (by (with_reducible repeat (first | apply Kd.R_alloc | apply Kd.R_drewN | apply Kd.R_drew)); exact HL806_0.out) hb); have n4_ := Aside0.mk (Kd.C_below (by repeat (first | (with_reducible exact HR806_0.out) | (with_reducible refine Kd.C_alloc ?_ _) | (with_reducible refine Kd.C_drewN ?_ _) | (with_reducible refine Kd.C_drew ?_) | exact HR806_0.out)) hb); have n5_ := Aside0.mk (below_step (by repeat (first | (with_reducible first | exact HB.out | apply below_alloc | apply pw_below_drewN | apply below_drew1) | exact HB.out)) hb); clear HO_22; clear HO_25; clear HO_151; clear HL806_0; clear HR806_0; clear HB; have HO_22 := n0_; have HO_25 := n1_; have HO_151 := n2_; have HL806_0 := n3_; have HR806_0 := n4_; have HB := n5_; clear n0_ n1_ n2_ n3_ n4_ n5_; (try clear hb); (try clear hb2); (try clear hk); (try clear hi)) | (go_at_call 40; (with_reducible refine (laws_vSum.calls k4 _ _ (rd_L1 t797 x153_4) t808 _ ?side1 ?side2 A86.out).mono ?_); (case side1 => repeat (first | exact (by repeat (first | (with_reducible exact HR806_0.out) | (with_reducible refine Kd.C_alloc ?_ _) | (with_reducible refine Kd.C_drewN ?_ _) | (with_reducible refine Kd.C_drew ?_) | exact HR806_0.out)) | (with_reducible refine Kd.C_alloc ?_ _) | (with_reducible refine Kd.C_drewN ?_ _) | (with_reducible refine Kd.C_drew ?_))); (case side2 => exact HC806_0.out); rintro e w' ⟨rfl, ⟨nd, rfl⟩⟩) | (go_at_call 40; (with_reducible refine (laws_vSum.calls k4 _ _ t792 t809 _ ?side1 ?side2 A87.out).mono ?_); (case side1 => repeat (first | exact (Kd.R_reads' HO_22.out).2.2 | (with_reducible refine Kd.C_alloc ?_ _) | (with_reducible refine Kd.C_drewN ?_ _) | (with_reducible refine Kd.C_drew ?_))); (case side2 => exact (Kd.R_reads' HO_22.out).2.1); rintro e w' ⟨rfl, ⟨nd, rfl⟩⟩; have p810 : 0 ≤ ((ji91) : Int) := of_decide_eq_true (by first | (with_reducible assumption) | assumption); have q810 : (ji91) < (t797.length : Int) := of_decide_eq_true (by first | (with_reducible assumption) | assumption); obtain ⟨ad810, A810_0, c810_0, e810, hx810_0, hl810_0, hi810_0⟩ := at_L1 (Kd.S_reads' HO_25.out).2.2 (ji91) p810 q810; obtain rfl : ad806 = ad810 := (by injection e810); obtain ⟨ce810, hce810, hMe810, hcc810⟩ := Kd.S_get HO_25.out [] (ji91) p810 (by first | exact q810 | exact of_decide_eq_true (by first | (with_reducible assumption) | assumption) | (have e_ := (Kd.S_reads' HO_25.out).1; omega)); obtain ⟨ve810_0, rfl, ge810_0⟩ := hMe810; have hv810_0 := hcc810 0 _ rfl; rw [Nat.add_zero, show ((Kd.slice 3 (Kd.int .i64))).sz = 1 from rfl, Nat.mul_one] at hv810_0; replace hv810_0 := Option.some.inj (hv810_0.symm.trans hx810_0); rw [hv810_0] at ge810_0; have HL810_0 := Aside0.mk (show Kd.R (Kd.int .i64) 3 _ _ _ _ (rd_L1 t797 (ji91)) from ge810_0); clear hv810_0 ge810_0; clear hcc810 hce810; have HR810_0 := Aside0.mk hi810_0; have HC810_0 := Aside0.mk hl810_0; clear hi810_0 hl810_0; replace p810 := eq_true p810; replace q810 := eq_true q810) | (go_at_call 32; (with_reducible refine (laws_vBefore.calls k4 _ _ (rd_L1 t797 (ji91)) _ _ (rd_L1 t797 x153_4) false _ ?side1 ?side2 ?side3 ?side4 A94.out).mono ?_); (case side1 => repeat (first | exact (by repeat (first | (with_reducible exact HR810_0.out) | (with_reducible refine Kd.C_alloc ?_ _) | (with_reducible refine Kd.C_drewN ?_ _) | (with_reducible refine Kd.C_drew ?_) | exact HR810_0.out)) | (with_reducible refine Kd.C_alloc ?_ _) | (with_reducible refine Kd.C_drewN ?_ _) | (with_reducible refine Kd.C_drew ?_))); (case side2 => exact HC810_0.out); (case side3 => repeat (first | exact (by repeat (first | (with_reducible exact HR806_0.out) | (with_reducible refine Kd.C_alloc ?_ _) | (with_reducible refine Kd.C_drewN ?_ _) | (with_reducible refine Kd.C_drew ?_) | exact HR806_0.out)) | (with_reducible refine Kd.C_alloc ?_ _) | (with_reducible refine Kd.C_drewN ?_ _) | (with_reducible refine Kd.C_drew ?_))); (case side4 => exact HC806_0.out); rintro e w' ⟨rfl, ⟨nd, rfl⟩⟩))
                 go_ret
                 exact ⟨by first | rfl | (simp [errW_none, errW_some] <;> rfl) | (simp only [← hji91]; first | rfl | (simp [errW_none, errW_some] <;> rfl)) | (simp [*, errW_none, errW_some] <;> rfl), by repeat (first | (with_reducible first | exact HB.out | apply below_alloc | apply pw_below_drewN | apply below_drew1) | exact HB.out)⟩
               ·as_aux_lemma =>
                rw [if_neg c90] at H
                have c90b0 : decide (0 < x153_4) = false := decide_eq_false c90
                clear c90
                have H' := Aside0.mk H
                clear H
                have p806 : 0 ≤ (x153_4 : Int) := of_decide_eq_true (by first | (with_reducible assumption) | assumption)
                have q806 : x153_4 < (t797.length : Int) := of_decide_eq_true (by first | (with_reducible assumption) | assumption)
                obtain ⟨ad806, A806_0, c806_0, e806, hx806_0, hl806_0, hi806_0⟩ := at_L1 (Kd.S_reads' HO_151.out).2.2 x153_4 p806 q806
                cases e806
                obtain ⟨ce806, hce806, hMe806, hcc806⟩ := Kd.S_get HO_151.out [] x153_4 p806 (by first | exact q806 | exact of_decide_eq_true (by first | (with_reducible assumption) | assumption) | (have e_ := (Kd.S_reads' HO_151.out).1; omega))
                obtain ⟨ve806_0, rfl, ge806_0⟩ := hMe806
                have hv806_0 := hcc806 0 _ rfl
                rw [Nat.add_zero, show ((Kd.slice 3 (Kd.int .i64))).sz = 1 from rfl, Nat.mul_one] at hv806_0
                replace hv806_0 := Option.some.inj (hv806_0.symm.trans hx806_0)
                rw [hv806_0] at ge806_0
                have HL806_0 := Aside0.mk (show Kd.R (Kd.int .i64) 3 _ _ _ _ (rd_L1 t797 x153_4) from ge806_0)
                clear hv806_0 ge806_0; clear hcc806 hce806
                have HR806_0 := Aside0.mk hi806_0
                have HC806_0 := Aside0.mk hl806_0
                clear hi806_0 hl806_0; replace p806 := eq_true p806; replace q806 := eq_true q806
                go_wp2_with (first | ((with_reducible refine gate_callee (f := 39) rfl ?_); refine goesL_ (some 161) rfl rfl Try.func39 (by kernel_rfl) rfl #[.slice A806_0 (rd_L1 t797 x153_4).length c806_0, .int .i64 t793, .int .i64 t794] rfl (by (try simp only [List.map_toArray, List.map_cons, List.map_nil]); first | done | rfl) ?_; (with_reducible refine (laws_vSolves.calls k4 _ _ (rd_L1 t797 x153_4) t793 t794 true _ ?side1 ?side2 A84.out).mono ?_); (case side1 => repeat (first | exact (by repeat (first | (with_reducible exact HR806_0.out) | (with_reducible refine Kd.C_alloc ?_ _) | (with_reducible refine Kd.C_drewN ?_ _) | (with_reducible refine Kd.C_drew ?_) | exact HR806_0.out)) | (with_reducible refine Kd.C_alloc ?_ _) | (with_reducible refine Kd.C_drewN ?_ _) | (with_reducible refine Kd.C_drew ?_))); (case side2 => exact HC806_0.out); rintro e w98 ⟨rfl, hb⟩; refine ⟨_, rfl, ?_⟩; have n0_ := Aside0.mk (Kd.R_below (by (with_reducible repeat (first | apply Kd.R_alloc | apply Kd.R_drewN | apply Kd.R_drew)); exact HO_22.out) hb); have n1_ := Aside0.mk (Kd.S_below (by (with_reducible repeat (first | apply Kd.S_alloc | apply Kd.S_drewN | apply Kd.S_drew)); exact HO_25.out) hb); have n2_ := Aside0.mk (Kd.S_below (by (with_reducible repeat (first | apply Kd.S_alloc | apply Kd.S_drewN | apply Kd.S_drew)); exact HO_151.out) hb); have n3_ := Aside0.mk (Kd.R_below (by (with_reducible repeat (first | apply Kd.R_alloc | apply Kd.R_drewN | apply Kd.R_drew)); exact HL806_0.out) hb); have n4_ := Aside0.mk (Kd.C_below (by repeat (first | (with_reducible exact HR806_0.out) | (with_reducible refine Kd.C_alloc ?_ _) | (with_reducible refine Kd.C_drewN ?_ _) | (with_reducible refine Kd.C_drew ?_) | exact HR806_0.out)) hb); have n5_ := Aside0.mk (below_step (by repeat (first | (with_reducible first | exact HB.out | apply below_alloc | apply pw_below_drewN | apply below_drew1) | exact HB.out)) hb); clear HO_22; clear HO_25; clear HO_151; clear HL806_0; clear HR806_0; clear HB; have HO_22 := n0_; have HO_25 := n1_; have HO_151 := n2_; have HL806_0 := n3_; have HR806_0 := n4_; have HB := n5_; clear n0_ n1_ n2_ n3_ n4_ n5_; (try clear hb); (try clear hb2); (try clear hk); (try clear hi)) | (go_at_call 40; (with_reducible refine (laws_vSum.calls k4 _ _ (rd_L1 t797 x153_4) t808 _ ?side1 ?side2 A86.out).mono ?_); (case side1 => repeat (first | exact (by repeat (first | (with_reducible exact HR806_0.out) | (with_reducible refine Kd.C_alloc ?_ _) | (with_reducible refine Kd.C_drewN ?_ _) | (with_reducible refine Kd.C_drew ?_) | exact HR806_0.out)) | (with_reducible refine Kd.C_alloc ?_ _) | (with_reducible refine Kd.C_drewN ?_ _) | (with_reducible refine Kd.C_drew ?_))); (case side2 => exact HC806_0.out); rintro e w' ⟨rfl, ⟨nd, rfl⟩⟩) | (go_at_call 40; (with_reducible refine (laws_vSum.calls k4 _ _ t792 t809 _ ?side1 ?side2 A87.out).mono ?_); (case side1 => repeat (first | exact (Kd.R_reads' HO_22.out).2.2 | (with_reducible refine Kd.C_alloc ?_ _) | (with_reducible refine Kd.C_drewN ?_ _) | (with_reducible refine Kd.C_drew ?_))); (case side2 => exact (Kd.R_reads' HO_22.out).2.1); rintro e w' ⟨rfl, ⟨nd, rfl⟩⟩))
                go_roundg k4
                case measure => have := HJ7.out; have := HJ18.out; have := HJ69.out; have := HK4.out; omega
                case rel => exact ⟨(wrap64 (x153_4 + 1)), (by first | rfl | (simp; done) | (simp [*]; done)), H', ⟨by have := HJ7.out; have := HJ18.out; have := HJ69.out; have := HK4.out; omega⟩, ⟨by (with_reducible repeat (first | apply Kd.R_alloc | apply Kd.R_drewN | apply Kd.R_drew)); exact HO_22.out⟩, ⟨by (with_reducible repeat (first | apply Kd.S_alloc | apply Kd.S_drewN | apply Kd.S_drew)); exact HO_25.out⟩, ⟨by (with_reducible repeat (first | apply Kd.S_alloc | apply Kd.S_drewN | apply Kd.S_drew)); exact HO_151.out⟩, ⟨by repeat (first | (with_reducible first | exact HB.out | apply below_alloc | apply pw_below_drewN | apply below_drew1) | exact HB.out)⟩⟩
             ·as_aux_lemma =>
              replace c85 := Bool.eq_false_iff.mpr c85
              subst c85
              have H1 : (some false) = some r := by rw [if_neg (show ¬ (false = true) by decide)] at H; exact H
              clear H; have H := H1; clear H1
              obtain rfl := Option.some.inj H
              have p806 : 0 ≤ (x153_4 : Int) := of_decide_eq_true (by first | (with_reducible assumption) | assumption)
              have q806 : x153_4 < (t797.length : Int) := of_decide_eq_true (by first | (with_reducible assumption) | assumption)
              obtain ⟨ad806, A806_0, c806_0, e806, hx806_0, hl806_0, hi806_0⟩ := at_L1 (Kd.S_reads' HO_151.out).2.2 x153_4 p806 q806
              cases e806
              obtain ⟨ce806, hce806, hMe806, hcc806⟩ := Kd.S_get HO_151.out [] x153_4 p806 (by first | exact q806 | exact of_decide_eq_true (by first | (with_reducible assumption) | assumption) | (have e_ := (Kd.S_reads' HO_151.out).1; omega))
              obtain ⟨ve806_0, rfl, ge806_0⟩ := hMe806
              have hv806_0 := hcc806 0 _ rfl
              rw [Nat.add_zero, show ((Kd.slice 3 (Kd.int .i64))).sz = 1 from rfl, Nat.mul_one] at hv806_0
              replace hv806_0 := Option.some.inj (hv806_0.symm.trans hx806_0)
              rw [hv806_0] at ge806_0
              have HL806_0 := Aside0.mk (show Kd.R (Kd.int .i64) 3 _ _ _ _ (rd_L1 t797 x153_4) from ge806_0)
              clear hv806_0 ge806_0; clear hcc806 hce806
              have HR806_0 := Aside0.mk hi806_0
              have HC806_0 := Aside0.mk hl806_0
              clear hi806_0 hl806_0; replace p806 := eq_true p806; replace q806 := eq_true q806
              go_wp2_with (first | ((with_reducible refine gate_callee (f := 39) rfl ?_); refine goesL_ (some 161) rfl rfl Try.func39 (by kernel_rfl) rfl #[.slice A806_0 (rd_L1 t797 x153_4).length c806_0, .int .i64 t793, .int .i64 t794] rfl (by (try simp only [List.map_toArray, List.map_cons, List.map_nil]); first | done | rfl) ?_; (with_reducible refine (laws_vSolves.calls k4 _ _ (rd_L1 t797 x153_4) t793 t794 false _ ?side1 ?side2 A84.out).mono ?_); (case side1 => repeat (first | exact (by repeat (first | (with_reducible exact HR806_0.out) | (with_reducible refine Kd.C_alloc ?_ _) | (with_reducible refine Kd.C_drewN ?_ _) | (with_reducible refine Kd.C_drew ?_) | exact HR806_0.out)) | (with_reducible refine Kd.C_alloc ?_ _) | (with_reducible refine Kd.C_drewN ?_ _) | (with_reducible refine Kd.C_drew ?_))); (case side2 => exact HC806_0.out); rintro e w99 ⟨rfl, hb⟩; refine ⟨_, rfl, ?_⟩; have n0_ := Aside0.mk (Kd.R_below (by (with_reducible repeat (first | apply Kd.R_alloc | apply Kd.R_drewN | apply Kd.R_drew)); exact HO_22.out) hb); have n1_ := Aside0.mk (Kd.S_below (by (with_reducible repeat (first | apply Kd.S_alloc | apply Kd.S_drewN | apply Kd.S_drew)); exact HO_25.out) hb); have n2_ := Aside0.mk (Kd.S_below (by (with_reducible repeat (first | apply Kd.S_alloc | apply Kd.S_drewN | apply Kd.S_drew)); exact HO_151.out) hb); have n3_ := Aside0.mk (Kd.R_below (by (with_reducible repeat (first | apply Kd.R_alloc | apply Kd.R_drewN | apply Kd.R_drew)); exact HL806_0.out) hb); have n4_ := Aside0.mk (Kd.C_below (by repeat (first | (with_reducible exact HR806_0.out) | (with_reducible refine Kd.C_alloc ?_ _) | (with_reducible refine Kd.C_drewN ?_ _) | (with_reducible refine Kd.C_drew ?_) | exact HR806_0.out)) hb); have n5_ := Aside0.mk (below_step (by repeat (first | (with_reducible first | exact HB.out | apply below_alloc | apply pw_below_drewN | apply below_drew1) | exact HB.out)) hb); clear HO_22; clear HO_25; clear HO_151; clear HL806_0; clear HR806_0; clear HB; have HO_22 := n0_; have HO_25 := n1_; have HO_151 := n2_; have HL806_0 := n3_; have HR806_0 := n4_; have HB := n5_; clear n0_ n1_ n2_ n3_ n4_ n5_; (try clear hb); (try clear hb2); (try clear hk); (try clear hi)))
              go_ret
              exact ⟨by first | rfl | (simp [errW_none, errW_some] <;> rfl) | (simp [*, errW_none, errW_some] <;> rfl), by repeat (first | (with_reducible first | exact HB.out | apply below_alloc | apply pw_below_drewN | apply below_drew1) | exact HB.out)⟩
            ·rw [if_neg c81] at H
             have c81b0 : decide (x153_4 < (t797.length : Int)) = false := decide_eq_false c81
             clear c81
             obtain rfl := Option.some.inj H
             go_wp2
             go_ret
             exact ⟨by first | rfl | (simp [errW_none, errW_some] <;> rfl) | (simp [*, errW_none, errW_some] <;> rfl), by repeat (first | (with_reducible first | exact HB.out | apply below_alloc | apply pw_below_drewN | apply below_drew1) | exact HB.out)⟩

/-- THE ONE PURE STATEMENT of laws_FnClimbsOfHurwitz: yours. -/
def laws_FnClimbsOfHurwitz.Pure : Prop := ∀ (l0 : List Int) (l1 : List Int), l0.length ≤ maxLen → l0.length * 1 ≤ 140737488351232 → (∀ x ∈ l0, (Lit.int .u8 x).wf = true) → l1.length ≤ maxLen → l1.length * 1 ≤ 140737488351232 → (∀ x ∈ l1, (Lit.int .u8 x).wf = true) → ∃ k, laws_FnClimbsOfHurwitz.f k l0 l1 = some true
theorem laws_FnClimbsOfHurwitz.walk (P : laws_FnClimbsOfHurwitz.Pure) (a0 : Option Addr) (len0 cap0 : Nat) (z0 : List Int) (a1 : Option Addr) (len1 cap1 : Nat) (z1 : List Int) (w : World) (w0 : (a0 = none ∧ len0 = 0 ∧ cap0 = 0 ∧ z0 = []) ∨ ∃ x, a0 = some x ∧ len0 ≤ cap0 ∧ cap0 ≤ maxLen ∧ z0.length = cap0 ∧ (∀ i, i < z0.length → w.cell? (x.add i) = some (.int .u8 (z0.getD i 0))) ∧ ∀ n ∈ z0, (Lit.int .u8 n).wf = true) (y0 : len0 * 1 ≤ 140737488351232) (w1 : (a1 = none ∧ len1 = 0 ∧ cap1 = 0 ∧ z1 = []) ∨ ∃ x, a1 = some x ∧ len1 ≤ cap1 ∧ cap1 ≤ maxLen ∧ z1.length = cap1 ∧ (∀ i, i < z1.length → w.cell? (x.add i) = some (.int .u8 (z1.getD i 0))) ∧ ∀ n ∈ z1, (Lit.int .u8 n).wf = true) (y1 : len1 * 1 ≤ 140737488351232) :
  Calls Try.prog 8 #[.slice a0 len0 cap0, .slice a1 len1 cap1] w fun e w' => e = .returned (.bool true) ∧ Below w.heap.size w w' := by
 obtain ⟨l0, rfl, hr0, hm0, hw0, hc0⟩ := ReadsInt.ofRowC w0
 obtain ⟨l1, rfl, hr1, hm1, hw1, hc1⟩ := ReadsInt.ofRowC w1
 obtain ⟨k, h⟩ := P l0 l1 hm0 y0 hw0 hm1 y1 hw1
 refine (laws_FnClimbsOfHurwitz.calls k _ _ l0 _ _ l1 true w (Kd.C_of_reads (d := (0 : Int)) (h1 := fun _ => rfl) hr0) hc0 (Kd.C_of_reads (d := (0 : Int)) (h1 := fun _ => rfl) hr1) hc1 h).mono ?_
 rintro e w' ⟨rfl, hd⟩
 exact ⟨rfl, hd⟩

end Go.Proofs.Ytgpoljimomfbbaa.P

-- UhuUp
namespace Go.Proofs.Ytgpoljimomfbbaa.P
open Go.RowKit Go.Proofs.YtgpoljimomfbbaaW.PrintWords Go.Proofs.YtgpoljimomfbbaaW.PrintLast
set_option linter.unusedVariables false
set_option linter.unusedSimpArgs false
def su : List Int → Int
  | [] => 0
  | x :: l => x + su l
theorem su_perm {l m : List Int} (h : l.Perm m) : su l = su m := by
  induction h with
  | nil => rfl
  | cons x _ ih => simp only [su, ih]
  | swap x y l => simp only [su]; omega
  | trans _ _ ih1 ih2 => rw [ih1, ih2]
theorem su_set (l : List Int) : ∀ (i : Nat) (y : Int), (h : i < l.length) → su (l.set i y) = su l - l[i] + y := by
  induction l with
  | nil => intro i y h; simp at h
  | cons x l ih =>
    intro i y h
    cases i with
    | zero => simp only [List.set_cons_zero, su, List.getElem_cons_zero]; omega
    | succ i =>
      have := ih i y (by simpa using h)
      simp only [List.set_cons_succ, su, List.getElem_cons_succ, this]
      omega
theorem sumOf_loop (l : List Int) (hn : l.length ≤ 1000000) (hb : ∀ x ∈ l, 1 ≤ x ∧ x ≤ 100000) (d : Nat) : ∀ (i : Nat) (s : Int), i + d = l.length → 0 ≤ s → s ≤ 100000 * (i : Int) → Ev (fun k => impl_sumOf.l0 k s l (l.length : Int) (i : Int)) (s + su (l.drop i)) := by
  induction d with
  | zero =>
    intro i s hi h0 h1
    have e : s + su (l.drop i) = s := by rw [List.drop_of_length_le (by omega)]; simp [su]
    rw [e]
    exact Ev.step (f := fun _ => some s) (fun k => by simp only [impl_sumOf.l0]; rw [if_neg (by omega)]) (Ev.is rfl)
  | succ d ih =>
    intro i s hi h0 h1
    have hil : i < l.length := by omega
    have hx := hb _ (List.getElem_mem hil)
    have hr := ih (i + 1) (s + l[i]) (by omega) (by omega) (by omega)
    have e : s + l[i] + su (l.drop (i + 1)) = s + su (l.drop i) := by
      rw [List.drop_eq_getElem_cons hil, su]
      omega
    rw [e] at hr
    refine Ev.step (fun k => ?_) hr
    simp only [impl_sumOf.l0]
    rw [if_pos (by omega), if_pos (by omega), if_pos (by omega), rd_lt l i hil, w64_succ hil (by omega), w64 (by omega) (by omega)]
theorem sumOf_ev (l : List Int) (hn : l.length ≤ 1000000) (hb : ∀ x ∈ l, 1 ≤ x ∧ x ≤ 100000) : Ev (fun k => impl_sumOf.f k l) (su l) := by
  have := sumOf_loop l hn hb l.length 0 0 (by omega) (by omega) (by omega)
  rw [List.drop_zero, Int.zero_add] at this
  exact this
/-- The jumps up from place i on. -/
def risFrom (l : List Int) (a : Int) : Nat → Nat → List (List Int)
  | 0, _ => []
  | d + 1, i => (if inB 1 100000 (oth l a i) = true ∧ rd l (i : Int) < oth l a i then [jmp l a i] else []) ++ risFrom l a d (i + 1)
def brs (l : List Int) (a : Int) : List (List Int) := sortDedup (risFrom l a l.length 0)
theorem insS_snoc (x : List Int) (o : List (List Int)) : insS x (sortDedup o) = sortDedup (o ++ [x]) :=
  sortDedup_is (insS_sorted x _ (sortDedup_sorted o)) (fun z => by rw [insS_mem, sortDedup_mem, List.mem_append, List.mem_singleton]; exact or_comm)
theorem sortDedup_length (o : List (List Int)) : (sortDedup o).length ≤ o.length := by
  have hi : ∀ (x : List Int) (l : List (List Int)), (insS x l).length ≤ l.length + 1 := by
    intro x l
    induction l with
    | nil => simp [insS]
    | cons y t ih =>
      unfold insS
      split
      · simp
      · split
        · simp
        · simp only [List.length_cons]; omega
  induction o with
  | nil => simp [sortDedup]
  | cons x t ih =>
    have := hi x (sortDedup t)
    simp only [sortDedup, List.length_cons]
    omega
theorem jmp_sum {l : List Int} {a : Int} {i : Nat} (hi : i < l.length) : su (jmp l a i) = su l - rd l (i : Int) + oth l a i := by
  rw [jmp, su_perm (down_perm _), su_set l i _ hi, rd_lt l i hi]
theorem ris_loop {l : List Int} {a b : Int} (hg : huGv a b = true) (h : huIs l a b = true) (d : Nat) : ∀ (i : Nat) (o : List (List Int)), i + d = l.length → o.length ≤ i → (∀ x ∈ o, x.length = l.length) →
    Ev (fun k => impl_branches.l0 k l a o (i : Int)) (sortDedup (o ++ risFrom l a d i)) ∧ Ev (fun k => spec_huUp.l0 k l a (sortDedup o) l (l.length : Int) (i : Int)) (sortDedup (o ++ risFrom l a d i)) := by
  obtain ⟨h1, h2, h3, h4⟩ := huIs_iff.1 h
  induction d with
  | zero =>
    intro i o hi ho hx
    have c1 : ¬ (i : Int) < (l.length : Int) := by omega
    rw [risFrom, List.append_nil]
    constructor
    · exact Ev.step (f := fun _ => some (sortDedup o)) (fun k => by simp only [impl_branches.l0, c1, if_false]) (Ev.is rfl)
    · exact Ev.step (f := fun _ => some (sortDedup o)) (fun k => by simp only [spec_huUp.l0, c1, if_false]) (Ev.is rfl)
  | succ d ih =>
    intro i o hi ho hx
    have hil : i < l.length := by omega
    have c1 : (i : Int) < (l.length : Int) := by omega
    have c2 : (0 : Int) ≤ (i : Int) := by omega
    have hw : wrap64 ((i : Int) + 1) = ((i + 1 : Nat) : Int) := w64_succ hil (by omega)
    obtain ⟨j1, j2⟩ := jump_both hg h i hil
    obtain ⟨o1, o2⟩ := other_both hg h i hil
    rw [risFrom]
    unfold jumpOf at j1 j2
    cases hin : inB 1 100000 (oth l a i) with
    | false =>
      rw [hin] at j1 j2
      simp only [Bool.false_eq_true, if_false, false_and, List.nil_append] at j1 j2 ⊢
      obtain ⟨r1, r2⟩ := ih (i + 1) o (by omega) (by omega) hx
      constructor
      · refine Ev.step (fun k => by simp only [impl_branches.l0, c1, if_true]; rfl) (Ev.bind j1 ?_)
        simp only [Bool.false_eq_true, if_false, hw]
        exact r1
      · refine Ev.step (fun k => by simp only [spec_huUp.l0, c1, c2, if_true]; rfl) (Ev.bind j2 ?_)
        simp only [Bool.false_eq_true, if_false, hw]
        exact r2
    | true =>
      rw [hin] at j1 j2
      simp only [if_true, true_and] at j1 j2 ⊢
      have hju := jmp_is hil h hin
      obtain ⟨u1, u2, u3, u4⟩ := huIs_iff.1 hju
      have s1 := sumOf_ev (jmp l a i) (by omega) u2
      have s2 := sumOf_ev l (by omega) h2
      have hs := jmp_sum (l := l) (a := a) (i := i) hil
      have hjl := jmp_length l a i
      by_cases hup : rd l (i : Int) < oth l a i
      · rw [if_pos hup]
        obtain ⟨r1, r2⟩ := ih (i + 1) (o ++ [jmp l a i]) (by omega) (by simp; omega) (fun x hx2 => by
          rcases List.mem_append.1 hx2 with h | h
          · exact hx x h
          · rw [List.mem_singleton.1 h, hjl])
        rw [List.append_assoc] at r1 r2
        have c3 : su l < su (jmp l a i) := by omega
        have c4 : o.length < 1000000000 := by omega
        have c5 : (jmp l a i).length < 9223372036854775807 := by omega
        constructor
        · refine Ev.step (fun k => by simp only [impl_branches.l0, c1, if_true]; rfl) (Ev.bind j1 ?_)
          simp only [if_true]
          refine Ev.bind s1 (Ev.bind s2 ?_)
          simp only [c3, c4, c5, if_true, hw]
          exact r1
        · have hp := huPut_ev (L := sortDedup o) (x := jmp l a i) (by have := sortDedup_length o; omega) (fun y hy => by rw [hx y ((sortDedup_mem y o).1 hy)]; omega) (by omega)
          rw [insS_snoc] at hp
          refine Ev.step (fun k => by simp only [spec_huUp.l0, c1, c2, if_true]; rfl) (Ev.bind j2 ?_)
          simp only [if_true]
          refine Ev.bind o2 ?_
          have c6 : oth l a i > rd l (i : Int) := hup
          simp only [c6, if_true]
          refine Ev.bind hp ?_
          rw [hw]
          exact r2
      · rw [if_neg hup, List.nil_append]
        obtain ⟨r1, r2⟩ := ih (i + 1) o (by omega) (by omega) hx
        have c3 : ¬ su l < su (jmp l a i) := by omega
        constructor
        · refine Ev.step (fun k => by simp only [impl_branches.l0, c1, if_true]; rfl) (Ev.bind j1 ?_)
          simp only [if_true]
          refine Ev.bind s1 (Ev.bind s2 ?_)
          simp only [c3, if_false, hw]
          exact r1
        · refine Ev.step (fun k => by simp only [spec_huUp.l0, c1, c2, if_true]; rfl) (Ev.bind j2 ?_)
          simp only [if_true]
          refine Ev.bind o2 ?_
          have c6 : ¬ oth l a i > rd l (i : Int) := hup
          simp only [c6, if_false, hw]
          exact r2
theorem branches_both {l : List Int} {a b : Int} (hg : huGv a b = true) (h : huIs l a b = true) : Ev (fun k => impl_branches.f k l a) (brs l a) ∧ Ev (fun k => spec_huUp.f k l a) (brs l a) := by
  have := ris_loop hg h l.length 0 [] (by omega) (by simp) (by simp)
  exact this
theorem risFrom_spec (l : List Int) (a : Int) (u : List Int) (d : Nat) : ∀ i, u ∈ risFrom l a d i ↔ ∃ j, i ≤ j ∧ j < i + d ∧ inB 1 100000 (oth l a j) = true ∧ rd l (j : Int) < oth l a j ∧ u = jmp l a j := by
  induction d with
  | zero => intro i; simp [risFrom]; omega
  | succ d ih =>
    intro i
    rw [risFrom, List.mem_append, ih (i + 1)]
    constructor
    · rintro (h | ⟨j, h1, h2, h3⟩)
      · split at h
        · rename_i c
          exact ⟨i, by omega, by omega, c.1, c.2, List.mem_singleton.1 h⟩
        · simp at h
      · exact ⟨j, by omega, by omega, h3⟩
    · rintro ⟨j, h1, h2, h3, h4, h5⟩
      by_cases hj : j = i
      · subst hj
        left
        rw [if_pos ⟨h3, h4⟩]
        exact List.mem_singleton.2 h5
      · exact .inr ⟨j, by omega, by omega, h3, h4, h5⟩
theorem risFrom_length (l : List Int) (a : Int) (d : Nat) : ∀ i, (risFrom l a d i).length ≤ d := by
  induction d with
  | zero => intro i; simp [risFrom]
  | succ d ih =>
    intro i
    have := ih (i + 1)
    rw [risFrom, List.length_append]
    split <;> simp <;> omega
theorem brs_length (l : List Int) (a : Int) : (brs l a).length ≤ l.length := Nat.le_trans (sortDedup_length _) (risFrom_length l a l.length 0)
theorem brs_mem (l : List Int) (a : Int) (u : List Int) : u ∈ brs l a ↔ ∃ j, j < l.length ∧ inB 1 100000 (oth l a j) = true ∧ rd l (j : Int) < oth l a j ∧ u = jmp l a j := by
  unfold brs
  rw [sortDedup_mem, risFrom_spec]
  constructor
  · rintro ⟨j, h1, h2, h3⟩; exact ⟨j, by omega, h3⟩
  · rintro ⟨j, h1, h3⟩; exact ⟨j, by omega, by omega, h3⟩
def brAll (l : List Int) (a b : Int) : List (List Int) × Bool := if huSol l a b then (brs l a, true) else ([], false)
theorem BranchesOf_ev (l : List Int) (a b : Int) : Ev (fun k => impl_BranchesOf.f k l a b) (brAll l a b) := by
  unfold impl_BranchesOf.f brAll
  refine Ev.bind (isSolution_ev l a b) ?_
  cases hs : huSol l a b with
  | false =>
    simp only [Bool.false_eq_true, if_false]
    exact Ev.is rfl
  | true =>
    obtain ⟨hg, h⟩ := huSol_iff.1 hs
    simp only [if_true]
    refine Ev.bind (branches_both hg h).1 ?_
    have h1 := (huIs_iff.1 h).1
    have h2 := brs_length l a
    have c : (brs l a).length < 5864062014805 := by omega
    simp only [c, if_true]
    exact Ev.is rfl
end Go.Proofs.Ytgpoljimomfbbaa.P

-- PureFnClimbsOfHurwitz
namespace Go.Proofs.Ytgpoljimomfbbaa.Pure
set_option linter.unusedVariables false
set_option linter.unusedSimpArgs false
open Go.RowKit Go.Proofs.Ytgpoljimomfbbaa.P Go.Proofs.YtgpoljimomfbbaaW.PrintWords Go.Proofs.YtgpoljimomfbbaaW.PrintLast Go.Proofs.YtgpoljimomfbbaaW.PrintMore
theorem vBefore_loop (l m : List Int) (hl : l.length ≤ 4611686018427387904) : ∀ (a b pre pre' : List Int), l = pre ++ a → m = pre' ++ b → pre.length = pre'.length → Ev (fun k => laws_vBefore.l0 k l m (pre.length : Int)) (decide (cmpL a b < 0)) := by
  intro a
  induction a with
  | nil =>
    intro b pre pre' h1 h2 h3
    have e1 : l.length = pre.length := by rw [h1]; simp
    have c1 : ¬ (pre.length : Int) < (l.length : Int) := by omega
    refine Ev.step (f := fun k => laws_vBefore.j1 k l m (pre.length : Int) false) (fun k => by simp only [laws_vBefore.l0]; rw [if_neg c1]) ?_
    refine Ev.step (f := fun _ => some (decide ((l.length : Int) < (m.length : Int)))) (fun k => by simp only [laws_vBefore.j1, Bool.false_eq_true, if_false]) (Ev.is ?_)
    have e2 : m.length = pre.length + b.length := by rw [h2, List.length_append]; omega
    cases b with
    | nil =>
      have : ¬ (l.length : Int) < (m.length : Int) := by simp at e2; omega
      rw [decide_eq_false this]
      rfl
    | cons y b =>
      have : (l.length : Int) < (m.length : Int) := by simp at e2; omega
      rw [decide_eq_true this]
      rfl
  | cons x a ih =>
    intro b pre pre' h1 h2 h3
    have e1 : l.length = pre.length + (a.length + 1) := by rw [h1, List.length_append, List.length_cons]
    have e2 : m.length = pre.length + b.length := by rw [h2, List.length_append]; omega
    have c1 : (pre.length : Int) < (l.length : Int) := by omega
    cases b with
    | nil =>
      have c2 : ¬ (pre.length : Int) < (m.length : Int) := by simp at e2; omega
      have c3 : ¬ (l.length : Int) < (m.length : Int) := by simp at e2; omega
      refine Ev.step (f := fun k => laws_vBefore.j1 k l m (pre.length : Int) false) (fun k => by simp only [laws_vBefore.l0]; rw [if_pos c1, decide_eq_false c2]) ?_
      refine Ev.step (f := fun _ => some (decide ((l.length : Int) < (m.length : Int)))) (fun k => by simp only [laws_vBefore.j1, Bool.false_eq_true, if_false]) (Ev.is ?_)
      rw [decide_eq_false c3]
      rfl
    | cons y b =>
      have c2 : (pre.length : Int) < (m.length : Int) := by simp at e2; omega
      have r1 : rd l (pre.length : Int) = x := by rw [h1]; exact rd_app pre x a
      have r2 : rd m (pre.length : Int) = y := by rw [h2, h3]; exact rd_app pre' y b
      have c0 : (0 : Int) ≤ (pre.length : Int) := by omega
      refine Ev.step (f := fun k => laws_vBefore.j1 k l m (pre.length : Int) true) (fun k => by simp only [laws_vBefore.l0]; rw [if_pos c1, decide_eq_true c2]) ?_
      by_cases hxy : x = y
      · subst hxy
        have hr := ih b (pre ++ [x]) (pre' ++ [x]) (by rw [h1]; simp) (by rw [h2]; simp) (by simp [h3])
        rw [List.length_append, List.length_singleton] at hr
        have hc : cmpL (x :: a) (x :: b) = cmpL a b := by simp [cmpL]
        rw [hc]
        refine Ev.step (fun k => ?_) hr
        simp only [laws_vBefore.j1, if_true, c0, c1, c2, r1, r2]
        rw [w64_succ (n := l.length) (by omega) hl]
      · refine Ev.step (f := fun _ => some (decide (x < y))) (fun k => ?_) (Ev.is ?_)
        · simp only [laws_vBefore.j1, if_true, c0, c1, c2, r1, r2]
          rw [if_neg hxy]
        · congr 1
          have : (x < y) ↔ cmpL (x :: a) (y :: b) < 0 := by
            unfold cmpL
            split <;> (try split) <;> omega
          exact decide_eq_decide.2 this
theorem vBefore_ev (l m : List Int) (hl : l.length ≤ 4611686018427387904) : Ev (fun k => laws_vBefore.f k l m) (decide (cmpL l m < 0)) := vBefore_loop l m hl l m [] [] rfl rfl rfl
theorem spec_BranchesOf_ev (l : List Int) (a b : Int) (hn : l.length ≤ 4611686018427387904) : Ev (fun k => spec_BranchesOf.f k l a b) (brAll l a b) := by
  unfold spec_BranchesOf.f brAll huSol
  refine Ev.bind0 (huGiven_is a b) ?_
  cases hg : huGv a b with
  | false =>
    simp only [Bool.false_eq_true, if_false, Bool.false_and]
    exact Ev.is rfl
  | true =>
    simp only [if_true, Bool.true_and]
    refine Ev.bind (huGood_ev l a b hg hn) ?_
    cases hs : huIs l a b with
    | false =>
      simp only [Bool.false_eq_true, if_false]
      exact Ev.is rfl
    | true =>
      simp only [if_true]
      exact Ev.bind (branches_both hg hs).2 (Ev.is rfl)
theorem su_sm (l : List Int) : su l = sm l := by
  induction l with
  | nil => rfl
  | cons x l ih => simp only [su, sm, ih]
theorem rdL1_at {W : List (List Int)} (i : Nat) (hi : i < W.length) : rd_L1 W (i : Int) = W[i] := by
  unfold rd_L1
  rw [Int.toNat_natCast, List.getD_eq_getElem?_getD, List.getElem?_eq_getElem hi]
  rfl
/-- The draw of a solution and a word. -/
theorem draw_word (code : List Int) (hc : Bytes code) (l : List Int) (a b : Int) (hl : l.length ≤ 4) (d : Nat) : ∀ (w : List Int) (at_ seed : Int), w.length + d ≤ 40 → 0 ≤ at_ → at_ + 2 * (d : Int) ≤ 10000000 →
    ∃ w', w'.length ≤ 50 ∧ Ev (fun k => spec_DrawClimbHurwitz.l0 k l a b w (d : Int) code at_ seed) (l, a, b, w') := by
  induction d with
  | zero =>
    intro w at_ seed h1 h0 ha
    obtain ⟨v, a1, s1, e1, v0, v1, v2, v3⟩ := pick_ok code hc at_ seed 14 h0 (by omega) (by omega)
    have c1 : ¬ ((0 : Nat) : Int) > 0 := by omega
    have cw : w.length < 17592186044416 := by omega
    by_cases hv0 : v = 0
    · obtain ⟨y, a2, s2, e2, hm, _, _⟩ := among_ok code hc a1 s1 [(-1), 3, 4] (by omega) (by omega) (by decide) (by decide)
      refine ⟨w ++ [y], by rw [List.length_append, List.length_singleton]; omega, Ev.step (f := fun _ => some (l, a, b, w ++ [y])) (fun k => ?_) (Ev.is rfl)⟩
      simp only [spec_DrawClimbHurwitz.l0, c1, if_false, e1, Option.bind_some, hv0, if_true, e2, cw]
    · by_cases hv1 : v = 1
      · obtain ⟨y, a2, s2, e2, y0, y1, _, _⟩ := pick_ok code hc a1 s1 2 (by omega) (by omega) (by omega)
        have hy := y1 (by omega)
        have w1 : wrap64 (40 + y) = 40 + y := w64 (by omega) (by omega)
        have c2 : 0 ≤ 40 + y := by omega
        have c3 : (40 + y).toNat ≤ 35184372088832 := by omega
        have n1 : ¬ (1 : Int) = 0 := by decide
        refine ⟨List.replicate (40 + y).toNat 0, by rw [List.length_replicate]; omega, Ev.step (f := fun _ => some (l, a, b, List.replicate (40 + y).toNat 0)) (fun k => ?_) (Ev.is rfl)⟩
        simp only [spec_DrawClimbHurwitz.l0, c1, if_false, e1, Option.bind_some, hv1, n1, if_true, e2, w1, c2, c3]
      · refine ⟨w, by omega, Ev.step (f := fun _ => some (l, a, b, w)) (fun k => ?_) (Ev.is rfl)⟩
        simp only [spec_DrawClimbHurwitz.l0, c1, if_false, e1, Option.bind_some, hv0, hv1]
  | succ d ih =>
    intro w at_ seed h1 h0 ha
    obtain ⟨n, hn, hn1⟩ : ∃ n, spec_l1Most.f 1 (l.length : Int) = some n ∧ n ≤ 1000 := by
      unfold spec_l1Most.f
      split
      · exact ⟨_, rfl, by omega⟩
      · exact ⟨_, rfl, by omega⟩
    obtain ⟨v, a1, s1, e1, v0, v1, v2, v3⟩ := pick_ok code hc at_ seed n h0 (by omega) (by omega)
    obtain ⟨w', hw, hr⟩ := ih (w ++ [v]) a1 s1 (by rw [List.length_append, List.length_singleton]; omega) (by omega) (by omega)
    have c1 : ((d + 1 : Nat) : Int) > 0 := by omega
    have cw : w.length < 17592186044416 := by omega
    have w1 : wrap64 (((d + 1 : Nat) : Int) - 1) = (d : Int) := by rw [w64 (by omega) (by omega)]; omega
    refine ⟨w', hw, Ev.step (fun k => ?_) hr⟩
    simp only [spec_DrawClimbHurwitz.l0, c1, if_true, hn, e1, Option.bind_some, cw, w1]
theorem draw_ok (code : List Int) (hc : Bytes code) : ∃ l a b w, Four l ∧ w.length ≤ 50 ∧ Ev (fun k => spec_DrawClimbHurwitz.f k code) (l, a, b, w) := by
  obtain ⟨l, a, b, at1, s1, e1, hl, ha1, ha2⟩ := hurwitz_ok code hc 0 0 (by decide) (by decide)
  have hl2 := hl.2
  obtain ⟨v, a2, s2, e2, v0, v1, v2, v3⟩ := pick_ok code hc at1 s1 6 ha1 (by omega) (by omega)
  have hv := v1 (by omega)
  obtain ⟨n, rfl⟩ := Int.eq_ofNat_of_zero_le v0
  obtain ⟨w, hw, hr⟩ := draw_word code hc l a b hl2 n [] a2 s2 (by simp; omega) (by omega) (by omega)
  unfold spec_DrawClimbHurwitz.f
  refine ⟨l, a, b, w, hl, hw, Ev.bind e1 ?_⟩
  simp only [e2, Option.bind_some]
  exact hr
/-- The branches. -/
theorem br_one {l : List Int} {c d : Int} (hg : huGv c d = true) (h : huIs l c d = true) (u : List Int) (hm : u ∈ brs l c) : huSol u c d = true ∧ Ev (fun k => laws_vSum.f k u) (sm u) ∧ sm l < sm u ∧ u.length ≤ 4 := by
  obtain ⟨j, hj, hin, hup, hu⟩ := (brs_mem l c u).1 hm
  have hsol := jmp_is hj h hin
  have hsum := jmp_sum (l := l) (a := c) (i := j) hj
  rw [su_sm, su_sm] at hsum
  rw [← hu] at hsol hsum
  obtain ⟨u1, u2, u3, u4⟩ := huIs_iff.1 hsol
  refine ⟨huSol_iff.2 ⟨hg, hsol⟩, vSum_ev u u2 (Nat.le_trans u1.2 (by decide)), ?_, u1.2⟩
  clear u1 u2 u3 u4 hsol hm hu h hg
  omega
theorem br_loop {l : List Int} {c d : Int} (hg : huGv c d = true) (h : huIs l c d = true) (n : Nat) : ∀ i : Nat, i + n = (brs l c).length → Ev (fun k => laws_FnClimbsOfHurwitz.l1 k l c d (brs l c) (brs l c) ((brs l c).length : Int) (i : Int)) true := by
  obtain ⟨h1, h2, h3, h4⟩ := huIs_iff.1 h
  have hbl := brs_length l c
  have hbl4 : (brs l c).length ≤ 4 := Nat.le_trans hbl h1.2
  clear h3 h4 hbl
  induction n with
  | zero =>
    intro i hi
    exact Ev.step (f := fun _ => some true) (fun k => by simp only [laws_FnClimbsOfHurwitz.l1]; rw [if_neg (by omega)]) (Ev.is rfl)
  | succ n ih =>
    intro i hi
    have hil : i < (brs l c).length := by omega
    have hr := ih (i + 1) (by omega)
    have g := rdL1_at i hil
    obtain ⟨hS, e2, hsum, hl4⟩ := br_one hg h (brs l c)[i] (List.getElem_mem hil)
    have e1 := vSolves_ev (brs l c)[i] c d
    rw [hS] at e1
    have e3 := vSum_ev l h2 (Nat.le_trans h1.2 (by decide))
    have w1 : wrap64 ((i : Int) + 1) = ((i + 1 : Nat) : Int) := w64_succ hil (by omega)
    have c1 : (i : Int) < ((brs l c).length : Int) := by omega
    have c2 : (0 : Int) ≤ (i : Int) := by omega
    have c3 : ¬ sm (brs l c)[i] ≤ sm l := Int.not_le.2 hsum
    refine Ev.step (fun k => by simp only [laws_FnClimbsOfHurwitz.l1, c1, c2, if_true, g, w1]; rfl) (Ev.bind e1 ?_)
    simp only [if_true]
    refine Ev.bind e2 (Ev.bind e3 ?_)
    simp only [c3, if_false]
    cases i with
    | zero =>
      have c4 : ¬ ((0 : Nat) : Int) > 0 := by omega
      simp only [c4, if_false]
      exact hr
    | succ i =>
      have c4 : ((i + 1 : Nat) : Int) > 0 := by omega
      have w2 : wrap64 (((i + 1 : Nat) : Int) - 1) = (i : Int) := by rw [w64 (by omega) (by omega)]; omega
      have c5 : (0 : Int) ≤ (i : Int) := by omega
      have c6 : (i : Int) < ((brs l c).length : Int) := by omega
      have g2 := rdL1_at (W := brs l c) i (by omega)
      have hsrt : (brs l c).Pairwise fun a b => cmpL a b < 0 := sortDedup_sorted _
      have hlt : cmpL (brs l c)[i] (brs l c)[i + 1] < 0 := List.pairwise_iff_getElem.1 hsrt i (i + 1) (by omega) hil (by omega)
      have hbl2 : (brs l c)[i].length ≤ 4611686018427387904 := Nat.le_trans (br_one hg h (brs l c)[i] (List.getElem_mem (by omega))).2.2.2 (by decide)
      have e4 := vBefore_ev (brs l c)[i] (brs l c)[i + 1] hbl2
      rw [decide_eq_true hlt] at e4
      simp only [c4, w2, c5, c6, if_true, g2]
      refine Ev.bind e4 ?_
      simp only [if_true]
      exact hr
theorem br_part (l1 : List Int) (hc : Bytes l1) : Ev (fun k => laws_FnClimbsOfHurwitz.j2 k l1) true := by
  obtain ⟨l, c, d, at1, s1, e1, hl, _, _⟩ := hurwitz_ok l1 hc 0 0 (by decide) (by decide)
  have hl2 := hl.2
  have hD : Ev (fun k => spec_DrawBranchesOf.f k l1) (l, c, d) := by
    unfold spec_DrawBranchesOf.f spec_DrawIsHurwitz.f
    exact Ev.bind (a := (l, c, d)) (Ev.bind e1 (Ev.is rfl)) (Ev.is rfl)
  clear e1
  have hsm : (brAll l c d).1.length ≤ 1000000000 ∧ ∀ x ∈ (brAll l c d).1, x.length ≤ 1000000 := by
    unfold brAll
    cases hs : huSol l c d with
    | false => simp
    | true =>
      simp only [if_true]
      have h2 := brs_length l c
      refine ⟨by omega, fun x hx => ?_⟩
      obtain ⟨j, _, _, _, hu⟩ := (brs_mem l c x).1 hx
      rw [hu, jmp_length]
      omega
  refine Ev.step (fun k => by simp only [laws_FnClimbsOfHurwitz.j2]; rfl) (Ev.bind hD (Ev.bind (BranchesOf_ev l c d) (Ev.bind (spec_BranchesOf_ev l c d (by omega)) ?_)))
  simp only [bne_self_eq_false, Bool.false_eq_true, if_false]
  refine Ev.bind (vSameLists_ev _ hsm.1 hsm.2) ?_
  refine Ev.step (f := fun k => laws_FnClimbsOfHurwitz.l1 k l c d (brAll l c d).1 (brAll l c d).1 ((brAll l c d).1.length : Int) ((0 : Nat) : Int)) (fun k => by simp only [laws_FnClimbsOfHurwitz.j3, Bool.not_true, Bool.false_eq_true, if_false]; rfl) ?_
  unfold brAll
  cases hs : huSol l c d with
  | false =>
    simp only [Bool.false_eq_true, if_false]
    exact Ev.step (f := fun _ => some true) (fun k => by simp only [laws_FnClimbsOfHurwitz.l1]; rw [if_neg (by simp)]) (Ev.is rfl)
  | true =>
    obtain ⟨hg, h⟩ := huSol_iff.1 hs
    simp only [if_true]
    exact br_loop hg h (brs l c).length 0 (by omega)
theorem climb_loop (x1 l : List Int) (a b : Int) (e word : List Int) (hn : word.length ≤ 1000000) (hj2 : Ev (fun k => laws_FnClimbsOfHurwitz.j2 k x1) true) (hs : huSol l a b = true) (hf : b = 0 → fundOf e a b = fundOf l a b) (hg : huGv a b = true) (n : Nat) :
    ∀ (i : Nat) (now : List Int), i + n = word.length → huIs now a b = true → (∀ x ∈ word, 0 ≤ x ∧ x ≤ (now.length : Int) - 1) → climb a now (word.drop i) = (e, true) →
    Ev (fun k => laws_FnClimbsOfHurwitz.l0 k x1 l a b e now word (word.length : Int) (i : Int)) true := by
  induction n with
  | zero =>
    intro i now hi hnow hw hcl
    rw [List.drop_eq_nil_of_le (by omega)] at hcl
    simp only [climb, Prod.mk.injEq, and_true] at hcl
    subst hcl
    have c1 : ¬ (i : Int) < (word.length : Int) := by omega
    have hlen := (huIs_iff.1 hnow).1
    have hse : huSol now a b = true := huSol_iff.2 ⟨hg, hnow⟩
    have f1 : (fundOf l a b).2 = true := by unfold fundOf; rw [hs]; rfl
    have f2 : (fundOf now a b).2 = true := by unfold fundOf; rw [hse]; rfl
    have fl := fund_length l a b
    refine Ev.step (fun k => by simp only [laws_FnClimbsOfHurwitz.l0, c1, if_false]; rfl) (Ev.bind (FundamentalOf_ev l a b) (Ev.bind (FundamentalOf_ev now a b) (Ev.bind (vSame_ev now (by omega)) ?_)))
    simp only [f1, f2, if_true]
    by_cases hb : b = 0
    · rw [hf hb]
      simp only [hb, if_true]
      have := vSame_ev (fundOf l a 0).1 (by have := fund_length l a 0; omega)
      refine Ev.bind this ?_
      simp only [if_true]
      exact hj2
    · simp only [hb, if_false]
      exact hj2
  | succ n ih =>
    intro i now hi hnow hw hcl
    have hil : i < word.length := by omega
    have c1 : (i : Int) < (word.length : Int) := by omega
    have c2 : (0 : Int) ≤ (i : Int) := by omega
    have w1 : wrap64 ((i : Int) + 1) = ((i + 1 : Nat) : Int) := w64_succ hil (by omega)
    have hx := hw _ (rd_mem (l := word) (i := i) hil)
    rw [rd_drop word i hil, climb] at hcl
    have hlt : (rd word (i : Int)).toNat < now.length := by omega
    have hJ := impl_JumpAt_ev now a b (rd word (i : Int))
    have hJe : jumpAt now a b (rd word (i : Int)) = jumpOf now a (rd word (i : Int)).toNat := by
      unfold jumpAt
      rw [huSol_iff.2 ⟨hg, hnow⟩, decide_eq_true (show (0 : Int) ≤ rd word (i : Int) ∧ rd word (i : Int) < (now.length : Int) from ⟨by omega, by omega⟩)]
      rfl
    rw [hJe] at hJ
    cases hj : (jumpOf now a (rd word (i : Int)).toNat).2 with
    | false => rw [hj] at hcl; simp at hcl
    | true =>
      rw [hj] at hcl
      simp only [if_true] at hcl
      have hh := jumpOf_is hlt hnow hj
      have hr := ih (i + 1) _ (by omega) hh.1 (fun y hy => by rw [hh.2]; exact hw y hy) hcl
      refine Ev.step (fun k => by simp only [laws_FnClimbsOfHurwitz.l0, c1, c2, if_true, w1]; rfl) (Ev.bind hJ ?_)
      simp only [hj, if_true]
      exact hr
theorem FnClimbsOfHurwitz : laws_FnClimbsOfHurwitz.Pure := by
  intro l0 l1 _ _ hb _ _ hb1
  refine Ev.rounds ?_
  unfold laws_FnClimbsOfHurwitz.f
  cases hbig : laws_big.f l0 l1 with
  | none => exact absurd hbig (by unfold laws_big.f; split <;> simp)
  | some t =>
    cases t with
    | true =>
      simp only [Option.bind_some, if_true]
      exact Ev.is rfl
    | false =>
      simp only [Option.bind_some, Bool.false_eq_true, if_false]
      have hj2 := br_part l1 (bytes_of_u8 hb1)
      obtain ⟨l, a, b, w, hl, hw, hD⟩ := draw_ok l0 (bytes_of_u8 hb)
      have hl2 := hl.2
      obtain ⟨m1, m2⟩ := climb_both l a b w (by omega) (by omega)
      have hsame : Ev (fun k => laws_vSame.f k (climbOf l a b w).1 (climbOf l a b w).1) true := by
        refine vSame_ev _ ?_
        unfold climbOf
        split
        · rename_i hc
          simp only [Bool.and_eq_true] at hc
          have := climb_length w l (huSol_iff.1 hc.1).2 (all_iff.1 hc.2.2)
          omega
        · simp
      refine Ev.bind hD (Ev.bind m1 (Ev.bind m2 ?_))
      simp only [bne_self_eq_false, Bool.false_eq_true, if_false]
      refine Ev.bind hsame ?_
      cases hok : (climbOf l a b w).2 with
      | false =>
        exact Ev.step (fun k => by simp only [laws_FnClimbsOfHurwitz.j0, Bool.not_true, Bool.false_eq_true, if_false]) hj2
      | true =>
        have he : climbOf l a b w = ((climbOf l a b w).1, true) := by rw [← hok]
        generalize (climbOf l a b w).1 = e at *
        unfold climbOf at he
        split at he
        · rename_i hc
          simp only [Bool.and_eq_true] at hc
          obtain ⟨hg, h⟩ := huSol_iff.1 hc.1
          have hwr := all_iff.1 hc.2.2
          refine Ev.step (f := fun k => laws_FnClimbsOfHurwitz.l0 k l1 l a b e l w (w.length : Int) ((0 : Nat) : Int)) (fun k => by simp only [laws_FnClimbsOfHurwitz.j0, Bool.not_true, Bool.false_eq_true, if_false, if_true]; rfl) ?_
          refine climb_loop l1 l a b e w (by omega) hj2 hc.1 (fun hb0 => ?_) hg w.length 0 l (by omega) h hwr (by rw [List.drop_zero]; exact he)
          subst hb0
          exact fund_climb hg w l e h hwr he
        · simp at he
end Go.Proofs.Ytgpoljimomfbbaa.Pure
