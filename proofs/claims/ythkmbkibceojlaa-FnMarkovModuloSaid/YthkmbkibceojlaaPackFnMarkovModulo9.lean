/- Moves modulo a prime number are undone by themselves, and by moves all triples modulo it are got from 1 1 1. No condition. -/
import Derived.Test.YthkmbkibceojlaaPackFnMarkovModulo8
-- PFFnMarkovModulo
namespace Go.Proofs.Ythkmbkibceojlaa.P
open Go.RowKit Go.Proofs.YthkmbkibceojlaaW.PrintWords Go.Proofs.YthkmbkibceojlaaW.PrintLast
set_option linter.unusedVariables false
set_option linter.unusedSimpArgs false

/-! ### laws_FnMarkovModulo: function 11 -/
mutual
def laws_FnMarkovModulo.j0 : Nat → List Int → Int → List Int → Int → List Int → Bool → Bool → Option (Bool)
 | 0, _, _, _, _, _, _, _ => none
 | k + 1, x1, x5, x6, x7, x8, x9, x61 => if x61 = true then (some false) else (if x9 = true then ((impl_ModMove.f k x5 x8 x7).bind fun bt598 => (if bt598.2 = true then ((laws_dSame.f k bt598.1 x6).bind fun t602 => (if t602 = true then (laws_FnMarkovModulo.j1 k x1) else (some false))) else (some false))) else (laws_FnMarkovModulo.j1 k x1))
def laws_FnMarkovModulo.j1 : Nat → List Int → Option (Bool)
 | 0, _ => none
 | k + 1, x1 => (spec_DrawModOrbit.f k x1).bind fun bt603 => ((impl_ModOrbit.f k bt603.1 bt603.2).bind fun bt607 => ((spec_ModOrbit.f k bt603.1 bt603.2).bind fun bt611 => ((impl_ModCount.f k bt603.1).bind fun bt615 => (if (bt607.2 != bt611.2) = true then (laws_FnMarkovModulo.j2 k x1 bt603.2 bt607.1 bt607.2 bt615.1 true) else ((laws_dLists.f k bt607.1 bt611.1).bind fun t617 => (if t617 = true then (if bt607.2 = true then (laws_FnMarkovModulo.j2 k x1 bt603.2 bt607.1 bt607.2 bt615.1 (!bt615.2)) else (laws_FnMarkovModulo.j2 k x1 bt603.2 bt607.1 bt607.2 bt615.1 false)) else (laws_FnMarkovModulo.j2 k x1 bt603.2 bt607.1 bt607.2 bt615.1 true)))))))
def laws_FnMarkovModulo.j2 : Nat → List Int → List Int → List (List Int) → Bool → Int → Bool → Option (Bool)
 | 0, _, _, _, _, _, _ => none
 | k + 1, x1, x15, x16, x17, x20, x115 => if x115 = true then (some false) else (if x17 = true then (if (x16.length : Int) = x20 then (laws_FnMarkovModulo.l0 k x1 x15 x16 false x16 (x16.length : Int) 0) else (some false)) else (laws_FnMarkovModulo.j4 k x1))
def laws_FnMarkovModulo.j4 : Nat → List Int → Option (Bool)
 | 0, _ => none
 | k + 1, x1 => (spec_DrawModCount.f x1).bind fun t624 => ((impl_ModCount.f k t624).bind fun bt625 => ((spec_ModCount.f k t624).bind fun bt627 => (if (bt625.2 != bt627.2) = true then (laws_FnMarkovModulo.j5 k t624 bt625.1 bt625.2 true) else (laws_FnMarkovModulo.j5 k t624 bt625.1 bt625.2 (bt625.1 != bt627.1)))))
def laws_FnMarkovModulo.j5 : Nat → Int → Int → Bool → Bool → Option (Bool)
 | 0, _, _, _, _ => none
 | k + 1, x25, x26, x27, x168 => if x168 = true then (some false) else (if x27 = true then (laws_FnMarkovModulo.j6 k x25 x26 (decide (x25 > 3))) else (laws_FnMarkovModulo.j6 k x25 x26 false))
def laws_FnMarkovModulo.j6 : Nat → Int → Int → Bool → Option (Bool)
 | 0, _, _, _ => none
 | k + 1, x25, x26, x173 => if x173 = true then (if (Int.tmod x25 4) = 1 then (some (x26 == (wrap64 (x25 * (wrap64 (x25 + 3)))))) else (some (x26 == (wrap64 (x25 * (wrap64 (x25 - 3))))))) else (some true)
def laws_FnMarkovModulo.l0 : Nat → List Int → List Int → List (List Int) → Bool → List (List Int) → Int → Int → Option (Bool)
 | 0, _, _, _, _, _, _, _ => none
 | k + 1, x1, x15, x16, x22, x121, x122, x123 => if x123 < x122 then (if 0 ≤ x123 then (if x123 < (x121.length : Int) then (if x22 = true then (if x123 > 0 then (if 0 ≤ (wrap64 (x123 - 1)) then (if (wrap64 (x123 - 1)) < (x16.length : Int) then ((laws_dLess.f k (rd_L1 x16 (wrap64 (x123 - 1))) (rd_L1 x121 x123)).bind fun t620 => (if t620 = true then (laws_FnMarkovModulo.l0 k x1 x15 x16 true x121 x122 (wrap64 (x123 + 1))) else (some false))) else (none)) else (none)) else (laws_FnMarkovModulo.l0 k x1 x15 x16 true x121 x122 (wrap64 (x123 + 1)))) else ((laws_dSame.f k (rd_L1 x121 x123) x15).bind fun t621 => (if x123 > 0 then (if 0 ≤ (wrap64 (x123 - 1)) then (if (wrap64 (x123 - 1)) < (x16.length : Int) then ((laws_dLess.f k (rd_L1 x16 (wrap64 (x123 - 1))) (rd_L1 x121 x123)).bind fun t623 => (if t623 = true then (laws_FnMarkovModulo.l0 k x1 x15 x16 t621 x121 x122 (wrap64 (x123 + 1))) else (some false))) else (none)) else (none)) else (laws_FnMarkovModulo.l0 k x1 x15 x16 t621 x121 x122 (wrap64 (x123 + 1)))))) else (none)) else (none)) else (if x22 = true then (laws_FnMarkovModulo.j4 k x1) else (some false))
end
def laws_FnMarkovModulo.f (k : Nat) (l0 : List Int) (l1 : List Int) : Option (Bool) := (laws_big.f l0 l1).bind fun t583 => (if t583 = true then (some true) else ((spec_DrawModMove.f k l0).bind fun bt584 => ((impl_ModMove.f k bt584.1 bt584.2.1 bt584.2.2).bind fun bt589 => ((spec_ModMove.f k bt584.1 bt584.2.1 bt584.2.2).bind fun bt593 => (if (bt589.2 != bt593.2) = true then (laws_FnMarkovModulo.j0 k l1 bt584.1 bt584.2.1 bt584.2.2 bt589.1 bt589.2 true) else ((laws_dSame.f k bt589.1 bt593.1).bind fun t597 => (laws_FnMarkovModulo.j0 k l1 bt584.1 bt584.2.1 bt584.2.2 bt589.1 bt589.2 (!t597))))))))
theorem laws_FnMarkovModulo.mono_l : ∀ k, (∀ y0 y1 y2 y3 y4 y5 y6, LeO (laws_FnMarkovModulo.j0 k y0 y1 y2 y3 y4 y5 y6) (laws_FnMarkovModulo.j0 (k + 1) y0 y1 y2 y3 y4 y5 y6)) ∧ (∀ y0, LeO (laws_FnMarkovModulo.j1 k y0) (laws_FnMarkovModulo.j1 (k + 1) y0)) ∧ (∀ y0 y1 y2 y3 y4 y5, LeO (laws_FnMarkovModulo.j2 k y0 y1 y2 y3 y4 y5) (laws_FnMarkovModulo.j2 (k + 1) y0 y1 y2 y3 y4 y5)) ∧ (∀ y0, LeO (laws_FnMarkovModulo.j4 k y0) (laws_FnMarkovModulo.j4 (k + 1) y0)) ∧ (∀ y0 y1 y2 y3, LeO (laws_FnMarkovModulo.j5 k y0 y1 y2 y3) (laws_FnMarkovModulo.j5 (k + 1) y0 y1 y2 y3)) ∧ (∀ y0 y1 y2, LeO (laws_FnMarkovModulo.j6 k y0 y1 y2) (laws_FnMarkovModulo.j6 (k + 1) y0 y1 y2)) ∧ (∀ y0 y1 y2 y3 y4 y5 y6, LeO (laws_FnMarkovModulo.l0 k y0 y1 y2 y3 y4 y5 y6) (laws_FnMarkovModulo.l0 (k + 1) y0 y1 y2 y3 y4 y5 y6))
 | 0 => ⟨fun _ _ _ _ _ _ _ r h => by simp [laws_FnMarkovModulo.j0] at h, fun _ r h => by simp [laws_FnMarkovModulo.j1] at h, fun _ _ _ _ _ _ r h => by simp [laws_FnMarkovModulo.j2] at h, fun _ r h => by simp [laws_FnMarkovModulo.j4] at h, fun _ _ _ _ r h => by simp [laws_FnMarkovModulo.j5] at h, fun _ _ _ r h => by simp [laws_FnMarkovModulo.j6] at h, fun _ _ _ _ _ _ _ r h => by simp [laws_FnMarkovModulo.l0] at h⟩
 | k + 1 => by
  obtain ⟨ih0, ih1, ih2, ih3, ih4, ih5, ih6⟩ := laws_FnMarkovModulo.mono_l k
  refine ⟨?_, ?_, ?_, ?_, ?_, ?_, ?_⟩
  ·intro y0 y1 y2 y3 y4 y5 y6
   unfold laws_FnMarkovModulo.j0
   repeat' first
   | (with_reducible exact ih0 _ _ _ _ _ _ _)
   | (with_reducible exact ih1 _)
   | (with_reducible exact ih2 _ _ _ _ _ _)
   | (with_reducible exact ih3 _)
   | (with_reducible exact ih4 _ _ _ _)
   | (with_reducible exact ih5 _ _ _)
   | (with_reducible exact ih6 _ _ _ _ _ _ _)
   | (with_reducible exact impl_ModCount.mono _ _)
   | (with_reducible exact impl_ModMove.mono _ _ _ _)
   | (with_reducible exact impl_ModOrbit.mono _ _ _)
   | (with_reducible exact laws_dLess.mono _ _ _)
   | (with_reducible exact laws_dLists.mono _ _ _)
   | (with_reducible exact laws_dSame.mono _ _ _)
   | (with_reducible exact spec_DrawModMove.mono _ _)
   | (with_reducible exact spec_DrawModOrbit.mono _ _)
   | (with_reducible exact spec_ModCount.mono _ _)
   | (with_reducible exact spec_ModMove.mono _ _ _ _)
   | (with_reducible exact spec_ModOrbit.mono _ _ _)
   | (with_reducible exact LeO.refl _)
   | (with_reducible exact LeO.none _)
   | (with_reducible refine LeO.ite ?_ ?_)
   | (with_reducible refine LeO.bind ?_ (fun _ => ?_))
   | exact ih0 _ _ _ _ _ _ _
   | exact ih1 _
   | exact ih2 _ _ _ _ _ _
   | exact ih3 _
   | exact ih4 _ _ _ _
   | exact ih5 _ _ _
   | exact ih6 _ _ _ _ _ _ _
   | exact impl_ModCount.mono _ _
   | exact impl_ModMove.mono _ _ _ _
   | exact impl_ModOrbit.mono _ _ _
   | exact laws_dLess.mono _ _ _
   | exact laws_dLists.mono _ _ _
   | exact laws_dSame.mono _ _ _
   | exact spec_DrawModMove.mono _ _
   | exact spec_DrawModOrbit.mono _ _
   | exact spec_ModCount.mono _ _
   | exact spec_ModMove.mono _ _ _ _
   | exact spec_ModOrbit.mono _ _ _
   | exact LeO.none _
   | refine LeO.ite ?_ ?_
   | refine LeO.bind ?_ (fun _ => ?_)
  ·intro y0
   unfold laws_FnMarkovModulo.j1
   repeat' first
   | (with_reducible exact ih0 _ _ _ _ _ _ _)
   | (with_reducible exact ih1 _)
   | (with_reducible exact ih2 _ _ _ _ _ _)
   | (with_reducible exact ih3 _)
   | (with_reducible exact ih4 _ _ _ _)
   | (with_reducible exact ih5 _ _ _)
   | (with_reducible exact ih6 _ _ _ _ _ _ _)
   | (with_reducible exact impl_ModCount.mono _ _)
   | (with_reducible exact impl_ModMove.mono _ _ _ _)
   | (with_reducible exact impl_ModOrbit.mono _ _ _)
   | (with_reducible exact laws_dLess.mono _ _ _)
   | (with_reducible exact laws_dLists.mono _ _ _)
   | (with_reducible exact laws_dSame.mono _ _ _)
   | (with_reducible exact spec_DrawModMove.mono _ _)
   | (with_reducible exact spec_DrawModOrbit.mono _ _)
   | (with_reducible exact spec_ModCount.mono _ _)
   | (with_reducible exact spec_ModMove.mono _ _ _ _)
   | (with_reducible exact spec_ModOrbit.mono _ _ _)
   | (with_reducible exact LeO.refl _)
   | (with_reducible exact LeO.none _)
   | (with_reducible refine LeO.ite ?_ ?_)
   | (with_reducible refine LeO.bind ?_ (fun _ => ?_))
   | exact ih0 _ _ _ _ _ _ _
   | exact ih1 _
   | exact ih2 _ _ _ _ _ _
   | exact ih3 _
   | exact ih4 _ _ _ _
   | exact ih5 _ _ _
   | exact ih6 _ _ _ _ _ _ _
   | exact impl_ModCount.mono _ _
   | exact impl_ModMove.mono _ _ _ _
   | exact impl_ModOrbit.mono _ _ _
   | exact laws_dLess.mono _ _ _
   | exact laws_dLists.mono _ _ _
   | exact laws_dSame.mono _ _ _
   | exact spec_DrawModMove.mono _ _
   | exact spec_DrawModOrbit.mono _ _
   | exact spec_ModCount.mono _ _
   | exact spec_ModMove.mono _ _ _ _
   | exact spec_ModOrbit.mono _ _ _
   | exact LeO.none _
   | refine LeO.ite ?_ ?_
   | refine LeO.bind ?_ (fun _ => ?_)
  ·intro y0 y1 y2 y3 y4 y5
   unfold laws_FnMarkovModulo.j2
   repeat' first
   | (with_reducible exact ih0 _ _ _ _ _ _ _)
   | (with_reducible exact ih1 _)
   | (with_reducible exact ih2 _ _ _ _ _ _)
   | (with_reducible exact ih3 _)
   | (with_reducible exact ih4 _ _ _ _)
   | (with_reducible exact ih5 _ _ _)
   | (with_reducible exact ih6 _ _ _ _ _ _ _)
   | (with_reducible exact impl_ModCount.mono _ _)
   | (with_reducible exact impl_ModMove.mono _ _ _ _)
   | (with_reducible exact impl_ModOrbit.mono _ _ _)
   | (with_reducible exact laws_dLess.mono _ _ _)
   | (with_reducible exact laws_dLists.mono _ _ _)
   | (with_reducible exact laws_dSame.mono _ _ _)
   | (with_reducible exact spec_DrawModMove.mono _ _)
   | (with_reducible exact spec_DrawModOrbit.mono _ _)
   | (with_reducible exact spec_ModCount.mono _ _)
   | (with_reducible exact spec_ModMove.mono _ _ _ _)
   | (with_reducible exact spec_ModOrbit.mono _ _ _)
   | (with_reducible exact LeO.refl _)
   | (with_reducible exact LeO.none _)
   | (with_reducible refine LeO.ite ?_ ?_)
   | (with_reducible refine LeO.bind ?_ (fun _ => ?_))
   | exact ih0 _ _ _ _ _ _ _
   | exact ih1 _
   | exact ih2 _ _ _ _ _ _
   | exact ih3 _
   | exact ih4 _ _ _ _
   | exact ih5 _ _ _
   | exact ih6 _ _ _ _ _ _ _
   | exact impl_ModCount.mono _ _
   | exact impl_ModMove.mono _ _ _ _
   | exact impl_ModOrbit.mono _ _ _
   | exact laws_dLess.mono _ _ _
   | exact laws_dLists.mono _ _ _
   | exact laws_dSame.mono _ _ _
   | exact spec_DrawModMove.mono _ _
   | exact spec_DrawModOrbit.mono _ _
   | exact spec_ModCount.mono _ _
   | exact spec_ModMove.mono _ _ _ _
   | exact spec_ModOrbit.mono _ _ _
   | exact LeO.none _
   | refine LeO.ite ?_ ?_
   | refine LeO.bind ?_ (fun _ => ?_)
  ·intro y0
   unfold laws_FnMarkovModulo.j4
   repeat' first
   | (with_reducible exact ih0 _ _ _ _ _ _ _)
   | (with_reducible exact ih1 _)
   | (with_reducible exact ih2 _ _ _ _ _ _)
   | (with_reducible exact ih3 _)
   | (with_reducible exact ih4 _ _ _ _)
   | (with_reducible exact ih5 _ _ _)
   | (with_reducible exact ih6 _ _ _ _ _ _ _)
   | (with_reducible exact impl_ModCount.mono _ _)
   | (with_reducible exact impl_ModMove.mono _ _ _ _)
   | (with_reducible exact impl_ModOrbit.mono _ _ _)
   | (with_reducible exact laws_dLess.mono _ _ _)
   | (with_reducible exact laws_dLists.mono _ _ _)
   | (with_reducible exact laws_dSame.mono _ _ _)
   | (with_reducible exact spec_DrawModMove.mono _ _)
   | (with_reducible exact spec_DrawModOrbit.mono _ _)
   | (with_reducible exact spec_ModCount.mono _ _)
   | (with_reducible exact spec_ModMove.mono _ _ _ _)
   | (with_reducible exact spec_ModOrbit.mono _ _ _)
   | (with_reducible exact LeO.refl _)
   | (with_reducible exact LeO.none _)
   | (with_reducible refine LeO.ite ?_ ?_)
   | (with_reducible refine LeO.bind ?_ (fun _ => ?_))
   | exact ih0 _ _ _ _ _ _ _
   | exact ih1 _
   | exact ih2 _ _ _ _ _ _
   | exact ih3 _
   | exact ih4 _ _ _ _
   | exact ih5 _ _ _
   | exact ih6 _ _ _ _ _ _ _
   | exact impl_ModCount.mono _ _
   | exact impl_ModMove.mono _ _ _ _
   | exact impl_ModOrbit.mono _ _ _
   | exact laws_dLess.mono _ _ _
   | exact laws_dLists.mono _ _ _
   | exact laws_dSame.mono _ _ _
   | exact spec_DrawModMove.mono _ _
   | exact spec_DrawModOrbit.mono _ _
   | exact spec_ModCount.mono _ _
   | exact spec_ModMove.mono _ _ _ _
   | exact spec_ModOrbit.mono _ _ _
   | exact LeO.none _
   | refine LeO.ite ?_ ?_
   | refine LeO.bind ?_ (fun _ => ?_)
  ·intro y0 y1 y2 y3
   unfold laws_FnMarkovModulo.j5
   repeat' first
   | (with_reducible exact ih0 _ _ _ _ _ _ _)
   | (with_reducible exact ih1 _)
   | (with_reducible exact ih2 _ _ _ _ _ _)
   | (with_reducible exact ih3 _)
   | (with_reducible exact ih4 _ _ _ _)
   | (with_reducible exact ih5 _ _ _)
   | (with_reducible exact ih6 _ _ _ _ _ _ _)
   | (with_reducible exact impl_ModCount.mono _ _)
   | (with_reducible exact impl_ModMove.mono _ _ _ _)
   | (with_reducible exact impl_ModOrbit.mono _ _ _)
   | (with_reducible exact laws_dLess.mono _ _ _)
   | (with_reducible exact laws_dLists.mono _ _ _)
   | (with_reducible exact laws_dSame.mono _ _ _)
   | (with_reducible exact spec_DrawModMove.mono _ _)
   | (with_reducible exact spec_DrawModOrbit.mono _ _)
   | (with_reducible exact spec_ModCount.mono _ _)
   | (with_reducible exact spec_ModMove.mono _ _ _ _)
   | (with_reducible exact spec_ModOrbit.mono _ _ _)
   | (with_reducible exact LeO.refl _)
   | (with_reducible exact LeO.none _)
   | (with_reducible refine LeO.ite ?_ ?_)
   | (with_reducible refine LeO.bind ?_ (fun _ => ?_))
   | exact ih0 _ _ _ _ _ _ _
   | exact ih1 _
   | exact ih2 _ _ _ _ _ _
   | exact ih3 _
   | exact ih4 _ _ _ _
   | exact ih5 _ _ _
   | exact ih6 _ _ _ _ _ _ _
   | exact impl_ModCount.mono _ _
   | exact impl_ModMove.mono _ _ _ _
   | exact impl_ModOrbit.mono _ _ _
   | exact laws_dLess.mono _ _ _
   | exact laws_dLists.mono _ _ _
   | exact laws_dSame.mono _ _ _
   | exact spec_DrawModMove.mono _ _
   | exact spec_DrawModOrbit.mono _ _
   | exact spec_ModCount.mono _ _
   | exact spec_ModMove.mono _ _ _ _
   | exact spec_ModOrbit.mono _ _ _
   | exact LeO.none _
   | refine LeO.ite ?_ ?_
   | refine LeO.bind ?_ (fun _ => ?_)
  ·intro y0 y1 y2
   unfold laws_FnMarkovModulo.j6
   repeat' first
   | (with_reducible exact ih0 _ _ _ _ _ _ _)
   | (with_reducible exact ih1 _)
   | (with_reducible exact ih2 _ _ _ _ _ _)
   | (with_reducible exact ih3 _)
   | (with_reducible exact ih4 _ _ _ _)
   | (with_reducible exact ih5 _ _ _)
   | (with_reducible exact ih6 _ _ _ _ _ _ _)
   | (with_reducible exact impl_ModCount.mono _ _)
   | (with_reducible exact impl_ModMove.mono _ _ _ _)
   | (with_reducible exact impl_ModOrbit.mono _ _ _)
   | (with_reducible exact laws_dLess.mono _ _ _)
   | (with_reducible exact laws_dLists.mono _ _ _)
   | (with_reducible exact laws_dSame.mono _ _ _)
   | (with_reducible exact spec_DrawModMove.mono _ _)
   | (with_reducible exact spec_DrawModOrbit.mono _ _)
   | (with_reducible exact spec_ModCount.mono _ _)
   | (with_reducible exact spec_ModMove.mono _ _ _ _)
   | (with_reducible exact spec_ModOrbit.mono _ _ _)
   | (with_reducible exact LeO.refl _)
   | (with_reducible exact LeO.none _)
   | (with_reducible refine LeO.ite ?_ ?_)
   | (with_reducible refine LeO.bind ?_ (fun _ => ?_))
   | exact ih0 _ _ _ _ _ _ _
   | exact ih1 _
   | exact ih2 _ _ _ _ _ _
   | exact ih3 _
   | exact ih4 _ _ _ _
   | exact ih5 _ _ _
   | exact ih6 _ _ _ _ _ _ _
   | exact impl_ModCount.mono _ _
   | exact impl_ModMove.mono _ _ _ _
   | exact impl_ModOrbit.mono _ _ _
   | exact laws_dLess.mono _ _ _
   | exact laws_dLists.mono _ _ _
   | exact laws_dSame.mono _ _ _
   | exact spec_DrawModMove.mono _ _
   | exact spec_DrawModOrbit.mono _ _
   | exact spec_ModCount.mono _ _
   | exact spec_ModMove.mono _ _ _ _
   | exact spec_ModOrbit.mono _ _ _
   | exact LeO.none _
   | refine LeO.ite ?_ ?_
   | refine LeO.bind ?_ (fun _ => ?_)
  ·intro y0 y1 y2 y3 y4 y5 y6
   unfold laws_FnMarkovModulo.l0
   repeat' first
   | (with_reducible exact ih0 _ _ _ _ _ _ _)
   | (with_reducible exact ih1 _)
   | (with_reducible exact ih2 _ _ _ _ _ _)
   | (with_reducible exact ih3 _)
   | (with_reducible exact ih4 _ _ _ _)
   | (with_reducible exact ih5 _ _ _)
   | (with_reducible exact ih6 _ _ _ _ _ _ _)
   | (with_reducible exact impl_ModCount.mono _ _)
   | (with_reducible exact impl_ModMove.mono _ _ _ _)
   | (with_reducible exact impl_ModOrbit.mono _ _ _)
   | (with_reducible exact laws_dLess.mono _ _ _)
   | (with_reducible exact laws_dLists.mono _ _ _)
   | (with_reducible exact laws_dSame.mono _ _ _)
   | (with_reducible exact spec_DrawModMove.mono _ _)
   | (with_reducible exact spec_DrawModOrbit.mono _ _)
   | (with_reducible exact spec_ModCount.mono _ _)
   | (with_reducible exact spec_ModMove.mono _ _ _ _)
   | (with_reducible exact spec_ModOrbit.mono _ _ _)
   | (with_reducible exact LeO.refl _)
   | (with_reducible exact LeO.none _)
   | (with_reducible refine LeO.ite ?_ ?_)
   | (with_reducible refine LeO.bind ?_ (fun _ => ?_))
   | exact ih0 _ _ _ _ _ _ _
   | exact ih1 _
   | exact ih2 _ _ _ _ _ _
   | exact ih3 _
   | exact ih4 _ _ _ _
   | exact ih5 _ _ _
   | exact ih6 _ _ _ _ _ _ _
   | exact impl_ModCount.mono _ _
   | exact impl_ModMove.mono _ _ _ _
   | exact impl_ModOrbit.mono _ _ _
   | exact laws_dLess.mono _ _ _
   | exact laws_dLists.mono _ _ _
   | exact laws_dSame.mono _ _ _
   | exact spec_DrawModMove.mono _ _
   | exact spec_DrawModOrbit.mono _ _
   | exact spec_ModCount.mono _ _
   | exact spec_ModMove.mono _ _ _ _
   | exact spec_ModOrbit.mono _ _ _
   | exact LeO.none _
   | refine LeO.ite ?_ ?_
   | refine LeO.bind ?_ (fun _ => ?_)
theorem laws_FnMarkovModulo.mono : ∀ a0 a1 k, LeO (laws_FnMarkovModulo.f k a0 a1) (laws_FnMarkovModulo.f (k + 1) a0 a1) := by
 intro a0 a1 k
 obtain ⟨ih0, ih1, ih2, ih3, ih4, ih5, ih6⟩ := laws_FnMarkovModulo.mono_l k
 unfold laws_FnMarkovModulo.f
 repeat' first
   | (with_reducible exact ih0 _ _ _ _ _ _ _)
   | (with_reducible exact ih1 _)
   | (with_reducible exact ih2 _ _ _ _ _ _)
   | (with_reducible exact ih3 _)
   | (with_reducible exact ih4 _ _ _ _)
   | (with_reducible exact ih5 _ _ _)
   | (with_reducible exact ih6 _ _ _ _ _ _ _)
   | (with_reducible exact impl_ModCount.mono _ _)
   | (with_reducible exact impl_ModMove.mono _ _ _ _)
   | (with_reducible exact impl_ModOrbit.mono _ _ _)
   | (with_reducible exact laws_dLess.mono _ _ _)
   | (with_reducible exact laws_dLists.mono _ _ _)
   | (with_reducible exact laws_dSame.mono _ _ _)
   | (with_reducible exact spec_DrawModMove.mono _ _)
   | (with_reducible exact spec_DrawModOrbit.mono _ _)
   | (with_reducible exact spec_ModCount.mono _ _)
   | (with_reducible exact spec_ModMove.mono _ _ _ _)
   | (with_reducible exact spec_ModOrbit.mono _ _ _)
   | (with_reducible exact LeO.refl _)
   | (with_reducible exact LeO.none _)
   | (with_reducible refine LeO.ite ?_ ?_)
   | (with_reducible refine LeO.bind ?_ (fun _ => ?_))
   | exact ih0 _ _ _ _ _ _ _
   | exact ih1 _
   | exact ih2 _ _ _ _ _ _
   | exact ih3 _
   | exact ih4 _ _ _ _
   | exact ih5 _ _ _
   | exact ih6 _ _ _ _ _ _ _
   | exact impl_ModCount.mono _ _
   | exact impl_ModMove.mono _ _ _ _
   | exact impl_ModOrbit.mono _ _ _
   | exact laws_dLess.mono _ _ _
   | exact laws_dLists.mono _ _ _
   | exact laws_dSame.mono _ _ _
   | exact spec_DrawModMove.mono _ _
   | exact spec_DrawModOrbit.mono _ _
   | exact spec_ModCount.mono _ _
   | exact spec_ModMove.mono _ _ _ _
   | exact spec_ModOrbit.mono _ _ _
   | exact LeO.none _
   | refine LeO.ite ?_ ?_
   | refine LeO.bind ?_ (fun _ => ?_)
set_option maxHeartbeats 8000000 in
set_option maxRecDepth 100000 in
theorem laws_FnMarkovModulo.calls (k : Nat) (A0 : Option Addr) (c0 : Nat) (l0 : List Int) (A1 : Option Addr) (c1 : Nat) (l1 : List Int) (r : Bool) (w : World) (hr0 : Kd.C (Kd.int .u8) w A0 l0.length l0) (hc0 : l0.length ≤ c0) (hr1 : Kd.C (Kd.int .u8) w A1 l1.length l1) (hc1 : l1.length ≤ c1) (h : laws_FnMarkovModulo.f k l0 l1 = some r) :
  Calls Try.prog 11 #[.slice A0 l0.length c0, .slice A1 l1.length c1] w fun e w' => e = .returned (.bool r) ∧ Below w.heap.size w w' := by
 have HR0 := Aside0.mk hr0
 have HC0 := Aside0.mk hc0
 clear hr0 hc0
 have HR1 := Aside0.mk hr1
 have HC1 := Aside0.mk hc1
 clear hr1 hc1
 have HB := Aside0.mk (Below.refl w.heap.size w)
 have H : ((laws_big.f l0 l1).bind fun t583 => (if t583 = true then (some true) else ((spec_DrawModMove.f k l0).bind fun bt584 => ((impl_ModMove.f k bt584.1 bt584.2.1 bt584.2.2).bind fun bt589 => ((spec_ModMove.f k bt584.1 bt584.2.1 bt584.2.2).bind fun bt593 => (if (bt589.2 != bt593.2) = true then (laws_FnMarkovModulo.j0 k l1 bt584.1 bt584.2.1 bt584.2.2 bt589.1 bt589.2 true) else ((laws_dSame.f k bt589.1 bt593.1).bind fun t597 => (laws_FnMarkovModulo.j0 k l1 bt584.1 bt584.2.1 bt584.2.2 bt589.1 bt589.2 (!t597))))))))) = some r := h
 clear h
 replace H := Option.bind_eq_some_iff.mp H
 obtain ⟨t583, A30, H⟩ := H
 replace H : (if t583 = true then (some true) else ((spec_DrawModMove.f k l0).bind fun bt584 => ((impl_ModMove.f k bt584.1 bt584.2.1 bt584.2.2).bind fun bt589 => ((spec_ModMove.f k bt584.1 bt584.2.1 bt584.2.2).bind fun bt593 => (if (bt589.2 != bt593.2) = true then (laws_FnMarkovModulo.j0 k l1 bt584.1 bt584.2.1 bt584.2.2 bt589.1 bt589.2 true) else ((laws_dSame.f k bt589.1 bt593.1).bind fun t597 => (laws_FnMarkovModulo.j0 k l1 bt584.1 bt584.2.1 bt584.2.2 bt589.1 bt589.2 (!t597)))))))) = some r := H
 have A3 := Aside0.mk A30
 clear A30
 by_cases c4 : t583 = true
 ·subst c4
  have H1 : (some true) = some r := by rw [if_pos rfl] at H; exact H
  clear H; have H := H1; clear H1
  obtain rfl := Option.some.inj H
  go_enter Try.func11, Try.ntmps11
  go_wp2_with (first | ((with_reducible refine gate_callee (f := 38) rfl ?_); refine goesL_ (some 32) rfl rfl Try.func38 (by kernel_rfl) rfl #[.slice A0 l0.length c0, .slice A1 l1.length c1] rfl (by (try simp only [List.map_toArray, List.map_cons, List.map_nil]); first | done | rfl) ?_; (with_reducible refine (laws_big.calls _ _ l0 _ _ l1 true _ ?side1 ?side2 ?side3 ?side4 A3.out).mono ?_); (case side1 => repeat (first | exact HR0.out | (with_reducible refine Kd.C_alloc ?_ _) | (with_reducible refine Kd.C_drewN ?_ _) | (with_reducible refine Kd.C_drew ?_))); (case side2 => exact HC0.out); (case side3 => repeat (first | exact HR1.out | (with_reducible refine Kd.C_alloc ?_ _) | (with_reducible refine Kd.C_drewN ?_ _) | (with_reducible refine Kd.C_drew ?_))); (case side4 => exact HC1.out); rintro e w' ⟨rfl, ⟨nd, rfl⟩⟩; refine ⟨_, rfl, ?_⟩))
  go_ret
  exact ⟨by first | rfl | (simp [errW_none, errW_some] <;> rfl) | (simp [*, errW_none, errW_some] <;> rfl), by repeat (first | (with_reducible first | exact HB.out | apply below_alloc | apply pw_below_drewN | apply below_drew1) | exact HB.out)⟩
 ·as_aux_lemma =>
  replace c4 := Bool.eq_false_iff.mpr c4
  subst c4
  have H1 : ((spec_DrawModMove.f k l0).bind fun bt584 => ((impl_ModMove.f k bt584.1 bt584.2.1 bt584.2.2).bind fun bt589 => ((spec_ModMove.f k bt584.1 bt584.2.1 bt584.2.2).bind fun bt593 => (if (bt589.2 != bt593.2) = true then (laws_FnMarkovModulo.j0 k l1 bt584.1 bt584.2.1 bt584.2.2 bt589.1 bt589.2 true) else ((laws_dSame.f k bt589.1 bt593.1).bind fun t597 => (laws_FnMarkovModulo.j0 k l1 bt584.1 bt584.2.1 bt584.2.2 bt589.1 bt589.2 (!t597))))))) = some r := by rw [if_neg (show ¬ (false = true) by decide)] at H; exact H
  clear H; have H := H1; clear H1
  replace H := Option.bind_eq_some_iff.mp H
  obtain ⟨⟨t584, t585, t586⟩, A50, H⟩ := H
  replace H : ((impl_ModMove.f k t584 t585 t586).bind fun bt589 => ((spec_ModMove.f k t584 t585 t586).bind fun bt593 => (if (bt589.2 != bt593.2) = true then (laws_FnMarkovModulo.j0 k l1 t584 t585 t586 bt589.1 bt589.2 true) else ((laws_dSame.f k bt589.1 bt593.1).bind fun t597 => (laws_FnMarkovModulo.j0 k l1 t584 t585 t586 bt589.1 bt589.2 (!t597)))))) = some r := H
  have A5 := Aside0.mk A50
  clear A50
  replace H := Option.bind_eq_some_iff.mp H
  obtain ⟨⟨t589, t590⟩, A60, H⟩ := H
  replace H : ((spec_ModMove.f k t584 t585 t586).bind fun bt593 => (if (t590 != bt593.2) = true then (laws_FnMarkovModulo.j0 k l1 t584 t585 t586 t589 t590 true) else ((laws_dSame.f k t589 bt593.1).bind fun t597 => (laws_FnMarkovModulo.j0 k l1 t584 t585 t586 t589 t590 (!t597))))) = some r := H
  have A6 := Aside0.mk A60
  clear A60
  replace H := Option.bind_eq_some_iff.mp H
  obtain ⟨⟨t593, t594⟩, A70, H⟩ := H
  replace H : (if (t590 != t594) = true then (laws_FnMarkovModulo.j0 k l1 t584 t585 t586 t589 t590 true) else ((laws_dSame.f k t589 t593).bind fun t597 => (laws_FnMarkovModulo.j0 k l1 t584 t585 t586 t589 t590 (!t597)))) = some r := H
  have A7 := Aside0.mk A70
  clear A70
  have HC8 := Aside0.mk H
  clear H
  go_enter Try.func11, Try.ntmps11
  go_upto_region 6 with (first | ((with_reducible refine gate_callee (f := 38) rfl ?_); refine goesL_ (some 32) rfl rfl Try.func38 (by kernel_rfl) rfl #[.slice A0 l0.length c0, .slice A1 l1.length c1] rfl (by (try simp only [List.map_toArray, List.map_cons, List.map_nil]); first | done | rfl) ?_; (with_reducible refine (laws_big.calls _ _ l0 _ _ l1 false _ ?side1 ?side2 ?side3 ?side4 A3.out).mono ?_); (case side1 => repeat (first | exact HR0.out | (with_reducible refine Kd.C_alloc ?_ _) | (with_reducible refine Kd.C_drewN ?_ _) | (with_reducible refine Kd.C_drew ?_))); (case side2 => exact HC0.out); (case side3 => repeat (first | exact HR1.out | (with_reducible refine Kd.C_alloc ?_ _) | (with_reducible refine Kd.C_drewN ?_ _) | (with_reducible refine Kd.C_drew ?_))); (case side4 => exact HC1.out); rintro e w' ⟨rfl, ⟨nd, rfl⟩⟩; refine ⟨_, rfl, ?_⟩) | ((with_reducible refine gate_callee (f := 39) rfl ?_); refine goesL_ (some 35) rfl rfl Try.func39 (by kernel_rfl) rfl #[.slice A0 l0.length c0] rfl (by (try simp only [List.map_toArray, List.map_cons, List.map_nil]); first | done | rfl) ?_; (with_reducible refine (spec_DrawModMove.calls k _ _ l0 t584 t585 t586 _ ?side1 ?side2 A5.out).mono ?_); (case side1 => repeat (first | exact HR0.out | (with_reducible refine Kd.C_alloc ?_ _) | (with_reducible refine Kd.C_drewN ?_ _) | (with_reducible refine Kd.C_drew ?_))); (case side2 => exact HC0.out); rintro e w9 ⟨v587, rfl, ho0, hb⟩; refine ⟨_, rfl, ?_⟩; have n0_ := Aside0.mk (Kd.R_lower ho0 (below_size (by repeat (first | (with_reducible first | exact HB.out | apply below_alloc | apply pw_below_drewN | apply below_drew1) | exact HB.out)))); have n1_ := Aside0.mk (below_step (by repeat (first | (with_reducible first | exact HB.out | apply below_alloc | apply pw_below_drewN | apply below_drew1) | exact HB.out)) hb); clear HB; have HO588 := n0_; have HB := n1_; clear n0_ n1_; (try clear hb); (try clear hb2); (try clear hk); (try clear hi); (try clear ho0); obtain ⟨Ao10, co10, eo10⟩ := Kd.R_slice HO588.out; subst eo10) | ((with_reducible refine gate_callee (f := 20) rfl ?_); refine goesL_ (some 43) rfl rfl Try.func20 (by kernel_rfl) rfl #[.int .i64 t584, .slice Ao10 t585.length co10, .int .i64 t586] rfl (by (try simp only [List.map_toArray, List.map_cons, List.map_nil]); first | done | rfl) ?_; (with_reducible refine (impl_ModMove.calls k t584 _ _ t585 t586 t589 t590 _ ?side1 ?side2 A6.out).mono ?_); (case side1 => repeat (first | exact (Kd.R_reads' HO588.out).2.2 | (with_reducible refine Kd.C_alloc ?_ _) | (with_reducible refine Kd.C_drewN ?_ _) | (with_reducible refine Kd.C_drew ?_))); (case side2 => exact (Kd.R_reads' HO588.out).2.1); rintro e w11 ⟨v591, rfl, ho0, hb⟩; refine ⟨_, rfl, ?_⟩; have n0_ := Aside0.mk (Kd.R_elder' (by (with_reducible repeat (first | apply Kd.R_alloc | apply Kd.R_drewN | apply Kd.R_drew)); exact HO588.out) (Kd.R_base ho0) hb); have n1_ := Aside0.mk (Kd.R_lower (Kd.R_new' ho0 (Kd.R_lt (by (with_reducible repeat (first | apply Kd.R_alloc | apply Kd.R_drewN | apply Kd.R_drew)); exact HO588.out))) (below_size (by repeat (first | (with_reducible first | exact HB.out | apply below_alloc | apply pw_below_drewN | apply below_drew1) | exact HB.out)))); have n2_ := Aside0.mk (below_step (by repeat (first | (with_reducible first | exact HB.out | apply below_alloc | apply pw_below_drewN | apply below_drew1) | exact HB.out)) hb); clear HO588; clear HB; have HO588 := n0_; have HO592 := n1_; have HB := n2_; clear n0_ n1_ n2_; (try clear hb); (try clear hb2); (try clear hk); (try clear hi); (try clear ho0)) | ((with_reducible refine gate_callee (f := 19) rfl ?_); refine goesL_ (some 50) rfl rfl Try.func19 (by kernel_rfl) rfl #[.int .i64 t584, .slice Ao10 t585.length co10, .int .i64 t586] rfl (by (try simp only [List.map_toArray, List.map_cons, List.map_nil]); first | done | rfl) ?_; (with_reducible refine (spec_ModMove.calls k t584 _ _ t585 t586 t593 t594 _ ?side1 ?side2 A7.out).mono ?_); (case side1 => repeat (first | exact (Kd.R_reads' HO588.out).2.2 | (with_reducible refine Kd.C_alloc ?_ _) | (with_reducible refine Kd.C_drewN ?_ _) | (with_reducible refine Kd.C_drew ?_))); (case side2 => exact (Kd.R_reads' HO588.out).2.1); rintro e w12 ⟨v595, rfl, ho0, hb⟩; refine ⟨_, rfl, ?_⟩; have n0_ := Aside0.mk (Kd.R_elder' (by (with_reducible repeat (first | apply Kd.R_alloc | apply Kd.R_drewN | apply Kd.R_drew)); exact HO588.out) (Kd.R_base ho0) hb); have n1_ := Aside0.mk (Kd.R_elder' (by (with_reducible repeat (first | apply Kd.R_alloc | apply Kd.R_drewN | apply Kd.R_drew)); exact HO592.out) (Kd.R_base ho0) hb); have n2_ := Aside0.mk (Kd.R_lower (Kd.R_new' (Kd.R_new' ho0 (Kd.R_lt (by (with_reducible repeat (first | apply Kd.R_alloc | apply Kd.R_drewN | apply Kd.R_drew)); exact HO588.out))) (Kd.R_lt (by (with_reducible repeat (first | apply Kd.R_alloc | apply Kd.R_drewN | apply Kd.R_drew)); exact HO592.out))) (below_size (by repeat (first | (with_reducible first | exact HB.out | apply below_alloc | apply pw_below_drewN | apply below_drew1) | exact HB.out)))); have n3_ := Aside0.mk (below_step (by repeat (first | (with_reducible first | exact HB.out | apply below_alloc | apply pw_below_drewN | apply below_drew1) | exact HB.out)) hb); clear HO588; clear HO592; clear HB; have HO588 := n0_; have HO592 := n1_; have HO596 := n2_; have HB := n3_; clear n0_ n1_ n2_ n3_; (try clear hb); (try clear hb2); (try clear hk); (try clear hi); (try clear ho0)))
  (try simp only [Act.put, List.setIfInBounds_toArray, List.set_cons_zero, List.set_cons_succ])
  go_cut [61] (fun v61 wc => ∃ (kq : Nat) (x61_7 : Bool), v61 = .bool x61_7 ∧ Aside0 (laws_FnMarkovModulo.j0 kq l1 t584 t585 t586 t589 t590 x61_7 = some r) ∧ Aside0 (kq ≤ k) ∧ Aside0 (Kd.R (Kd.int .i64) 3 wc w.heap.size (fun k_ => some k_ ≠ (v591 : Value).ownBlock) (.slice Ao10 t585.length co10) t585) ∧ Aside0 (Kd.R (Kd.int .i64) 3 wc w.heap.size (fun k_ => some k_ ≠ ((.slice Ao10 t585.length co10) : Value).ownBlock) v591 t589) ∧ Aside0 (Below w.heap.size w wc))
  case first => as_aux_lemma =>
   have H := HC8.out; clear HC8
   by_cases c13 : (t590 != t594) = true
   ·rw [if_pos c13] at H
    have c13b0 : (t590 != t594) = true := c13
    (try (have c13b1 : decide (t590 = t594) = false := by simpa using c13))
    (try (have c13b2 : (t590 == t594) = false := by simpa using c13))
    (try (have c13b3 : ¬ (t590 = t594) := by simpa using c13))
    clear c13
    (first | rw [c13b0] | (simp only [i64_w, i32_w]; rw [c13b0]) | skip)
    have H' := Aside0.mk H
    clear H
    go_wp2
    go_meet
    case rel => exact ⟨_, (true), (by first | rfl | (simp; done) | (simp [*]; done)), H', ⟨by first | omega | exact Nat.le_refl _⟩, ⟨by (with_reducible repeat (first | apply Kd.R_alloc | apply Kd.R_drewN | apply Kd.R_drew)); exact Kd.R_mono HO588.out (fun _ hk => hk.1.2)⟩, ⟨by (with_reducible repeat (first | apply Kd.R_alloc | apply Kd.R_drewN | apply Kd.R_drew)); exact Kd.R_mono HO592.out (fun _ hk => hk.1.2)⟩, ⟨by repeat (first | (with_reducible first | exact HB.out | apply below_alloc | apply pw_below_drewN | apply below_drew1) | exact HB.out)⟩⟩
   ·as_aux_lemma =>
    rw [if_neg c13] at H
    have c13b0 : (t590 != t594) = false := by simpa using c13
    (try (have c13b1 : decide (t590 = t594) = true := by simpa using c13))
    (try (have c13b2 : (t590 == t594) = true := by simpa using c13))
    clear c13
    (first | rw [c13b0] | (simp only [i64_w, i32_w]; rw [c13b0]) | skip)
    replace H := Option.bind_eq_some_iff.mp H
    obtain ⟨t597, A140, H⟩ := H
    replace H : (laws_FnMarkovModulo.j0 k l1 t584 t585 t586 t589 t590 (!t597)) = some r := H
    have A14 := Aside0.mk A140
    clear A140
    have H' := Aside0.mk H
    clear H
    obtain ⟨Ao15, co15, eo15⟩ := Kd.R_slice HO592.out
    subst eo15
    obtain ⟨Ao16, co16, eo16⟩ := Kd.R_slice HO596.out
    subst eo16
    go_wp2_with (first | (go_at_call 40; (with_reducible refine (laws_dSame.calls k _ _ t589 _ _ t593 t597 _ ?side1 ?side2 ?side3 ?side4 A14.out).mono ?_); (case side1 => repeat (first | exact (Kd.R_reads' HO592.out).2.2 | (with_reducible refine Kd.C_alloc ?_ _) | (with_reducible refine Kd.C_drewN ?_ _) | (with_reducible refine Kd.C_drew ?_))); (case side2 => exact (Kd.R_reads' HO592.out).2.1); (case side3 => repeat (first | exact (Kd.R_reads' HO596.out).2.2 | (with_reducible refine Kd.C_alloc ?_ _) | (with_reducible refine Kd.C_drewN ?_ _) | (with_reducible refine Kd.C_drew ?_))); (case side4 => exact (Kd.R_reads' HO596.out).2.1); rintro e w' ⟨rfl, ⟨nd, rfl⟩⟩))
    go_meet
    case rel => exact ⟨_, (!t597), (by first | rfl | (simp; done) | (simp [*]; done)), H', ⟨by first | omega | exact Nat.le_refl _⟩, ⟨by (with_reducible repeat (first | apply Kd.R_alloc | apply Kd.R_drewN | apply Kd.R_drew)); exact Kd.R_mono HO588.out (fun _ hk => hk.1.2)⟩, ⟨by (with_reducible repeat (first | apply Kd.R_alloc | apply Kd.R_drewN | apply Kd.R_drew)); exact Kd.R_mono HO592.out (fun _ hk => hk.1.2)⟩, ⟨by repeat (first | (with_reducible first | exact HB.out | apply below_alloc | apply pw_below_drewN | apply below_drew1) | exact HB.out)⟩⟩
  case rest => as_aux_lemma =>
   clear HC8
   try clear c1
   try clear c2
   try clear p2
   try clear c3
   try clear c4
   try clear c11
   try clear c13
   try clear c13b0
   try clear c13b1
   try clear c13b2
   obtain ⟨kq, x61_7, rfl, HA, HJ7, HO_6, HO_8, HB⟩ := hcut
   cases kq with
   | zero => exact absurd HA.out (by simp [laws_FnMarkovModulo.j0])
   | succ kj7 =>
    have H := HA.out; clear HA
    simp only [laws_FnMarkovModulo.j0] at H
    by_cases c17 : x61_7 = true
    ·subst c17
     have H1 : (some false) = some r := by rw [if_pos rfl] at H; exact H
     clear H; have H := H1; clear H1
     obtain rfl := Option.some.inj H
     go_wp2
     go_ret
     exact ⟨by first | rfl | (simp [errW_none, errW_some] <;> rfl) | (simp [*, errW_none, errW_some] <;> rfl), by repeat (first | (with_reducible first | exact HB.out | apply below_alloc | apply pw_below_drewN | apply below_drew1) | exact HB.out)⟩
    ·as_aux_lemma =>
     replace c17 := Bool.eq_false_iff.mpr c17
     subst c17
     have H1 : (if t590 = true then ((impl_ModMove.f kj7 t584 t589 t586).bind fun bt598 => (if bt598.2 = true then ((laws_dSame.f kj7 bt598.1 t585).bind fun t602 => (if t602 = true then (laws_FnMarkovModulo.j1 kj7 l1) else (some false))) else (some false))) else (laws_FnMarkovModulo.j1 kj7 l1)) = some r := by rw [if_neg (show ¬ (false = true) by decide)] at H; exact H
     clear H; have H := H1; clear H1
     have HC18 := Aside0.mk H
     clear H
     go_upto_if 62 with (fail)
     go_cut [] (fun wc => ∃ (kq : Nat), Aside0 (laws_FnMarkovModulo.j1 kq l1 = some r) ∧ Aside0 (kq ≤ kj7) ∧ Aside0 (Below w.heap.size w wc))
     case first => as_aux_lemma =>
      have H := HC18.out; clear HC18
      by_cases c19 : t590 = true
      ·as_aux_lemma =>
       subst c19
       have H1 : ((impl_ModMove.f kj7 t584 t589 t586).bind fun bt598 => (if bt598.2 = true then ((laws_dSame.f kj7 bt598.1 t585).bind fun t602 => (if t602 = true then (laws_FnMarkovModulo.j1 kj7 l1) else (some false))) else (some false))) = some r := by rw [if_pos rfl] at H; exact H
       clear H; have H := H1; clear H1
       replace H := Option.bind_eq_some_iff.mp H
       obtain ⟨⟨t598, t599⟩, A200, H⟩ := H
       replace H : (if t599 = true then ((laws_dSame.f kj7 t598 t585).bind fun t602 => (if t602 = true then (laws_FnMarkovModulo.j1 kj7 l1) else (some false))) else (some false)) = some r := H
       have A20 := Aside0.mk A200
       clear A200
       by_cases c21 : t599 = true
       ·as_aux_lemma =>
        subst c21
        have H1 : ((laws_dSame.f kj7 t598 t585).bind fun t602 => (if t602 = true then (laws_FnMarkovModulo.j1 kj7 l1) else (some false))) = some r := by rw [if_pos rfl] at H; exact H
        clear H; have H := H1; clear H1
        replace H := Option.bind_eq_some_iff.mp H
        obtain ⟨t602, A220, H⟩ := H
        replace H : (if t602 = true then (laws_FnMarkovModulo.j1 kj7 l1) else (some false)) = some r := H
        have A22 := Aside0.mk A220
        clear A220
        by_cases c23 : t602 = true
        ·subst c23
         have H1 : (laws_FnMarkovModulo.j1 kj7 l1) = some r := by rw [if_pos rfl] at H; exact H
         clear H; have H := H1; clear H1
         have H' := Aside0.mk H
         clear H
         obtain ⟨Ao24, co24, eo24⟩ := Kd.R_slice HO_8.out
         subst eo24
         go_wp2_with (first | ((with_reducible refine gate_callee (f := 20) rfl ?_); refine goesL_ (some 67) rfl rfl Try.func20 (by kernel_rfl) rfl #[.int .i64 t584, .slice Ao24 t589.length co24, .int .i64 t586] rfl (by (try simp only [List.map_toArray, List.map_cons, List.map_nil]); first | done | rfl) ?_; (with_reducible refine (impl_ModMove.calls kj7 t584 _ _ t589 t586 t598 true _ ?side1 ?side2 A20.out).mono ?_); (case side1 => repeat (first | exact (Kd.R_reads' HO_8.out).2.2 | (with_reducible refine Kd.C_alloc ?_ _) | (with_reducible refine Kd.C_drewN ?_ _) | (with_reducible refine Kd.C_drew ?_))); (case side2 => exact (Kd.R_reads' HO_8.out).2.1); rintro e w25 ⟨v600, rfl, ho0, hb⟩; refine ⟨_, rfl, ?_⟩; have n0_ := Aside0.mk (Kd.R_elder' (by (with_reducible repeat (first | apply Kd.R_alloc | apply Kd.R_drewN | apply Kd.R_drew)); exact HO_6.out) (Kd.R_base ho0) hb); have n1_ := Aside0.mk (Kd.R_elder' (by (with_reducible repeat (first | apply Kd.R_alloc | apply Kd.R_drewN | apply Kd.R_drew)); exact HO_8.out) (Kd.R_base ho0) hb); have n2_ := Aside0.mk (Kd.R_lower (Kd.R_new' (Kd.R_new' ho0 (Kd.R_lt (by (with_reducible repeat (first | apply Kd.R_alloc | apply Kd.R_drewN | apply Kd.R_drew)); exact HO_6.out))) (Kd.R_lt (by (with_reducible repeat (first | apply Kd.R_alloc | apply Kd.R_drewN | apply Kd.R_drew)); exact HO_8.out))) (below_size (by repeat (first | (with_reducible first | exact HB.out | apply below_alloc | apply pw_below_drewN | apply below_drew1) | exact HB.out)))); have n3_ := Aside0.mk (below_step (by repeat (first | (with_reducible first | exact HB.out | apply below_alloc | apply pw_below_drewN | apply below_drew1) | exact HB.out)) hb); clear HO_6; clear HO_8; clear HB; have HO_6 := n0_; have HO_8 := n1_; have HO601 := n2_; have HB := n3_; clear n0_ n1_ n2_ n3_; (try clear hb); (try clear hb2); (try clear hk); (try clear hi); (try clear ho0); obtain ⟨Ao26, co26, eo26⟩ := Kd.R_slice HO601.out; subst eo26) | (go_at_call 40; (with_reducible refine (laws_dSame.calls kj7 _ _ t598 _ _ t585 true _ ?side1 ?side2 ?side3 ?side4 A22.out).mono ?_); (case side1 => repeat (first | exact (Kd.R_reads' HO601.out).2.2 | (with_reducible refine Kd.C_alloc ?_ _) | (with_reducible refine Kd.C_drewN ?_ _) | (with_reducible refine Kd.C_drew ?_))); (case side2 => exact (Kd.R_reads' HO601.out).2.1); (case side3 => repeat (first | exact (Kd.R_reads' HO_6.out).2.2 | (with_reducible refine Kd.C_alloc ?_ _) | (with_reducible refine Kd.C_drewN ?_ _) | (with_reducible refine Kd.C_drew ?_))); (case side4 => exact (Kd.R_reads' HO_6.out).2.1); rintro e w' ⟨rfl, ⟨nd, rfl⟩⟩))
         go_meet
         case rel => exact ⟨_, H', ⟨by have := HJ7.out; first | omega | exact Nat.le_refl _⟩, ⟨by repeat (first | (with_reducible first | exact HB.out | apply below_alloc | apply pw_below_drewN | apply below_drew1) | exact HB.out)⟩⟩
        ·replace c23 := Bool.eq_false_iff.mpr c23
         subst c23
         have H1 : (some false) = some r := by rw [if_neg (show ¬ (false = true) by decide)] at H; exact H
         clear H; have H := H1; clear H1
         obtain rfl := Option.some.inj H
         obtain ⟨Ao27, co27, eo27⟩ := Kd.R_slice HO_8.out
         subst eo27
         go_wp2_with (first | ((with_reducible refine gate_callee (f := 20) rfl ?_); refine goesL_ (some 67) rfl rfl Try.func20 (by kernel_rfl) rfl #[.int .i64 t584, .slice Ao27 t589.length co27, .int .i64 t586] rfl (by (try simp only [List.map_toArray, List.map_cons, List.map_nil]); first | done | rfl) ?_; (with_reducible refine (impl_ModMove.calls kj7 t584 _ _ t589 t586 t598 true _ ?side1 ?side2 A20.out).mono ?_); (case side1 => repeat (first | exact (Kd.R_reads' HO_8.out).2.2 | (with_reducible refine Kd.C_alloc ?_ _) | (with_reducible refine Kd.C_drewN ?_ _) | (with_reducible refine Kd.C_drew ?_))); (case side2 => exact (Kd.R_reads' HO_8.out).2.1); rintro e w28 ⟨v600, rfl, ho0, hb⟩; refine ⟨_, rfl, ?_⟩; have n0_ := Aside0.mk (Kd.R_elder' (by (with_reducible repeat (first | apply Kd.R_alloc | apply Kd.R_drewN | apply Kd.R_drew)); exact HO_6.out) (Kd.R_base ho0) hb); have n1_ := Aside0.mk (Kd.R_elder' (by (with_reducible repeat (first | apply Kd.R_alloc | apply Kd.R_drewN | apply Kd.R_drew)); exact HO_8.out) (Kd.R_base ho0) hb); have n2_ := Aside0.mk (Kd.R_lower (Kd.R_new' (Kd.R_new' ho0 (Kd.R_lt (by (with_reducible repeat (first | apply Kd.R_alloc | apply Kd.R_drewN | apply Kd.R_drew)); exact HO_6.out))) (Kd.R_lt (by (with_reducible repeat (first | apply Kd.R_alloc | apply Kd.R_drewN | apply Kd.R_drew)); exact HO_8.out))) (below_size (by repeat (first | (with_reducible first | exact HB.out | apply below_alloc | apply pw_below_drewN | apply below_drew1) | exact HB.out)))); have n3_ := Aside0.mk (below_step (by repeat (first | (with_reducible first | exact HB.out | apply below_alloc | apply pw_below_drewN | apply below_drew1) | exact HB.out)) hb); clear HO_6; clear HO_8; clear HB; have HO_6 := n0_; have HO_8 := n1_; have HO601 := n2_; have HB := n3_; clear n0_ n1_ n2_ n3_; (try clear hb); (try clear hb2); (try clear hk); (try clear hi); (try clear ho0); obtain ⟨Ao29, co29, eo29⟩ := Kd.R_slice HO601.out; subst eo29) | (go_at_call 40; (with_reducible refine (laws_dSame.calls kj7 _ _ t598 _ _ t585 false _ ?side1 ?side2 ?side3 ?side4 A22.out).mono ?_); (case side1 => repeat (first | exact (Kd.R_reads' HO601.out).2.2 | (with_reducible refine Kd.C_alloc ?_ _) | (with_reducible refine Kd.C_drewN ?_ _) | (with_reducible refine Kd.C_drew ?_))); (case side2 => exact (Kd.R_reads' HO601.out).2.1); (case side3 => repeat (first | exact (Kd.R_reads' HO_6.out).2.2 | (with_reducible refine Kd.C_alloc ?_ _) | (with_reducible refine Kd.C_drewN ?_ _) | (with_reducible refine Kd.C_drew ?_))); (case side4 => exact (Kd.R_reads' HO_6.out).2.1); rintro e w' ⟨rfl, ⟨nd, rfl⟩⟩))
         go_ret
         exact ⟨by first | rfl | (simp [errW_none, errW_some] <;> rfl) | (simp [*, errW_none, errW_some] <;> rfl), by repeat (first | (with_reducible first | exact HB.out | apply below_alloc | apply pw_below_drewN | apply below_drew1) | exact HB.out)⟩
       ·replace c21 := Bool.eq_false_iff.mpr c21
        subst c21
        have H1 : (some false) = some r := by rw [if_neg (show ¬ (false = true) by decide)] at H; exact H
        clear H; have H := H1; clear H1
        obtain rfl := Option.some.inj H
        obtain ⟨Ao30, co30, eo30⟩ := Kd.R_slice HO_8.out
        subst eo30
        go_wp2_with (first | ((with_reducible refine gate_callee (f := 20) rfl ?_); refine goesL_ (some 67) rfl rfl Try.func20 (by kernel_rfl) rfl #[.int .i64 t584, .slice Ao30 t589.length co30, .int .i64 t586] rfl (by (try simp only [List.map_toArray, List.map_cons, List.map_nil]); first | done | rfl) ?_; (with_reducible refine (impl_ModMove.calls kj7 t584 _ _ t589 t586 t598 false _ ?side1 ?side2 A20.out).mono ?_); (case side1 => repeat (first | exact (Kd.R_reads' HO_8.out).2.2 | (with_reducible refine Kd.C_alloc ?_ _) | (with_reducible refine Kd.C_drewN ?_ _) | (with_reducible refine Kd.C_drew ?_))); (case side2 => exact (Kd.R_reads' HO_8.out).2.1); rintro e w31 ⟨v600, rfl, ho0, hb⟩; refine ⟨_, rfl, ?_⟩; have n0_ := Aside0.mk (Kd.R_elder' (by (with_reducible repeat (first | apply Kd.R_alloc | apply Kd.R_drewN | apply Kd.R_drew)); exact HO_6.out) (Kd.R_base ho0) hb); have n1_ := Aside0.mk (Kd.R_elder' (by (with_reducible repeat (first | apply Kd.R_alloc | apply Kd.R_drewN | apply Kd.R_drew)); exact HO_8.out) (Kd.R_base ho0) hb); have n2_ := Aside0.mk (Kd.R_lower (Kd.R_new' (Kd.R_new' ho0 (Kd.R_lt (by (with_reducible repeat (first | apply Kd.R_alloc | apply Kd.R_drewN | apply Kd.R_drew)); exact HO_6.out))) (Kd.R_lt (by (with_reducible repeat (first | apply Kd.R_alloc | apply Kd.R_drewN | apply Kd.R_drew)); exact HO_8.out))) (below_size (by repeat (first | (with_reducible first | exact HB.out | apply below_alloc | apply pw_below_drewN | apply below_drew1) | exact HB.out)))); have n3_ := Aside0.mk (below_step (by repeat (first | (with_reducible first | exact HB.out | apply below_alloc | apply pw_below_drewN | apply below_drew1) | exact HB.out)) hb); clear HO_6; clear HO_8; clear HB; have HO_6 := n0_; have HO_8 := n1_; have HO601 := n2_; have HB := n3_; clear n0_ n1_ n2_ n3_; (try clear hb); (try clear hb2); (try clear hk); (try clear hi); (try clear ho0)))
        go_ret
        exact ⟨by first | rfl | (simp [errW_none, errW_some] <;> rfl) | (simp [*, errW_none, errW_some] <;> rfl), by repeat (first | (with_reducible first | exact HB.out | apply below_alloc | apply pw_below_drewN | apply below_drew1) | exact HB.out)⟩
      ·replace c19 := Bool.eq_false_iff.mpr c19
       subst c19
       have H1 : (laws_FnMarkovModulo.j1 kj7 l1) = some r := by rw [if_neg (show ¬ (false = true) by decide)] at H; exact H
       clear H; have H := H1; clear H1
       have H' := Aside0.mk H
       clear H
       go_wp2
       go_meet
       case rel => exact ⟨_, H', ⟨by have := HJ7.out; first | omega | exact Nat.le_refl _⟩, ⟨by repeat (first | (with_reducible first | exact HB.out | apply below_alloc | apply pw_below_drewN | apply below_drew1) | exact HB.out)⟩⟩
     case rest => as_aux_lemma =>
      clear HC18
      try clear c1
      try clear c2
      try clear p2
      try clear c3
      try clear c4
      try clear c11
      try clear c13
      try clear c13b0
      try clear c13b1
      try clear c13b2
      try clear c17
      try clear c19
      try clear c20
      try clear c21
      try clear c23
      try clear p2
      obtain ⟨kq, HA, HJ17, HB⟩ := hcut
      cases kq with
      | zero => exact absurd HA.out (by simp [laws_FnMarkovModulo.j1])
      | succ kj17 =>
       have H := HA.out; clear HA
       simp only [laws_FnMarkovModulo.j1] at H
       replace H := Option.bind_eq_some_iff.mp H
       obtain ⟨⟨t603, t604⟩, A320, H⟩ := H
       replace H : ((impl_ModOrbit.f kj17 t603 t604).bind fun bt607 => ((spec_ModOrbit.f kj17 t603 t604).bind fun bt611 => ((impl_ModCount.f kj17 t603).bind fun bt615 => (if (bt607.2 != bt611.2) = true then (laws_FnMarkovModulo.j2 kj17 l1 t604 bt607.1 bt607.2 bt615.1 true) else ((laws_dLists.f kj17 bt607.1 bt611.1).bind fun t617 => (if t617 = true then (if bt607.2 = true then (laws_FnMarkovModulo.j2 kj17 l1 t604 bt607.1 bt607.2 bt615.1 (!bt615.2)) else (laws_FnMarkovModulo.j2 kj17 l1 t604 bt607.1 bt607.2 bt615.1 false)) else (laws_FnMarkovModulo.j2 kj17 l1 t604 bt607.1 bt607.2 bt615.1 true))))))) = some r := H
       have A32 := Aside0.mk A320
       clear A320
       replace H := Option.bind_eq_some_iff.mp H
       obtain ⟨⟨t607, t608⟩, A330, H⟩ := H
       replace H : ((spec_ModOrbit.f kj17 t603 t604).bind fun bt611 => ((impl_ModCount.f kj17 t603).bind fun bt615 => (if (t608 != bt611.2) = true then (laws_FnMarkovModulo.j2 kj17 l1 t604 t607 t608 bt615.1 true) else ((laws_dLists.f kj17 t607 bt611.1).bind fun t617 => (if t617 = true then (if t608 = true then (laws_FnMarkovModulo.j2 kj17 l1 t604 t607 t608 bt615.1 (!bt615.2)) else (laws_FnMarkovModulo.j2 kj17 l1 t604 t607 t608 bt615.1 false)) else (laws_FnMarkovModulo.j2 kj17 l1 t604 t607 t608 bt615.1 true)))))) = some r := H
       have A33 := Aside0.mk A330
       clear A330
       replace H := Option.bind_eq_some_iff.mp H
       obtain ⟨⟨t611, t614⟩, A340, H⟩ := H
       replace H : ((impl_ModCount.f kj17 t603).bind fun bt615 => (if (t608 != t614) = true then (laws_FnMarkovModulo.j2 kj17 l1 t604 t607 t608 bt615.1 true) else ((laws_dLists.f kj17 t607 t611).bind fun t617 => (if t617 = true then (if t608 = true then (laws_FnMarkovModulo.j2 kj17 l1 t604 t607 t608 bt615.1 (!bt615.2)) else (laws_FnMarkovModulo.j2 kj17 l1 t604 t607 t608 bt615.1 false)) else (laws_FnMarkovModulo.j2 kj17 l1 t604 t607 t608 bt615.1 true))))) = some r := H
       have A34 := Aside0.mk A340
       clear A340
       replace H := Option.bind_eq_some_iff.mp H
       obtain ⟨⟨t615, t616⟩, A350, H⟩ := H
       replace H : (if (t608 != t614) = true then (laws_FnMarkovModulo.j2 kj17 l1 t604 t607 t608 t615 true) else ((laws_dLists.f kj17 t607 t611).bind fun t617 => (if t617 = true then (if t608 = true then (laws_FnMarkovModulo.j2 kj17 l1 t604 t607 t608 t615 (!t616)) else (laws_FnMarkovModulo.j2 kj17 l1 t604 t607 t608 t615 false)) else (laws_FnMarkovModulo.j2 kj17 l1 t604 t607 t608 t615 true)))) = some r := H
       have A35 := Aside0.mk A350
       clear A350
       have HC36 := Aside0.mk H
       clear H
       go_upto_region 16 with (first | ((with_reducible refine gate_callee (f := 41) rfl ?_); refine goesL_ (some 80) rfl rfl Try.func41 (by kernel_rfl) rfl #[.slice A1 l1.length c1] rfl (by (try simp only [List.map_toArray, List.map_cons, List.map_nil]); first | done | rfl) ?_; (with_reducible refine (spec_DrawModOrbit.calls kj17 _ _ l1 t603 t604 _ ?side1 ?side2 A32.out).mono ?_); (case side1 => repeat (first | exact (Kd.C_below HR1.out HB.out) | (with_reducible refine Kd.C_alloc ?_ _) | (with_reducible refine Kd.C_drewN ?_ _) | (with_reducible refine Kd.C_drew ?_))); (case side2 => exact HC1.out); rintro e w37 ⟨v605, rfl, ho0, hb⟩; refine ⟨_, rfl, ?_⟩; have n0_ := Aside0.mk (Kd.R_lower ho0 (below_size (by repeat (first | (with_reducible first | exact HB.out | apply below_alloc | apply pw_below_drewN | apply below_drew1) | exact HB.out)))); have n1_ := Aside0.mk (below_step (by repeat (first | (with_reducible first | exact HB.out | apply below_alloc | apply pw_below_drewN | apply below_drew1) | exact HB.out)) hb); clear HB; have HO606 := n0_; have HB := n1_; clear n0_ n1_; (try clear hb); (try clear hb2); (try clear hk); (try clear hi); (try clear ho0); obtain ⟨Ao38, co38, eo38⟩ := Kd.R_slice HO606.out; subst eo38) | ((with_reducible refine gate_callee (f := 37) rfl ?_); refine goesL_ (some 86) rfl rfl Try.func37 (by kernel_rfl) rfl #[.int .i64 t603, .slice Ao38 t604.length co38] rfl (by (try simp only [List.map_toArray, List.map_cons, List.map_nil]); first | done | rfl) ?_; (with_reducible refine (impl_ModOrbit.calls kj17 t603 _ _ t604 t607 t608 _ ?side1 ?side2 A33.out).mono ?_); (case side1 => repeat (first | exact (Kd.R_reads' HO606.out).2.2 | (with_reducible refine Kd.C_alloc ?_ _) | (with_reducible refine Kd.C_drewN ?_ _) | (with_reducible refine Kd.C_drew ?_))); (case side2 => exact (Kd.R_reads' HO606.out).2.1); rintro e w39 ⟨v609, rfl, ho0, hb⟩; refine ⟨_, rfl, ?_⟩; have n0_ := Aside0.mk (Kd.R_below (by (with_reducible repeat (first | apply Kd.R_alloc | apply Kd.R_drewN | apply Kd.R_drew)); exact HO606.out) hb); have n1_ := Aside0.mk (Kd.N_lower (Kd.N_mono (ok' := fun k_ => some k_ ≠ (.slice Ao38 t604.length co38 : Value).ownBlock) (Kd.S_N (Kd.S_bound ho0)) (fun k_ hk_ => (Kd.fresh' (Kd.R_lt (by (with_reducible repeat (first | apply Kd.R_alloc | apply Kd.R_drewN | apply Kd.R_drew)); exact HO606.out)) k_ hk_.2.1))) (below_size (by repeat (first | (with_reducible first | exact HB.out | apply below_alloc | apply pw_below_drewN | apply below_drew1) | exact HB.out)))); have n2_ := Aside0.mk (below_step (by repeat (first | (with_reducible first | exact HB.out | apply below_alloc | apply pw_below_drewN | apply below_drew1) | exact HB.out)) hb); clear HO606; clear HB; have HO606 := n0_; have HO610 := n1_; have HB := n2_; clear n0_ n1_ n2_; (try clear hb); (try clear hb2); (try clear hk); (try clear hi); (try clear ho0)) | ((with_reducible refine gate_callee (f := 36) rfl ?_); refine goesL_ (some 92) rfl rfl Try.func36 (by kernel_rfl) rfl #[.int .i64 t603, .slice Ao38 t604.length co38] rfl (by (try simp only [List.map_toArray, List.map_cons, List.map_nil]); first | done | rfl) ?_; (with_reducible refine (spec_ModOrbit.calls kj17 t603 _ _ t604 t611 t614 _ ?side1 ?side2 A34.out).mono ?_); (case side1 => repeat (first | exact (Kd.R_reads' HO606.out).2.2 | (with_reducible refine Kd.C_alloc ?_ _) | (with_reducible refine Kd.C_drewN ?_ _) | (with_reducible refine Kd.C_drew ?_))); (case side2 => exact (Kd.R_reads' HO606.out).2.1); rintro e w40 ⟨v612, rfl, ho0, hb⟩; refine ⟨_, rfl, ?_⟩; have n0_ := Aside0.mk (Kd.R_below (by (with_reducible repeat (first | apply Kd.R_alloc | apply Kd.R_drewN | apply Kd.R_drew)); exact HO606.out) hb); have n1_ := Aside0.mk (Kd.N_elder' (by (with_reducible repeat (first | apply Kd.N_alloc | apply Kd.N_drewN | apply Kd.N_drew)); exact HO610.out) (Kd.N_base ho0) hb); have n2_ := Aside0.mk (Kd.N_lower (Kd.N_mono (ok' := fun k_ => some k_ ≠ (.slice Ao38 t604.length co38 : Value).ownBlock ∧ some k_ ≠ (v609 : Value).ownBlock) ho0 (fun k_ hk_ => ⟨(Kd.fresh' (Kd.R_lt (by (with_reducible repeat (first | apply Kd.R_alloc | apply Kd.R_drewN | apply Kd.R_drew)); exact HO606.out)) k_ hk_), (Kd.fresh' (Kd.N_lt (by (with_reducible repeat (first | apply Kd.N_alloc | apply Kd.N_drewN | apply Kd.N_drew)); exact HO610.out)) k_ hk_)⟩)) (below_size (by repeat (first | (with_reducible first | exact HB.out | apply below_alloc | apply pw_below_drewN | apply below_drew1) | exact HB.out)))); have n3_ := Aside0.mk (below_step (by repeat (first | (with_reducible first | exact HB.out | apply below_alloc | apply pw_below_drewN | apply below_drew1) | exact HB.out)) hb); clear HO606; clear HO610; clear HB; have HO606 := n0_; have HO610 := n1_; have HO613 := n2_; have HB := n3_; clear n0_ n1_ n2_ n3_; (try clear hb); (try clear hb2); (try clear hk); (try clear hi); (try clear ho0)) | ((with_reducible refine gate_callee (f := 42) rfl ?_); refine goesL_ (some 97) rfl rfl Try.func42 (by kernel_rfl) rfl #[.int .i64 t603] rfl (by (try simp only [List.map_toArray, List.map_cons, List.map_nil]); first | done | rfl) ?_; (with_reducible refine (impl_ModCount.calls kj17 t603 t615 t616 _ A35.out).mono ?_); rintro e w41 ⟨rfl, hb⟩; refine ⟨_, rfl, ?_⟩; have n0_ := Aside0.mk (Kd.R_below (by (with_reducible repeat (first | apply Kd.R_alloc | apply Kd.R_drewN | apply Kd.R_drew)); exact HO606.out) hb); have n1_ := Aside0.mk (Kd.N_below (by (with_reducible repeat (first | apply Kd.N_alloc | apply Kd.N_drewN | apply Kd.N_drew)); exact HO610.out) hb); have n2_ := Aside0.mk (Kd.N_below (by (with_reducible repeat (first | apply Kd.N_alloc | apply Kd.N_drewN | apply Kd.N_drew)); exact HO613.out) hb); have n3_ := Aside0.mk (below_step (by repeat (first | (with_reducible first | exact HB.out | apply below_alloc | apply pw_below_drewN | apply below_drew1) | exact HB.out)) hb); clear HO606; clear HO610; clear HO613; clear HB; have HO606 := n0_; have HO610 := n1_; have HO613 := n2_; have HB := n3_; clear n0_ n1_ n2_ n3_; (try clear hb); (try clear hb2); (try clear hk); (try clear hi)))
       (try simp only [Act.put, List.setIfInBounds_toArray, List.set_cons_zero, List.set_cons_succ])
       go_cut [115] (fun v115 wc => ∃ (kq : Nat) (x115_35 : Bool), v115 = .bool x115_35 ∧ Aside0 (laws_FnMarkovModulo.j2 kq l1 t604 t607 t608 t615 x115_35 = some r) ∧ Aside0 (kq ≤ kj17) ∧ Aside0 (Kd.R (Kd.int .i64) 3 wc w.heap.size (fun _ => True) (.slice Ao38 t604.length co38) t604) ∧ Aside0 (Kd.N (Kd.slice 3 (Kd.int .i64)) 22 wc w.heap.size (fun k_ => some k_ ≠ ((.slice Ao38 t604.length co38) : Value).ownBlock) v609 t607) ∧ Aside0 (Below w.heap.size w wc))
       case first => as_aux_lemma =>
        have H := HC36.out; clear HC36
        by_cases c42 : (t608 != t614) = true
        ·rw [if_pos c42] at H
         have c42b0 : (t608 != t614) = true := c42
         (try (have c42b1 : decide (t608 = t614) = false := by simpa using c42))
         (try (have c42b2 : (t608 == t614) = false := by simpa using c42))
         (try (have c42b3 : ¬ (t608 = t614) := by simpa using c42))
         clear c42
         (first | rw [c42b0] | (simp only [i64_w, i32_w]; rw [c42b0]) | skip)
         have H' := Aside0.mk H
         clear H
         go_wp2
         go_meet
         case rel => exact ⟨_, (true), (by first | rfl | (simp; done) | (simp [*]; done)), H', ⟨by have := HJ7.out; have := HJ17.out; first | omega | exact Nat.le_refl _⟩, ⟨by (with_reducible repeat (first | apply Kd.R_alloc | apply Kd.R_drewN | apply Kd.R_drew)); exact HO606.out⟩, ⟨by (with_reducible repeat (first | apply Kd.N_alloc | apply Kd.N_drewN | apply Kd.N_drew)); exact Kd.N_mono HO610.out (fun _ hk => hk.1)⟩, ⟨by repeat (first | (with_reducible first | exact HB.out | apply below_alloc | apply pw_below_drewN | apply below_drew1) | exact HB.out)⟩⟩
        ·as_aux_lemma =>
         rw [if_neg c42] at H
         have c42b0 : (t608 != t614) = false := by simpa using c42
         (try (have c42b1 : decide (t608 = t614) = true := by simpa using c42))
         (try (have c42b2 : (t608 == t614) = true := by simpa using c42))
         clear c42
         (first | rw [c42b0] | (simp only [i64_w, i32_w]; rw [c42b0]) | skip)
         replace H := Option.bind_eq_some_iff.mp H
         obtain ⟨t617, A430, H⟩ := H
         replace H : (if t617 = true then (if t608 = true then (laws_FnMarkovModulo.j2 kj17 l1 t604 t607 t608 t615 (!t616)) else (laws_FnMarkovModulo.j2 kj17 l1 t604 t607 t608 t615 false)) else (laws_FnMarkovModulo.j2 kj17 l1 t604 t607 t608 t615 true)) = some r := H
         have A43 := Aside0.mk A430
         clear A430
         by_cases c44 : t617 = true
         ·as_aux_lemma =>
          subst c44
          have H1 : (if t608 = true then (laws_FnMarkovModulo.j2 kj17 l1 t604 t607 t608 t615 (!t616)) else (laws_FnMarkovModulo.j2 kj17 l1 t604 t607 t608 t615 false)) = some r := by rw [if_pos rfl] at H; exact H
          clear H; have H := H1; clear H1
          by_cases c45 : t608 = true
          ·as_aux_lemma =>
           subst c45
           have H1 : (laws_FnMarkovModulo.j2 kj17 l1 t604 t607 true t615 (!t616)) = some r := by rw [if_pos rfl] at H; exact H
           clear H; have H := H1; clear H1
           have H' := Aside0.mk H
           clear H
           obtain ⟨Ao46, co46, eo46⟩ := Kd.N_slice HO610.out
           subst eo46
           obtain ⟨Ao47, co47, eo47⟩ := Kd.N_slice HO613.out
           subst eo47
           go_wp2_with (first | (go_at_call 43; (with_reducible refine (laws_dLists.calls kj17 _ _ t607 _ _ t611 true _ ?side1 ?side2 ?side3 ?side4 A43.out).mono ?_); (case side1 => repeat (first | exact (Kd.N_reads' HO610.out).2.2 | (with_reducible refine Kd.C_alloc ?_ _) | (with_reducible refine Kd.C_drewN ?_ _) | (with_reducible refine Kd.C_drew ?_))); (case side2 => exact (Kd.N_reads' HO610.out).2.1); (case side3 => repeat (first | exact (Kd.N_reads' HO613.out).2.2 | (with_reducible refine Kd.C_alloc ?_ _) | (with_reducible refine Kd.C_drewN ?_ _) | (with_reducible refine Kd.C_drew ?_))); (case side4 => exact (Kd.N_reads' HO613.out).2.1); rintro e w' ⟨rfl, ⟨nd, rfl⟩⟩))
           go_meet
           case rel => exact ⟨_, (!t616), (by first | rfl | (simp; done) | (simp [*]; done)), H', ⟨by have := HJ7.out; have := HJ17.out; first | omega | exact Nat.le_refl _⟩, ⟨by (with_reducible repeat (first | apply Kd.R_alloc | apply Kd.R_drewN | apply Kd.R_drew)); exact HO606.out⟩, ⟨by (with_reducible repeat (first | apply Kd.N_alloc | apply Kd.N_drewN | apply Kd.N_drew)); exact Kd.N_mono HO610.out (fun _ hk => hk.1)⟩, ⟨by repeat (first | (with_reducible first | exact HB.out | apply below_alloc | apply pw_below_drewN | apply below_drew1) | exact HB.out)⟩⟩
          ·as_aux_lemma =>
           replace c45 := Bool.eq_false_iff.mpr c45
           subst c45
           have H1 : (laws_FnMarkovModulo.j2 kj17 l1 t604 t607 false t615 false) = some r := by rw [if_neg (show ¬ (false = true) by decide)] at H; exact H
           clear H; have H := H1; clear H1
           have H' := Aside0.mk H
           clear H
           obtain ⟨Ao48, co48, eo48⟩ := Kd.N_slice HO610.out
           subst eo48
           obtain ⟨Ao49, co49, eo49⟩ := Kd.N_slice HO613.out
           subst eo49
           go_wp2_with (first | (go_at_call 43; (with_reducible refine (laws_dLists.calls kj17 _ _ t607 _ _ t611 true _ ?side1 ?side2 ?side3 ?side4 A43.out).mono ?_); (case side1 => repeat (first | exact (Kd.N_reads' HO610.out).2.2 | (with_reducible refine Kd.C_alloc ?_ _) | (with_reducible refine Kd.C_drewN ?_ _) | (with_reducible refine Kd.C_drew ?_))); (case side2 => exact (Kd.N_reads' HO610.out).2.1); (case side3 => repeat (first | exact (Kd.N_reads' HO613.out).2.2 | (with_reducible refine Kd.C_alloc ?_ _) | (with_reducible refine Kd.C_drewN ?_ _) | (with_reducible refine Kd.C_drew ?_))); (case side4 => exact (Kd.N_reads' HO613.out).2.1); rintro e w' ⟨rfl, ⟨nd, rfl⟩⟩))
           go_meet
           case rel => exact ⟨_, (false), (by first | rfl | (simp; done) | (simp [*]; done)), H', ⟨by have := HJ7.out; have := HJ17.out; first | omega | exact Nat.le_refl _⟩, ⟨by (with_reducible repeat (first | apply Kd.R_alloc | apply Kd.R_drewN | apply Kd.R_drew)); exact HO606.out⟩, ⟨by (with_reducible repeat (first | apply Kd.N_alloc | apply Kd.N_drewN | apply Kd.N_drew)); exact Kd.N_mono HO610.out (fun _ hk => hk.1)⟩, ⟨by repeat (first | (with_reducible first | exact HB.out | apply below_alloc | apply pw_below_drewN | apply below_drew1) | exact HB.out)⟩⟩
         ·as_aux_lemma =>
          replace c44 := Bool.eq_false_iff.mpr c44
          subst c44
          have H1 : (laws_FnMarkovModulo.j2 kj17 l1 t604 t607 t608 t615 true) = some r := by rw [if_neg (show ¬ (false = true) by decide)] at H; exact H
          clear H; have H := H1; clear H1
          have H' := Aside0.mk H
          clear H
          obtain ⟨Ao50, co50, eo50⟩ := Kd.N_slice HO610.out
          subst eo50
          obtain ⟨Ao51, co51, eo51⟩ := Kd.N_slice HO613.out
          subst eo51
          go_wp2_with (first | (go_at_call 43; (with_reducible refine (laws_dLists.calls kj17 _ _ t607 _ _ t611 false _ ?side1 ?side2 ?side3 ?side4 A43.out).mono ?_); (case side1 => repeat (first | exact (Kd.N_reads' HO610.out).2.2 | (with_reducible refine Kd.C_alloc ?_ _) | (with_reducible refine Kd.C_drewN ?_ _) | (with_reducible refine Kd.C_drew ?_))); (case side2 => exact (Kd.N_reads' HO610.out).2.1); (case side3 => repeat (first | exact (Kd.N_reads' HO613.out).2.2 | (with_reducible refine Kd.C_alloc ?_ _) | (with_reducible refine Kd.C_drewN ?_ _) | (with_reducible refine Kd.C_drew ?_))); (case side4 => exact (Kd.N_reads' HO613.out).2.1); rintro e w' ⟨rfl, ⟨nd, rfl⟩⟩))
          go_meet
          case rel => exact ⟨_, (true), (by first | rfl | (simp; done) | (simp [*]; done)), H', ⟨by have := HJ7.out; have := HJ17.out; first | omega | exact Nat.le_refl _⟩, ⟨by (with_reducible repeat (first | apply Kd.R_alloc | apply Kd.R_drewN | apply Kd.R_drew)); exact HO606.out⟩, ⟨by (with_reducible repeat (first | apply Kd.N_alloc | apply Kd.N_drewN | apply Kd.N_drew)); exact Kd.N_mono HO610.out (fun _ hk => hk.1)⟩, ⟨by repeat (first | (with_reducible first | exact HB.out | apply below_alloc | apply pw_below_drewN | apply below_drew1) | exact HB.out)⟩⟩
       case rest => as_aux_lemma =>
        clear HC36
        try clear c1
        try clear c2
        try clear p2
        try clear c3
        try clear c4
        try clear c11
        try clear c13
        try clear c13b0
        try clear c13b1
        try clear c13b2
        try clear c17
        try clear c19
        try clear c20
        try clear c21
        try clear c23
        try clear c36
        try clear c37
        try clear c38
        try clear c39
        try clear c41
        try clear c42
        try clear c42b0
        try clear c42b1
        try clear c42b2
        try clear c44
        try clear c45
        try clear p2
        obtain ⟨kq, x115_35, rfl, HA, HJ35, HO_15, HO_16, HB⟩ := hcut
        cases kq with
        | zero => exact absurd HA.out (by simp [laws_FnMarkovModulo.j2])
        | succ kj35 =>
         have H := HA.out; clear HA
         simp only [laws_FnMarkovModulo.j2] at H
         by_cases c52 : x115_35 = true
         ·subst c52
          have H1 : (some false) = some r := by rw [if_pos rfl] at H; exact H
          clear H; have H := H1; clear H1
          obtain rfl := Option.some.inj H
          go_wp2
          go_ret
          exact ⟨by first | rfl | (simp [errW_none, errW_some] <;> rfl) | (simp [*, errW_none, errW_some] <;> rfl), by repeat (first | (with_reducible first | exact HB.out | apply below_alloc | apply pw_below_drewN | apply below_drew1) | exact HB.out)⟩
         ·as_aux_lemma =>
          replace c52 := Bool.eq_false_iff.mpr c52
          subst c52
          have H1 : (if t608 = true then (if (t607.length : Int) = t615 then (laws_FnMarkovModulo.l0 kj35 l1 t604 t607 false t607 (t607.length : Int) 0) else (some false)) else (laws_FnMarkovModulo.j4 kj35 l1)) = some r := by rw [if_neg (show ¬ (false = true) by decide)] at H; exact H
          clear H; have H := H1; clear H1
          have HC53 := Aside0.mk H
          clear H
          go_upto_if 116 with (fail)
          go_cut [] (fun wc => ∃ (kq : Nat), Aside0 (laws_FnMarkovModulo.j4 kq l1 = some r) ∧ Aside0 (kq ≤ kj35) ∧ Aside0 (Below w.heap.size w wc))
          case first => as_aux_lemma =>
           have H := HC53.out; clear HC53
           by_cases c54 : t608 = true
           ·as_aux_lemma =>
            subst c54
            have H1 : (if (t607.length : Int) = t615 then (laws_FnMarkovModulo.l0 kj35 l1 t604 t607 false t607 (t607.length : Int) 0) else (some false)) = some r := by rw [if_pos rfl] at H; exact H
            clear H; have H := H1; clear H1
            by_cases c55 : (t607.length : Int) = t615
            ·as_aux_lemma =>
             rw [if_pos c55] at H
             have c55b0 : ((t607.length : Int) == t615) = true := beq_iff_eq.mpr c55
             have c55b1 : ((t607.length : Int) != t615) = false := bne_eq_false_iff_eq.mpr c55
             clear c55
             (first | rw [c55b0] | (simp only [i64_w, i32_w]; rw [c55b0]) | skip)
             have H' := Aside0.mk H
             clear H
             obtain ⟨Ao56, co56, eo56⟩ := Kd.N_slice HO_16.out
             subst eo56
             go_wp2
             go_loopg [22, 123] kj35 (fun kq v22 v123 w' => ∃ (x22_4 : Bool) (x123_4 : Int), v22 = .bool x22_4 ∧ v123 = .int .i64 x123_4 ∧ Aside0 (laws_FnMarkovModulo.l0 kq l1 t604 t607 x22_4 t607 (t607.length : Int) x123_4 = some r) ∧ Aside0 (kq ≤ kj35) ∧ Aside0 (Kd.R (Kd.int .i64) 3 w' w.heap.size (fun _ => True) (.slice Ao38 t604.length co38) t604) ∧ Aside0 (Kd.N (Kd.slice 3 (Kd.int .i64)) 22 w' w.heap.size (fun k_ => some k_ ≠ ((.slice Ao38 t604.length co38) : Value).ownBlock) (.slice Ao56 t607.length co56) t607) ∧ Aside0 (Kd.N (Kd.slice 3 (Kd.int .i64)) 22 w' w.heap.size (fun k_ => some k_ ≠ ((.slice Ao38 t604.length co38) : Value).ownBlock) (.slice Ao56 t607.length co56) t607) ∧ Aside0 (Below w.heap.size w w'))
             case atStart => exact ⟨(false), (0), (by first | rfl | (simp; done) | (simp [*]; done)), (by first | rfl | (simp; done) | (simp [*]; done)), H', ⟨Nat.le_refl _⟩, ⟨by (with_reducible repeat (first | apply Kd.R_alloc | apply Kd.R_drewN | apply Kd.R_drew)); exact HO_15.out⟩, ⟨by (with_reducible repeat (first | apply Kd.N_alloc | apply Kd.N_drewN | apply Kd.N_drew)); exact HO_16.out⟩, ⟨by (with_reducible repeat (first | apply Kd.N_alloc | apply Kd.N_drewN | apply Kd.N_drew)); exact HO_16.out⟩, ⟨by repeat (first | (with_reducible first | exact HB.out | apply below_alloc | apply pw_below_drewN | apply below_drew1) | exact HB.out)⟩⟩
             case round => as_aux_lemma =>
              clear H'
              try clear c1
              try clear c2
              try clear p2
              try clear c3
              try clear c4
              try clear c5
              try clear c11
              try clear c13
              try clear c13b0
              try clear c13b1
              try clear c13b2
              try clear c17
              try clear c19
              try clear c20
              try clear c21
              try clear c23
              try clear c36
              try clear c37
              try clear c38
              try clear c39
              try clear c41
              try clear c42
              try clear c42b0
              try clear c42b1
              try clear c42b2
              try clear c44
              try clear c45
              try clear c52
              try clear c54
              try clear c55
              try clear c55b0
              try clear c55b1
              try clear p2
              obtain ⟨x22_4, x123_4, rfl, rfl, HA, HK4, HO_15, HO_16, HO_121, HB⟩ := hrel
              cases gk with
              | zero => exact absurd HA.out (by simp [laws_FnMarkovModulo.l0])
              | succ k4 =>
               have H := HA.out; clear HA
               simp only [laws_FnMarkovModulo.l0] at H
               by_cases c57 : x123_4 < (t607.length : Int)
               ·as_aux_lemma =>
                rw [if_pos c57] at H
                have c57b0 : decide (x123_4 < (t607.length : Int)) = true := decide_eq_true c57
                clear c57
                by_cases c58 : 0 ≤ x123_4
                rotate_left
                ·rw [if_neg c58] at H
                 exact absurd H (by simp)
                as_aux_lemma =>
                rw [if_pos c58] at H
                have c58b0 : decide (0 ≤ x123_4) = true := decide_eq_true c58
                clear c58
                by_cases c59 : x123_4 < (t607.length : Int)
                rotate_left
                ·rw [if_neg c59] at H
                 exact absurd H (by simp)
                as_aux_lemma =>
                rw [if_pos c59] at H
                have c59b0 : decide (x123_4 < (t607.length : Int)) = true := decide_eq_true c59
                clear c59
                by_cases c60 : x22_4 = true
                ·as_aux_lemma =>
                 subst c60
                 have H1 : (if x123_4 > 0 then (if 0 ≤ (wrap64 (x123_4 - 1)) then (if (wrap64 (x123_4 - 1)) < (t607.length : Int) then ((laws_dLess.f k4 (rd_L1 t607 (wrap64 (x123_4 - 1))) (rd_L1 t607 x123_4)).bind fun t620 => (if t620 = true then (laws_FnMarkovModulo.l0 k4 l1 t604 t607 true t607 (t607.length : Int) (wrap64 (x123_4 + 1))) else (some false))) else (none)) else (none)) else (laws_FnMarkovModulo.l0 k4 l1 t604 t607 true t607 (t607.length : Int) (wrap64 (x123_4 + 1)))) = some r := by rw [if_pos rfl] at H; exact H
                 clear H; have H := H1; clear H1
                 by_cases c61 : x123_4 > 0
                 ·as_aux_lemma =>
                  rw [if_pos c61] at H
                  have c61b0 : decide (0 < x123_4) = true := decide_eq_true c61
                  clear c61
                  obtain ⟨ji62, hji62⟩ : ∃ j_ : Int, (wrap64 (x123_4 - 1)) = j_ := ⟨_, rfl⟩
                  replace H : (if 0 ≤ (ji62) then (if (ji62) < (t607.length : Int) then ((laws_dLess.f k4 (rd_L1 t607 (ji62)) (rd_L1 t607 x123_4)).bind fun t620 => (if t620 = true then (laws_FnMarkovModulo.l0 k4 l1 t604 t607 true t607 (t607.length : Int) (wrap64 (x123_4 + 1))) else (some false))) else (none)) else (none)) = some r := by first | (rw [hji62] at H; exact H) | (simp only [hji62] at H ⊢; exact H)
                  have hji62w : (IntKind.i64.wrap (x123_4 - 1)) = ji62 := (i64_w _).trans hji62
                  by_cases c63 : 0 ≤ (ji62)
                  rotate_left
                  ·rw [if_neg c63] at H
                   exact absurd H (by simp)
                  as_aux_lemma =>
                  rw [if_pos c63] at H
                  have c63b0 : decide (0 ≤ (ji62)) = true := decide_eq_true c63
                  clear c63
                  by_cases c64 : (ji62) < (t607.length : Int)
                  rotate_left
                  ·rw [if_neg c64] at H
                   exact absurd H (by simp)
                  as_aux_lemma =>
                  rw [if_pos c64] at H
                  have c64b0 : decide ((ji62) < (t607.length : Int)) = true := decide_eq_true c64
                  clear c64
                  replace H := Option.bind_eq_some_iff.mp H
                  obtain ⟨t620, A650, H⟩ := H
                  replace H : (if t620 = true then (laws_FnMarkovModulo.l0 k4 l1 t604 t607 true t607 (t607.length : Int) (wrap64 (x123_4 + 1))) else (some false)) = some r := H
                  have A65 := Aside0.mk A650
                  clear A650
                  by_cases c66 : t620 = true
                  ·as_aux_lemma =>
                   subst c66
                   have H1 : (laws_FnMarkovModulo.l0 k4 l1 t604 t607 true t607 (t607.length : Int) (wrap64 (x123_4 + 1))) = some r := by rw [if_pos rfl] at H; exact H
                   clear H; have H := H1; clear H1
                   have H' := Aside0.mk H
                   clear H
                   have p618 : 0 ≤ (x123_4 : Int) := of_decide_eq_true (by first | (with_reducible assumption) | assumption)
                   have q618 : x123_4 < (t607.length : Int) := of_decide_eq_true (by first | (with_reducible assumption) | assumption)
                   obtain ⟨ad618, A618_0, c618_0, e618, hx618_0, hl618_0, hi618_0⟩ := at_L1 (Kd.N_reads' HO_121.out).2.2 x123_4 p618 q618
                   cases e618
                   obtain ⟨ce618, hce618, hMe618, hcc618⟩ := Kd.N_get HO_121.out [] x123_4 p618 (by first | exact q618 | exact of_decide_eq_true (by first | (with_reducible assumption) | assumption) | (have e_ := (Kd.N_reads' HO_121.out).1; omega))
                   obtain ⟨ua618_0, uc618_0, rfl, ul618_0, ge618_0⟩ := Kd.FK_slice_open hMe618
                   have hv618_0 := hcc618 0 _ rfl
                   rw [Nat.add_zero, show ((Kd.slice 3 (Kd.int .i64))).sz = 1 from rfl, Nat.mul_one] at hv618_0
                   replace hv618_0 := Option.some.inj (hv618_0.symm.trans hx618_0)
                   injection hv618_0 with hva_ hvn_ hvc_
                   rw [hva_] at ge618_0
                   rw [hvc_] at ul618_0
                   have HL618_0 := Aside0.mk (show Kd.V (Kd.int .i64) 3 _ w.heap.size _ _ (rd_L1 t607 x123_4) from Kd.V_mk ul618_0 ge618_0)
                   clear hva_ hvn_ hvc_ ge618_0 ul618_0; clear hcc618 hce618
                   have HR618_0 := Aside0.mk hi618_0
                   have HC618_0 := Aside0.mk hl618_0
                   clear hi618_0 hl618_0; replace p618 := eq_true p618; replace q618 := eq_true q618
                   have p619 : 0 ≤ ((ji62) : Int) := of_decide_eq_true (by first | (with_reducible assumption) | assumption)
                   have q619 : (ji62) < (t607.length : Int) := of_decide_eq_true (by first | (with_reducible assumption) | assumption)
                   obtain ⟨ad619, A619_0, c619_0, e619, hx619_0, hl619_0, hi619_0⟩ := at_L1 (Kd.N_reads' HO_16.out).2.2 (ji62) p619 q619
                   obtain rfl : ad618 = ad619 := (by injection e619)
                   obtain ⟨ce619, hce619, hMe619, hcc619⟩ := Kd.N_get HO_16.out [] (ji62) p619 (by first | exact q619 | exact of_decide_eq_true (by first | (with_reducible assumption) | assumption) | (have e_ := (Kd.N_reads' HO_16.out).1; omega))
                   obtain ⟨ua619_0, uc619_0, rfl, ul619_0, ge619_0⟩ := Kd.FK_slice_open hMe619
                   have hv619_0 := hcc619 0 _ rfl
                   rw [Nat.add_zero, show ((Kd.slice 3 (Kd.int .i64))).sz = 1 from rfl, Nat.mul_one] at hv619_0
                   replace hv619_0 := Option.some.inj (hv619_0.symm.trans hx619_0)
                   injection hv619_0 with hva_ hvn_ hvc_
                   rw [hva_] at ge619_0
                   rw [hvc_] at ul619_0
                   have HL619_0 := Aside0.mk (show Kd.V (Kd.int .i64) 3 _ w.heap.size _ _ (rd_L1 t607 (ji62)) from Kd.V_mk ul619_0 ge619_0)
                   clear hva_ hvn_ hvc_ ge619_0 ul619_0; clear hcc619 hce619
                   have HR619_0 := Aside0.mk hi619_0
                   have HC619_0 := Aside0.mk hl619_0
                   clear hi619_0 hl619_0; replace p619 := eq_true p619; replace q619 := eq_true q619
                   go_wp2_with (first | (go_at_call 44; (with_reducible refine (laws_dLess.calls k4 _ _ (rd_L1 t607 (ji62)) _ _ (rd_L1 t607 x123_4) true _ ?side1 ?side2 ?side3 ?side4 A65.out).mono ?_); (case side1 => repeat (first | exact (by repeat (first | (with_reducible exact HR619_0.out) | (with_reducible refine Kd.C_alloc ?_ _) | (with_reducible refine Kd.C_drewN ?_ _) | (with_reducible refine Kd.C_drew ?_) | exact HR619_0.out)) | (with_reducible refine Kd.C_alloc ?_ _) | (with_reducible refine Kd.C_drewN ?_ _) | (with_reducible refine Kd.C_drew ?_))); (case side2 => exact HC619_0.out); (case side3 => repeat (first | exact (by repeat (first | (with_reducible exact HR618_0.out) | (with_reducible refine Kd.C_alloc ?_ _) | (with_reducible refine Kd.C_drewN ?_ _) | (with_reducible refine Kd.C_drew ?_) | exact HR618_0.out)) | (with_reducible refine Kd.C_alloc ?_ _) | (with_reducible refine Kd.C_drewN ?_ _) | (with_reducible refine Kd.C_drew ?_))); (case side4 => exact HC618_0.out); rintro e w' ⟨rfl, ⟨nd, rfl⟩⟩))
                   go_roundg k4
                   case measure => have := HJ7.out; have := HJ17.out; have := HJ35.out; have := HK4.out; omega
                   case rel => exact ⟨(true), (wrap64 (x123_4 + 1)), (by first | rfl | (simp; done) | (simp [*]; done)), (by first | rfl | (simp; done) | (simp [*]; done)), H', ⟨by have := HJ7.out; have := HJ17.out; have := HJ35.out; have := HK4.out; omega⟩, ⟨by (with_reducible repeat (first | apply Kd.R_alloc | apply Kd.R_drewN | apply Kd.R_drew)); exact HO_15.out⟩, ⟨by (with_reducible repeat (first | apply Kd.N_alloc | apply Kd.N_drewN | apply Kd.N_drew)); exact HO_16.out⟩, ⟨by (with_reducible repeat (first | apply Kd.N_alloc | apply Kd.N_drewN | apply Kd.N_drew)); exact HO_121.out⟩, ⟨by repeat (first | (with_reducible first | exact HB.out | apply below_alloc | apply pw_below_drewN | apply below_drew1) | exact HB.out)⟩⟩
                  ·as_aux_lemma =>
                   replace c66 := Bool.eq_false_iff.mpr c66
                   subst c66
                   have H1 : (some false) = some r := by rw [if_neg (show ¬ (false = true) by decide)] at H; exact H
                   clear H; have H := H1; clear H1
                   obtain rfl := Option.some.inj H
                   have p618 : 0 ≤ (x123_4 : Int) := of_decide_eq_true (by first | (with_reducible assumption) | assumption)
                   have q618 : x123_4 < (t607.length : Int) := of_decide_eq_true (by first | (with_reducible assumption) | assumption)
                   obtain ⟨ad618, A618_0, c618_0, e618, hx618_0, hl618_0, hi618_0⟩ := at_L1 (Kd.N_reads' HO_121.out).2.2 x123_4 p618 q618
                   cases e618
                   obtain ⟨ce618, hce618, hMe618, hcc618⟩ := Kd.N_get HO_121.out [] x123_4 p618 (by first | exact q618 | exact of_decide_eq_true (by first | (with_reducible assumption) | assumption) | (have e_ := (Kd.N_reads' HO_121.out).1; omega))
                   obtain ⟨ua618_0, uc618_0, rfl, ul618_0, ge618_0⟩ := Kd.FK_slice_open hMe618
                   have hv618_0 := hcc618 0 _ rfl
                   rw [Nat.add_zero, show ((Kd.slice 3 (Kd.int .i64))).sz = 1 from rfl, Nat.mul_one] at hv618_0
                   replace hv618_0 := Option.some.inj (hv618_0.symm.trans hx618_0)
                   injection hv618_0 with hva_ hvn_ hvc_
                   rw [hva_] at ge618_0
                   rw [hvc_] at ul618_0
                   have HL618_0 := Aside0.mk (show Kd.V (Kd.int .i64) 3 _ w.heap.size _ _ (rd_L1 t607 x123_4) from Kd.V_mk ul618_0 ge618_0)
                   clear hva_ hvn_ hvc_ ge618_0 ul618_0; clear hcc618 hce618
                   have HR618_0 := Aside0.mk hi618_0
                   have HC618_0 := Aside0.mk hl618_0
                   clear hi618_0 hl618_0; replace p618 := eq_true p618; replace q618 := eq_true q618
                   have p619 : 0 ≤ ((ji62) : Int) := of_decide_eq_true (by first | (with_reducible assumption) | assumption)
                   have q619 : (ji62) < (t607.length : Int) := of_decide_eq_true (by first | (with_reducible assumption) | assumption)
                   obtain ⟨ad619, A619_0, c619_0, e619, hx619_0, hl619_0, hi619_0⟩ := at_L1 (Kd.N_reads' HO_16.out).2.2 (ji62) p619 q619
                   obtain rfl : ad618 = ad619 := (by injection e619)
                   obtain ⟨ce619, hce619, hMe619, hcc619⟩ := Kd.N_get HO_16.out [] (ji62) p619 (by first | exact q619 | exact of_decide_eq_true (by first | (with_reducible assumption) | assumption) | (have e_ := (Kd.N_reads' HO_16.out).1; omega))
                   obtain ⟨ua619_0, uc619_0, rfl, ul619_0, ge619_0⟩ := Kd.FK_slice_open hMe619
                   have hv619_0 := hcc619 0 _ rfl
                   rw [Nat.add_zero, show ((Kd.slice 3 (Kd.int .i64))).sz = 1 from rfl, Nat.mul_one] at hv619_0
                   replace hv619_0 := Option.some.inj (hv619_0.symm.trans hx619_0)
                   injection hv619_0 with hva_ hvn_ hvc_
                   rw [hva_] at ge619_0
                   rw [hvc_] at ul619_0
                   have HL619_0 := Aside0.mk (show Kd.V (Kd.int .i64) 3 _ w.heap.size _ _ (rd_L1 t607 (ji62)) from Kd.V_mk ul619_0 ge619_0)
                   clear hva_ hvn_ hvc_ ge619_0 ul619_0; clear hcc619 hce619
                   have HR619_0 := Aside0.mk hi619_0
                   have HC619_0 := Aside0.mk hl619_0
                   clear hi619_0 hl619_0; replace p619 := eq_true p619; replace q619 := eq_true q619
                   go_wp2_with (first | (go_at_call 44; (with_reducible refine (laws_dLess.calls k4 _ _ (rd_L1 t607 (ji62)) _ _ (rd_L1 t607 x123_4) false _ ?side1 ?side2 ?side3 ?side4 A65.out).mono ?_); (case side1 => repeat (first | exact (by repeat (first | (with_reducible exact HR619_0.out) | (with_reducible refine Kd.C_alloc ?_ _) | (with_reducible refine Kd.C_drewN ?_ _) | (with_reducible refine Kd.C_drew ?_) | exact HR619_0.out)) | (with_reducible refine Kd.C_alloc ?_ _) | (with_reducible refine Kd.C_drewN ?_ _) | (with_reducible refine Kd.C_drew ?_))); (case side2 => exact HC619_0.out); (case side3 => repeat (first | exact (by repeat (first | (with_reducible exact HR618_0.out) | (with_reducible refine Kd.C_alloc ?_ _) | (with_reducible refine Kd.C_drewN ?_ _) | (with_reducible refine Kd.C_drew ?_) | exact HR618_0.out)) | (with_reducible refine Kd.C_alloc ?_ _) | (with_reducible refine Kd.C_drewN ?_ _) | (with_reducible refine Kd.C_drew ?_))); (case side4 => exact HC618_0.out); rintro e w' ⟨rfl, ⟨nd, rfl⟩⟩))
                   go_ret
                   exact ⟨by first | rfl | (simp [errW_none, errW_some] <;> rfl) | (simp only [← hji62]; first | rfl | (simp [errW_none, errW_some] <;> rfl)) | (simp [*, errW_none, errW_some] <;> rfl), by repeat (first | (with_reducible first | exact HB.out | apply below_alloc | apply pw_below_drewN | apply below_drew1) | exact HB.out)⟩
                 ·as_aux_lemma =>
                  rw [if_neg c61] at H
                  have c61b0 : decide (0 < x123_4) = false := decide_eq_false c61
                  clear c61
                  have H' := Aside0.mk H
                  clear H
                  have p618 : 0 ≤ (x123_4 : Int) := of_decide_eq_true (by first | (with_reducible assumption) | assumption)
                  have q618 : x123_4 < (t607.length : Int) := of_decide_eq_true (by first | (with_reducible assumption) | assumption)
                  obtain ⟨ad618, A618_0, c618_0, e618, hx618_0, hl618_0, hi618_0⟩ := at_L1 (Kd.N_reads' HO_121.out).2.2 x123_4 p618 q618
                  cases e618
                  obtain ⟨ce618, hce618, hMe618, hcc618⟩ := Kd.N_get HO_121.out [] x123_4 p618 (by first | exact q618 | exact of_decide_eq_true (by first | (with_reducible assumption) | assumption) | (have e_ := (Kd.N_reads' HO_121.out).1; omega))
                  obtain ⟨ua618_0, uc618_0, rfl, ul618_0, ge618_0⟩ := Kd.FK_slice_open hMe618
                  have hv618_0 := hcc618 0 _ rfl
                  rw [Nat.add_zero, show ((Kd.slice 3 (Kd.int .i64))).sz = 1 from rfl, Nat.mul_one] at hv618_0
                  replace hv618_0 := Option.some.inj (hv618_0.symm.trans hx618_0)
                  injection hv618_0 with hva_ hvn_ hvc_
                  rw [hva_] at ge618_0
                  rw [hvc_] at ul618_0
                  have HL618_0 := Aside0.mk (show Kd.V (Kd.int .i64) 3 _ w.heap.size _ _ (rd_L1 t607 x123_4) from Kd.V_mk ul618_0 ge618_0)
                  clear hva_ hvn_ hvc_ ge618_0 ul618_0; clear hcc618 hce618
                  have HR618_0 := Aside0.mk hi618_0
                  have HC618_0 := Aside0.mk hl618_0
                  clear hi618_0 hl618_0; replace p618 := eq_true p618; replace q618 := eq_true q618
                  go_wp2
                  go_roundg k4
                  case measure => have := HJ7.out; have := HJ17.out; have := HJ35.out; have := HK4.out; omega
                  case rel => exact ⟨(true), (wrap64 (x123_4 + 1)), (by first | rfl | (simp; done) | (simp [*]; done)), (by first | rfl | (simp; done) | (simp [*]; done)), H', ⟨by have := HJ7.out; have := HJ17.out; have := HJ35.out; have := HK4.out; omega⟩, ⟨by (with_reducible repeat (first | apply Kd.R_alloc | apply Kd.R_drewN | apply Kd.R_drew)); exact HO_15.out⟩, ⟨by (with_reducible repeat (first | apply Kd.N_alloc | apply Kd.N_drewN | apply Kd.N_drew)); exact HO_16.out⟩, ⟨by (with_reducible repeat (first | apply Kd.N_alloc | apply Kd.N_drewN | apply Kd.N_drew)); exact HO_121.out⟩, ⟨by repeat (first | (with_reducible first | exact HB.out | apply below_alloc | apply pw_below_drewN | apply below_drew1) | exact HB.out)⟩⟩
                ·as_aux_lemma =>
                 replace c60 := Bool.eq_false_iff.mpr c60
                 subst c60
                 have H1 : ((laws_dSame.f k4 (rd_L1 t607 x123_4) t604).bind fun t621 => (if x123_4 > 0 then (if 0 ≤ (wrap64 (x123_4 - 1)) then (if (wrap64 (x123_4 - 1)) < (t607.length : Int) then ((laws_dLess.f k4 (rd_L1 t607 (wrap64 (x123_4 - 1))) (rd_L1 t607 x123_4)).bind fun t623 => (if t623 = true then (laws_FnMarkovModulo.l0 k4 l1 t604 t607 t621 t607 (t607.length : Int) (wrap64 (x123_4 + 1))) else (some false))) else (none)) else (none)) else (laws_FnMarkovModulo.l0 k4 l1 t604 t607 t621 t607 (t607.length : Int) (wrap64 (x123_4 + 1))))) = some r := by rw [if_neg (show ¬ (false = true) by decide)] at H; exact H
                 clear H; have H := H1; clear H1
                 replace H := Option.bind_eq_some_iff.mp H
                 obtain ⟨t621, A670, H⟩ := H
                 replace H : (if x123_4 > 0 then (if 0 ≤ (wrap64 (x123_4 - 1)) then (if (wrap64 (x123_4 - 1)) < (t607.length : Int) then ((laws_dLess.f k4 (rd_L1 t607 (wrap64 (x123_4 - 1))) (rd_L1 t607 x123_4)).bind fun t623 => (if t623 = true then (laws_FnMarkovModulo.l0 k4 l1 t604 t607 t621 t607 (t607.length : Int) (wrap64 (x123_4 + 1))) else (some false))) else (none)) else (none)) else (laws_FnMarkovModulo.l0 k4 l1 t604 t607 t621 t607 (t607.length : Int) (wrap64 (x123_4 + 1)))) = some r := H
                 have A67 := Aside0.mk A670
                 clear A670
                 by_cases c68 : x123_4 > 0
                 ·as_aux_lemma =>
                  rw [if_pos c68] at H
                  have c68b0 : decide (0 < x123_4) = true := decide_eq_true c68
                  clear c68
                  obtain ⟨ji69, hji69⟩ : ∃ j_ : Int, (wrap64 (x123_4 - 1)) = j_ := ⟨_, rfl⟩
                  replace H : (if 0 ≤ (ji69) then (if (ji69) < (t607.length : Int) then ((laws_dLess.f k4 (rd_L1 t607 (ji69)) (rd_L1 t607 x123_4)).bind fun t623 => (if t623 = true then (laws_FnMarkovModulo.l0 k4 l1 t604 t607 t621 t607 (t607.length : Int) (wrap64 (x123_4 + 1))) else (some false))) else (none)) else (none)) = some r := by first | (rw [hji69] at H; exact H) | (simp only [hji69] at H ⊢; exact H)
                  (try rw [hji69] at A67)
                  have hji69w : (IntKind.i64.wrap (x123_4 - 1)) = ji69 := (i64_w _).trans hji69
                  by_cases c70 : 0 ≤ (ji69)
                  rotate_left
                  ·rw [if_neg c70] at H
                   exact absurd H (by simp)
                  as_aux_lemma =>
                  rw [if_pos c70] at H
                  have c70b0 : decide (0 ≤ (ji69)) = true := decide_eq_true c70
                  clear c70
                  by_cases c71 : (ji69) < (t607.length : Int)
                  rotate_left
                  ·rw [if_neg c71] at H
                   exact absurd H (by simp)
                  as_aux_lemma =>
                  rw [if_pos c71] at H
                  have c71b0 : decide ((ji69) < (t607.length : Int)) = true := decide_eq_true c71
                  clear c71
                  replace H := Option.bind_eq_some_iff.mp H
                  obtain ⟨t623, A720, H⟩ := H
                  replace H : (if t623 = true then (laws_FnMarkovModulo.l0 k4 l1 t604 t607 t621 t607 (t607.length : Int) (wrap64 (x123_4 + 1))) else (some false)) = some r := H
                  have A72 := Aside0.mk A720
                  clear A720
                  by_cases c73 : t623 = true
                  ·as_aux_lemma =>
                   subst c73
                   have H1 : (laws_FnMarkovModulo.l0 k4 l1 t604 t607 t621 t607 (t607.length : Int) (wrap64 (x123_4 + 1))) = some r := by rw [if_pos rfl] at H; exact H
                   clear H; have H := H1; clear H1
                   have H' := Aside0.mk H
                   clear H
                   have p618 : 0 ≤ (x123_4 : Int) := of_decide_eq_true (by first | (with_reducible assumption) | assumption)
                   have q618 : x123_4 < (t607.length : Int) := of_decide_eq_true (by first | (with_reducible assumption) | assumption)
                   obtain ⟨ad618, A618_0, c618_0, e618, hx618_0, hl618_0, hi618_0⟩ := at_L1 (Kd.N_reads' HO_121.out).2.2 x123_4 p618 q618
                   cases e618
                   obtain ⟨ce618, hce618, hMe618, hcc618⟩ := Kd.N_get HO_121.out [] x123_4 p618 (by first | exact q618 | exact of_decide_eq_true (by first | (with_reducible assumption) | assumption) | (have e_ := (Kd.N_reads' HO_121.out).1; omega))
                   obtain ⟨ua618_0, uc618_0, rfl, ul618_0, ge618_0⟩ := Kd.FK_slice_open hMe618
                   have hv618_0 := hcc618 0 _ rfl
                   rw [Nat.add_zero, show ((Kd.slice 3 (Kd.int .i64))).sz = 1 from rfl, Nat.mul_one] at hv618_0
                   replace hv618_0 := Option.some.inj (hv618_0.symm.trans hx618_0)
                   injection hv618_0 with hva_ hvn_ hvc_
                   rw [hva_] at ge618_0
                   rw [hvc_] at ul618_0
                   have HL618_0 := Aside0.mk (show Kd.V (Kd.int .i64) 3 _ w.heap.size _ _ (rd_L1 t607 x123_4) from Kd.V_mk ul618_0 ge618_0)
                   clear hva_ hvn_ hvc_ ge618_0 ul618_0; clear hcc618 hce618
                   have HR618_0 := Aside0.mk hi618_0
                   have HC618_0 := Aside0.mk hl618_0
                   clear hi618_0 hl618_0; replace p618 := eq_true p618; replace q618 := eq_true q618
                   go_wp2_with (first | (go_at_call 40; (with_reducible refine (laws_dSame.calls k4 _ _ (rd_L1 t607 x123_4) _ _ t604 t621 _ ?side1 ?side2 ?side3 ?side4 A67.out).mono ?_); (case side1 => repeat (first | exact (by repeat (first | (with_reducible exact HR618_0.out) | (with_reducible refine Kd.C_alloc ?_ _) | (with_reducible refine Kd.C_drewN ?_ _) | (with_reducible refine Kd.C_drew ?_) | exact HR618_0.out)) | (with_reducible refine Kd.C_alloc ?_ _) | (with_reducible refine Kd.C_drewN ?_ _) | (with_reducible refine Kd.C_drew ?_))); (case side2 => exact HC618_0.out); (case side3 => repeat (first | exact (Kd.R_reads' HO_15.out).2.2 | (with_reducible refine Kd.C_alloc ?_ _) | (with_reducible refine Kd.C_drewN ?_ _) | (with_reducible refine Kd.C_drew ?_))); (case side4 => exact (Kd.R_reads' HO_15.out).2.1); rintro e w' ⟨rfl, ⟨nd, rfl⟩⟩; have p622 : 0 ≤ ((ji69) : Int) := of_decide_eq_true (by first | (with_reducible assumption) | assumption); have q622 : (ji69) < (t607.length : Int) := of_decide_eq_true (by first | (with_reducible assumption) | assumption); obtain ⟨ad622, A622_0, c622_0, e622, hx622_0, hl622_0, hi622_0⟩ := at_L1 (Kd.N_reads' HO_16.out).2.2 (ji69) p622 q622; obtain rfl : ad618 = ad622 := (by injection e622); obtain ⟨ce622, hce622, hMe622, hcc622⟩ := Kd.N_get HO_16.out [] (ji69) p622 (by first | exact q622 | exact of_decide_eq_true (by first | (with_reducible assumption) | assumption) | (have e_ := (Kd.N_reads' HO_16.out).1; omega)); obtain ⟨ua622_0, uc622_0, rfl, ul622_0, ge622_0⟩ := Kd.FK_slice_open hMe622; have hv622_0 := hcc622 0 _ rfl; rw [Nat.add_zero, show ((Kd.slice 3 (Kd.int .i64))).sz = 1 from rfl, Nat.mul_one] at hv622_0; replace hv622_0 := Option.some.inj (hv622_0.symm.trans hx622_0); injection hv622_0 with hva_ hvn_ hvc_; rw [hva_] at ge622_0; rw [hvc_] at ul622_0; have HL622_0 := Aside0.mk (show Kd.V (Kd.int .i64) 3 _ w.heap.size _ _ (rd_L1 t607 (ji69)) from Kd.V_mk ul622_0 ge622_0); clear hva_ hvn_ hvc_ ge622_0 ul622_0; clear hcc622 hce622; have HR622_0 := Aside0.mk hi622_0; have HC622_0 := Aside0.mk hl622_0; clear hi622_0 hl622_0; replace p622 := eq_true p622; replace q622 := eq_true q622) | (go_at_call 44; (with_reducible refine (laws_dLess.calls k4 _ _ (rd_L1 t607 (ji69)) _ _ (rd_L1 t607 x123_4) true _ ?side1 ?side2 ?side3 ?side4 A72.out).mono ?_); (case side1 => repeat (first | exact (by repeat (first | (with_reducible exact HR622_0.out) | (with_reducible refine Kd.C_alloc ?_ _) | (with_reducible refine Kd.C_drewN ?_ _) | (with_reducible refine Kd.C_drew ?_) | exact HR622_0.out)) | (with_reducible refine Kd.C_alloc ?_ _) | (with_reducible refine Kd.C_drewN ?_ _) | (with_reducible refine Kd.C_drew ?_))); (case side2 => exact HC622_0.out); (case side3 => repeat (first | exact (by repeat (first | (with_reducible exact HR618_0.out) | (with_reducible refine Kd.C_alloc ?_ _) | (with_reducible refine Kd.C_drewN ?_ _) | (with_reducible refine Kd.C_drew ?_) | exact HR618_0.out)) | (with_reducible refine Kd.C_alloc ?_ _) | (with_reducible refine Kd.C_drewN ?_ _) | (with_reducible refine Kd.C_drew ?_))); (case side4 => exact HC618_0.out); rintro e w' ⟨rfl, ⟨nd, rfl⟩⟩))
                   go_roundg k4
                   case measure => have := HJ7.out; have := HJ17.out; have := HJ35.out; have := HK4.out; omega
                   case rel => exact ⟨(t621), (wrap64 (x123_4 + 1)), (by first | rfl | (simp; done) | (simp [*]; done)), (by first | rfl | (simp; done) | (simp [*]; done)), H', ⟨by have := HJ7.out; have := HJ17.out; have := HJ35.out; have := HK4.out; omega⟩, ⟨by (with_reducible repeat (first | apply Kd.R_alloc | apply Kd.R_drewN | apply Kd.R_drew)); exact HO_15.out⟩, ⟨by (with_reducible repeat (first | apply Kd.N_alloc | apply Kd.N_drewN | apply Kd.N_drew)); exact HO_16.out⟩, ⟨by (with_reducible repeat (first | apply Kd.N_alloc | apply Kd.N_drewN | apply Kd.N_drew)); exact HO_121.out⟩, ⟨by repeat (first | (with_reducible first | exact HB.out | apply below_alloc | apply pw_below_drewN | apply below_drew1) | exact HB.out)⟩⟩
                  ·as_aux_lemma =>
                   replace c73 := Bool.eq_false_iff.mpr c73
                   subst c73
                   have H1 : (some false) = some r := by rw [if_neg (show ¬ (false = true) by decide)] at H; exact H
                   clear H; have H := H1; clear H1
                   obtain rfl := Option.some.inj H
                   have p618 : 0 ≤ (x123_4 : Int) := of_decide_eq_true (by first | (with_reducible assumption) | assumption)
                   have q618 : x123_4 < (t607.length : Int) := of_decide_eq_true (by first | (with_reducible assumption) | assumption)
                   obtain ⟨ad618, A618_0, c618_0, e618, hx618_0, hl618_0, hi618_0⟩ := at_L1 (Kd.N_reads' HO_121.out).2.2 x123_4 p618 q618
                   cases e618
                   obtain ⟨ce618, hce618, hMe618, hcc618⟩ := Kd.N_get HO_121.out [] x123_4 p618 (by first | exact q618 | exact of_decide_eq_true (by first | (with_reducible assumption) | assumption) | (have e_ := (Kd.N_reads' HO_121.out).1; omega))
                   obtain ⟨ua618_0, uc618_0, rfl, ul618_0, ge618_0⟩ := Kd.FK_slice_open hMe618
                   have hv618_0 := hcc618 0 _ rfl
                   rw [Nat.add_zero, show ((Kd.slice 3 (Kd.int .i64))).sz = 1 from rfl, Nat.mul_one] at hv618_0
                   replace hv618_0 := Option.some.inj (hv618_0.symm.trans hx618_0)
                   injection hv618_0 with hva_ hvn_ hvc_
                   rw [hva_] at ge618_0
                   rw [hvc_] at ul618_0
                   have HL618_0 := Aside0.mk (show Kd.V (Kd.int .i64) 3 _ w.heap.size _ _ (rd_L1 t607 x123_4) from Kd.V_mk ul618_0 ge618_0)
                   clear hva_ hvn_ hvc_ ge618_0 ul618_0; clear hcc618 hce618
                   have HR618_0 := Aside0.mk hi618_0
                   have HC618_0 := Aside0.mk hl618_0
                   clear hi618_0 hl618_0; replace p618 := eq_true p618; replace q618 := eq_true q618
                   go_wp2_with (first | (go_at_call 40; (with_reducible refine (laws_dSame.calls k4 _ _ (rd_L1 t607 x123_4) _ _ t604 t621 _ ?side1 ?side2 ?side3 ?side4 A67.out).mono ?_); (case side1 => repeat (first | exact (by repeat (first | (with_reducible exact HR618_0.out) | (with_reducible refine Kd.C_alloc ?_ _) | (with_reducible refine Kd.C_drewN ?_ _) | (with_reducible refine Kd.C_drew ?_) | exact HR618_0.out)) | (with_reducible refine Kd.C_alloc ?_ _) | (with_reducible refine Kd.C_drewN ?_ _) | (with_reducible refine Kd.C_drew ?_))); (case side2 => exact HC618_0.out); (case side3 => repeat (first | exact (Kd.R_reads' HO_15.out).2.2 | (with_reducible refine Kd.C_alloc ?_ _) | (with_reducible refine Kd.C_drewN ?_ _) | (with_reducible refine Kd.C_drew ?_))); (case side4 => exact (Kd.R_reads' HO_15.out).2.1); rintro e w' ⟨rfl, ⟨nd, rfl⟩⟩; have p622 : 0 ≤ ((ji69) : Int) := of_decide_eq_true (by first | (with_reducible assumption) | assumption); have q622 : (ji69) < (t607.length : Int) := of_decide_eq_true (by first | (with_reducible assumption) | assumption); obtain ⟨ad622, A622_0, c622_0, e622, hx622_0, hl622_0, hi622_0⟩ := at_L1 (Kd.N_reads' HO_16.out).2.2 (ji69) p622 q622; obtain rfl : ad618 = ad622 := (by injection e622); obtain ⟨ce622, hce622, hMe622, hcc622⟩ := Kd.N_get HO_16.out [] (ji69) p622 (by first | exact q622 | exact of_decide_eq_true (by first | (with_reducible assumption) | assumption) | (have e_ := (Kd.N_reads' HO_16.out).1; omega)); obtain ⟨ua622_0, uc622_0, rfl, ul622_0, ge622_0⟩ := Kd.FK_slice_open hMe622; have hv622_0 := hcc622 0 _ rfl; rw [Nat.add_zero, show ((Kd.slice 3 (Kd.int .i64))).sz = 1 from rfl, Nat.mul_one] at hv622_0; replace hv622_0 := Option.some.inj (hv622_0.symm.trans hx622_0); injection hv622_0 with hva_ hvn_ hvc_; rw [hva_] at ge622_0; rw [hvc_] at ul622_0; have HL622_0 := Aside0.mk (show Kd.V (Kd.int .i64) 3 _ w.heap.size _ _ (rd_L1 t607 (ji69)) from Kd.V_mk ul622_0 ge622_0); clear hva_ hvn_ hvc_ ge622_0 ul622_0; clear hcc622 hce622; have HR622_0 := Aside0.mk hi622_0; have HC622_0 := Aside0.mk hl622_0; clear hi622_0 hl622_0; replace p622 := eq_true p622; replace q622 := eq_true q622) | (go_at_call 44; (with_reducible refine (laws_dLess.calls k4 _ _ (rd_L1 t607 (ji69)) _ _ (rd_L1 t607 x123_4) false _ ?side1 ?side2 ?side3 ?side4 A72.out).mono ?_); (case side1 => repeat (first | exact (by repeat (first | (with_reducible exact HR622_0.out) | (with_reducible refine Kd.C_alloc ?_ _) | (with_reducible refine Kd.C_drewN ?_ _) | (with_reducible refine Kd.C_drew ?_) | exact HR622_0.out)) | (with_reducible refine Kd.C_alloc ?_ _) | (with_reducible refine Kd.C_drewN ?_ _) | (with_reducible refine Kd.C_drew ?_))); (case side2 => exact HC622_0.out); (case side3 => repeat (first | exact (by repeat (first | (with_reducible exact HR618_0.out) | (with_reducible refine Kd.C_alloc ?_ _) | (with_reducible refine Kd.C_drewN ?_ _) | (with_reducible refine Kd.C_drew ?_) | exact HR618_0.out)) | (with_reducible refine Kd.C_alloc ?_ _) | (with_reducible refine Kd.C_drewN ?_ _) | (with_reducible refine Kd.C_drew ?_))); (case side4 => exact HC618_0.out); rintro e w' ⟨rfl, ⟨nd, rfl⟩⟩))
                   go_ret
                   exact ⟨by first | rfl | (simp [errW_none, errW_some] <;> rfl) | (simp only [← hji69]; first | rfl | (simp [errW_none, errW_some] <;> rfl)) | (simp [*, errW_none, errW_some] <;> rfl), by repeat (first | (with_reducible first | exact HB.out | apply below_alloc | apply pw_below_drewN | apply below_drew1) | exact HB.out)⟩
                 ·as_aux_lemma =>
                  rw [if_neg c68] at H
                  have c68b0 : decide (0 < x123_4) = false := decide_eq_false c68
                  clear c68
                  have H' := Aside0.mk H
                  clear H
                  have p618 : 0 ≤ (x123_4 : Int) := of_decide_eq_true (by first | (with_reducible assumption) | assumption)
                  have q618 : x123_4 < (t607.length : Int) := of_decide_eq_true (by first | (with_reducible assumption) | assumption)
                  obtain ⟨ad618, A618_0, c618_0, e618, hx618_0, hl618_0, hi618_0⟩ := at_L1 (Kd.N_reads' HO_121.out).2.2 x123_4 p618 q618
                  cases e618
                  obtain ⟨ce618, hce618, hMe618, hcc618⟩ := Kd.N_get HO_121.out [] x123_4 p618 (by first | exact q618 | exact of_decide_eq_true (by first | (with_reducible assumption) | assumption) | (have e_ := (Kd.N_reads' HO_121.out).1; omega))
                  obtain ⟨ua618_0, uc618_0, rfl, ul618_0, ge618_0⟩ := Kd.FK_slice_open hMe618
                  have hv618_0 := hcc618 0 _ rfl
                  rw [Nat.add_zero, show ((Kd.slice 3 (Kd.int .i64))).sz = 1 from rfl, Nat.mul_one] at hv618_0
                  replace hv618_0 := Option.some.inj (hv618_0.symm.trans hx618_0)
                  injection hv618_0 with hva_ hvn_ hvc_
                  rw [hva_] at ge618_0
                  rw [hvc_] at ul618_0
                  have HL618_0 := Aside0.mk (show Kd.V (Kd.int .i64) 3 _ w.heap.size _ _ (rd_L1 t607 x123_4) from Kd.V_mk ul618_0 ge618_0)
                  clear hva_ hvn_ hvc_ ge618_0 ul618_0; clear hcc618 hce618
                  have HR618_0 := Aside0.mk hi618_0
                  have HC618_0 := Aside0.mk hl618_0
                  clear hi618_0 hl618_0; replace p618 := eq_true p618; replace q618 := eq_true q618
                  go_wp2_with (first | (go_at_call 40; (with_reducible refine (laws_dSame.calls k4 _ _ (rd_L1 t607 x123_4) _ _ t604 t621 _ ?side1 ?side2 ?side3 ?side4 A67.out).mono ?_); (case side1 => repeat (first | exact (by repeat (first | (with_reducible exact HR618_0.out) | (with_reducible refine Kd.C_alloc ?_ _) | (with_reducible refine Kd.C_drewN ?_ _) | (with_reducible refine Kd.C_drew ?_) | exact HR618_0.out)) | (with_reducible refine Kd.C_alloc ?_ _) | (with_reducible refine Kd.C_drewN ?_ _) | (with_reducible refine Kd.C_drew ?_))); (case side2 => exact HC618_0.out); (case side3 => repeat (first | exact (Kd.R_reads' HO_15.out).2.2 | (with_reducible refine Kd.C_alloc ?_ _) | (with_reducible refine Kd.C_drewN ?_ _) | (with_reducible refine Kd.C_drew ?_))); (case side4 => exact (Kd.R_reads' HO_15.out).2.1); rintro e w' ⟨rfl, ⟨nd, rfl⟩⟩))
                  go_roundg k4
                  case measure => have := HJ7.out; have := HJ17.out; have := HJ35.out; have := HK4.out; omega
                  case rel => exact ⟨(t621), (wrap64 (x123_4 + 1)), (by first | rfl | (simp; done) | (simp [*]; done)), (by first | rfl | (simp; done) | (simp [*]; done)), H', ⟨by have := HJ7.out; have := HJ17.out; have := HJ35.out; have := HK4.out; omega⟩, ⟨by (with_reducible repeat (first | apply Kd.R_alloc | apply Kd.R_drewN | apply Kd.R_drew)); exact HO_15.out⟩, ⟨by (with_reducible repeat (first | apply Kd.N_alloc | apply Kd.N_drewN | apply Kd.N_drew)); exact HO_16.out⟩, ⟨by (with_reducible repeat (first | apply Kd.N_alloc | apply Kd.N_drewN | apply Kd.N_drew)); exact HO_121.out⟩, ⟨by repeat (first | (with_reducible first | exact HB.out | apply below_alloc | apply pw_below_drewN | apply below_drew1) | exact HB.out)⟩⟩
               ·as_aux_lemma =>
                rw [if_neg c57] at H
                have c57b0 : decide (x123_4 < (t607.length : Int)) = false := decide_eq_false c57
                clear c57
                by_cases c74 : x22_4 = true
                ·subst c74
                 have H1 : (laws_FnMarkovModulo.j4 k4 l1) = some r := by rw [if_pos rfl] at H; exact H
                 clear H; have H := H1; clear H1
                 have H' := Aside0.mk H
                 clear H
                 go_wp2
                 go_meet
                 case rel => exact ⟨_, H', ⟨by have := HJ7.out; have := HJ17.out; have := HJ35.out; have := HK4.out; first | omega | exact Nat.le_refl _⟩, ⟨by repeat (first | (with_reducible first | exact HB.out | apply below_alloc | apply pw_below_drewN | apply below_drew1) | exact HB.out)⟩⟩
                ·replace c74 := Bool.eq_false_iff.mpr c74
                 subst c74
                 have H1 : (some false) = some r := by rw [if_neg (show ¬ (false = true) by decide)] at H; exact H
                 clear H; have H := H1; clear H1
                 obtain rfl := Option.some.inj H
                 go_wp2
                 go_ret
                 exact ⟨by first | rfl | (simp [errW_none, errW_some] <;> rfl) | (simp [*, errW_none, errW_some] <;> rfl), by repeat (first | (with_reducible first | exact HB.out | apply below_alloc | apply pw_below_drewN | apply below_drew1) | exact HB.out)⟩
            ·rw [if_neg c55] at H
             have c55b0 : ((t607.length : Int) == t615) = false := beq_eq_false_iff_ne.mpr c55
             have c55b1 : ((t607.length : Int) != t615) = true := bne_iff_ne.mpr c55
             (first | rw [c55b0] | (simp only [i64_w, i32_w]; rw [c55b0]) | skip)
             obtain rfl := Option.some.inj H
             obtain ⟨Ao75, co75, eo75⟩ := Kd.N_slice HO_16.out
             subst eo75
             go_wp2
             go_ret
             exact ⟨by first | rfl | (simp [errW_none, errW_some] <;> rfl) | (simp [*, errW_none, errW_some] <;> rfl), by repeat (first | (with_reducible first | exact HB.out | apply below_alloc | apply pw_below_drewN | apply below_drew1) | exact HB.out)⟩
           ·replace c54 := Bool.eq_false_iff.mpr c54
            subst c54
            have H1 : (laws_FnMarkovModulo.j4 kj35 l1) = some r := by rw [if_neg (show ¬ (false = true) by decide)] at H; exact H
            clear H; have H := H1; clear H1
            have H' := Aside0.mk H
            clear H
            go_wp2
            go_meet
            case rel => exact ⟨_, H', ⟨by have := HJ7.out; have := HJ17.out; have := HJ35.out; first | omega | exact Nat.le_refl _⟩, ⟨by repeat (first | (with_reducible first | exact HB.out | apply below_alloc | apply pw_below_drewN | apply below_drew1) | exact HB.out)⟩⟩
          case rest => as_aux_lemma =>
           clear HC53
           try clear c1
           try clear c2
           try clear p2
           try clear c3
           try clear c4
           try clear c5
           try clear c6
           try clear p6
           try clear q6
           try clear hx6
           try clear c7
           try clear c11
           try clear c13
           try clear c13b0
           try clear c13b1
           try clear c13b2
           try clear c17
           try clear c19
           try clear c20
           try clear c21
           try clear c23
           try clear c36
           try clear c37
           try clear c38
           try clear c39
           try clear c41
           try clear c42
           try clear c42b0
           try clear c42b1
           try clear c42b2
           try clear c44
           try clear c45
           try clear c52
           try clear c54
           try clear c55
           try clear c55b0
           try clear c55b1
           try clear c57
           try clear c57b0
           try clear c58
           try clear c58b0
           try clear c59
           try clear c59b0
           try clear c60
           try clear c61
           try clear c61b0
           try clear p61
           try clear q61
           try clear hx61
           try clear c62
           try clear p62
           try clear q62
           try clear hx62
           try clear c63
           try clear c63b0
           try clear c64
           try clear c64b0
           try clear p64
           try clear c66
           try clear c68
           try clear c68b0
           try clear c70
           try clear c70b0
           try clear c71
           try clear c71b0
           try clear c73
           try clear c74
           try clear hx618_0
           try clear hx619_0
           try clear hx622_0
           try clear p2
           try clear p618
           try clear p619
           try clear p622
           try clear q618
           try clear q619
           try clear q622
           obtain ⟨kq, HA, HJ52, HB⟩ := hcut
           cases kq with
           | zero => exact absurd HA.out (by simp [laws_FnMarkovModulo.j4])
           | succ kj52 =>
            have H := HA.out; clear HA
            simp only [laws_FnMarkovModulo.j4] at H
            replace H := Option.bind_eq_some_iff.mp H
            obtain ⟨t624, A760, H⟩ := H
            replace H : ((impl_ModCount.f kj52 t624).bind fun bt625 => ((spec_ModCount.f kj52 t624).bind fun bt627 => (if (bt625.2 != bt627.2) = true then (laws_FnMarkovModulo.j5 kj52 t624 bt625.1 bt625.2 true) else (laws_FnMarkovModulo.j5 kj52 t624 bt625.1 bt625.2 (bt625.1 != bt627.1))))) = some r := H
            have A76 := Aside0.mk A760
            clear A760
            replace H := Option.bind_eq_some_iff.mp H
            obtain ⟨⟨t625, t626⟩, A770, H⟩ := H
            replace H : ((spec_ModCount.f kj52 t624).bind fun bt627 => (if (t626 != bt627.2) = true then (laws_FnMarkovModulo.j5 kj52 t624 t625 t626 true) else (laws_FnMarkovModulo.j5 kj52 t624 t625 t626 (t625 != bt627.1)))) = some r := H
            have A77 := Aside0.mk A770
            clear A770
            replace H := Option.bind_eq_some_iff.mp H
            obtain ⟨⟨t627, t628⟩, A780, H⟩ := H
            replace H : (if (t626 != t628) = true then (laws_FnMarkovModulo.j5 kj52 t624 t625 t626 true) else (laws_FnMarkovModulo.j5 kj52 t624 t625 t626 (t625 != t627))) = some r := H
            have A78 := Aside0.mk A780
            clear A780
            have HC79 := Aside0.mk H
            clear H
            go_upto_region 34 with (first | ((with_reducible refine gate_callee (f := 45) rfl ?_); refine goesL_ (some 150) rfl rfl Try.func45 (by kernel_rfl) rfl #[.slice A1 l1.length c1] rfl (by (try simp only [List.map_toArray, List.map_cons, List.map_nil]); first | done | rfl) ?_; (with_reducible refine (spec_DrawModCount.calls _ _ l1 t624 _ ?side1 ?side2 A76.out).mono ?_); (case side1 => repeat (first | exact (Kd.C_below HR1.out HB.out) | (with_reducible refine Kd.C_alloc ?_ _) | (with_reducible refine Kd.C_drewN ?_ _) | (with_reducible refine Kd.C_drew ?_))); (case side2 => exact HC1.out); rintro e w80 ⟨rfl, hb⟩; refine ⟨_, rfl, ?_⟩; have n0_ := Aside0.mk (below_step (by repeat (first | (with_reducible first | exact HB.out | apply below_alloc | apply pw_below_drewN | apply below_drew1) | exact HB.out)) hb); clear HB; have HB := n0_; clear n0_; (try clear hb); (try clear hb2); (try clear hk); (try clear hi)) | ((with_reducible refine gate_callee (f := 42) rfl ?_); refine goesL_ (some 153) rfl rfl Try.func42 (by kernel_rfl) rfl #[.int .i64 t624] rfl (by (try simp only [List.map_toArray, List.map_cons, List.map_nil]); first | done | rfl) ?_; (with_reducible refine (impl_ModCount.calls kj52 t624 t625 t626 _ A77.out).mono ?_); rintro e w81 ⟨rfl, hb⟩; refine ⟨_, rfl, ?_⟩; have n0_ := Aside0.mk (below_step (by repeat (first | (with_reducible first | exact HB.out | apply below_alloc | apply pw_below_drewN | apply below_drew1) | exact HB.out)) hb); clear HB; have HB := n0_; clear n0_; (try clear hb); (try clear hb2); (try clear hk); (try clear hi)) | ((with_reducible refine gate_callee (f := 46) rfl ?_); refine goesL_ (some 158) rfl rfl Try.func46 (by kernel_rfl) rfl #[.int .i64 t624] rfl (by (try simp only [List.map_toArray, List.map_cons, List.map_nil]); first | done | rfl) ?_; (with_reducible refine (spec_ModCount.calls kj52 t624 t627 t628 _ A78.out).mono ?_); rintro e w82 ⟨rfl, hb⟩; refine ⟨_, rfl, ?_⟩; have n0_ := Aside0.mk (below_step (by repeat (first | (with_reducible first | exact HB.out | apply below_alloc | apply pw_below_drewN | apply below_drew1) | exact HB.out)) hb); clear HB; have HB := n0_; clear n0_; (try clear hb); (try clear hb2); (try clear hk); (try clear hi)))
            (try simp only [Act.put, List.setIfInBounds_toArray, List.set_cons_zero, List.set_cons_succ])
            go_cut [168] (fun v168 wc => ∃ (kq : Nat) (x168_78 : Bool), v168 = .bool x168_78 ∧ Aside0 (laws_FnMarkovModulo.j5 kq t624 t625 t626 x168_78 = some r) ∧ Aside0 (kq ≤ kj52) ∧ Aside0 (Below w.heap.size w wc))
            case first => as_aux_lemma =>
             have H := HC79.out; clear HC79
             by_cases c83 : (t626 != t628) = true
             ·rw [if_pos c83] at H
              have c83b0 : (t626 != t628) = true := c83
              (try (have c83b1 : decide (t626 = t628) = false := by simpa using c83))
              (try (have c83b2 : (t626 == t628) = false := by simpa using c83))
              (try (have c83b3 : ¬ (t626 = t628) := by simpa using c83))
              clear c83
              (first | rw [c83b0] | (simp only [i64_w, i32_w]; rw [c83b0]) | skip)
              have H' := Aside0.mk H
              clear H
              go_wp2
              go_meet
              case rel => exact ⟨_, (true), (by first | rfl | (simp; done) | (simp [*]; done)), H', ⟨by have := HJ7.out; have := HJ17.out; have := HJ35.out; have := HJ52.out; first | omega | exact Nat.le_refl _⟩, ⟨by repeat (first | (with_reducible first | exact HB.out | apply below_alloc | apply pw_below_drewN | apply below_drew1) | exact HB.out)⟩⟩
             ·rw [if_neg c83] at H
              have c83b0 : (t626 != t628) = false := by simpa using c83
              (try (have c83b1 : decide (t626 = t628) = true := by simpa using c83))
              (try (have c83b2 : (t626 == t628) = true := by simpa using c83))
              clear c83
              (first | rw [c83b0] | (simp only [i64_w, i32_w]; rw [c83b0]) | skip)
              have H' := Aside0.mk H
              clear H
              go_wp2
              go_meet
              case rel => exact ⟨_, ((t625 != t627)), (by first | rfl | (simp; done) | (simp [*]; done)), H', ⟨by have := HJ7.out; have := HJ17.out; have := HJ35.out; have := HJ52.out; first | omega | exact Nat.le_refl _⟩, ⟨by repeat (first | (with_reducible first | exact HB.out | apply below_alloc | apply pw_below_drewN | apply below_drew1) | exact HB.out)⟩⟩
            case rest => as_aux_lemma =>
             clear HC79
             try clear c1
             try clear c2
             try clear p2
             try clear c3
             try clear c4
             try clear c5
             try clear c6
             try clear p6
             try clear q6
             try clear hx6
             try clear c7
             try clear c8
             try clear c11
             try clear c13
             try clear c13b0
             try clear c13b1
             try clear c13b2
             try clear c17
             try clear c19
             try clear c20
             try clear c21
             try clear c23
             try clear c36
             try clear c37
             try clear c38
             try clear c39
             try clear c41
             try clear c42
             try clear c42b0
             try clear c42b1
             try clear c42b2
             try clear c44
             try clear c45
             try clear c46
             try clear c52
             try clear c54
             try clear c55
             try clear c55b0
             try clear c55b1
             try clear c57
             try clear c57b0
             try clear c58
             try clear c58b0
             try clear c59
             try clear c59b0
             try clear c60
             try clear c61
             try clear c61b0
             try clear p61
             try clear q61
             try clear hx61
             try clear c62
             try clear p62
             try clear q62
             try clear hx62
             try clear c63
             try clear c63b0
             try clear c64
             try clear c64b0
             try clear p64
             try clear c66
             try clear c68
             try clear c68b0
             try clear c70
             try clear c70b0
             try clear c71
             try clear c71b0
             try clear c73
             try clear c74
             try clear c83
             try clear c83b0
             try clear c83b1
             try clear c83b2
             try clear hx618_0
             try clear hx619_0
             try clear hx622_0
             try clear p2
             try clear p6
             try clear p61
             try clear p618
             try clear p619
             try clear p62
             try clear p622
             try clear p64
             try clear q6
             try clear q61
             try clear q618
             try clear q619
             try clear q62
             try clear q622
             obtain ⟨kq, x168_78, rfl, HA, HJ78, HB⟩ := hcut
             cases kq with
             | zero => exact absurd HA.out (by simp [laws_FnMarkovModulo.j5])
             | succ kj78 =>
              have H := HA.out; clear HA
              simp only [laws_FnMarkovModulo.j5] at H
              by_cases c84 : x168_78 = true
              ·subst c84
               have H1 : (some false) = some r := by rw [if_pos rfl] at H; exact H
               clear H; have H := H1; clear H1
               obtain rfl := Option.some.inj H
               go_wp2
               go_ret
               exact ⟨by first | rfl | (simp [errW_none, errW_some] <;> rfl) | (simp [*, errW_none, errW_some] <;> rfl), by repeat (first | (with_reducible first | exact HB.out | apply below_alloc | apply pw_below_drewN | apply below_drew1) | exact HB.out)⟩
              ·as_aux_lemma =>
               replace c84 := Bool.eq_false_iff.mpr c84
               subst c84
               have H1 : (if t626 = true then (laws_FnMarkovModulo.j6 kj78 t624 t625 (decide (t624 > 3))) else (laws_FnMarkovModulo.j6 kj78 t624 t625 false)) = some r := by rw [if_neg (show ¬ (false = true) by decide)] at H; exact H
               clear H; have H := H1; clear H1
               have HC85 := Aside0.mk H
               clear H
               go_upto_region 36 with (fail)
               go_cut [173] (fun v173 wc => ∃ (kq : Nat) (x173_84 : Bool), v173 = .bool x173_84 ∧ Aside0 (laws_FnMarkovModulo.j6 kq t624 t625 x173_84 = some r) ∧ Aside0 (kq ≤ kj78) ∧ Aside0 (Below w.heap.size w wc))
               case first => as_aux_lemma =>
                have H := HC85.out; clear HC85
                by_cases c86 : t626 = true
                ·subst c86
                 have H1 : (laws_FnMarkovModulo.j6 kj78 t624 t625 (decide (t624 > 3))) = some r := by rw [if_pos rfl] at H; exact H
                 clear H; have H := H1; clear H1
                 have H' := Aside0.mk H
                 clear H
                 go_wp2
                 go_meet
                 case rel => exact ⟨_, (decide (t624 > 3)), (by first | rfl | (simp; done) | (simp [*]; done)), H', ⟨by have := HJ7.out; have := HJ17.out; have := HJ35.out; have := HJ52.out; have := HJ78.out; first | omega | exact Nat.le_refl _⟩, ⟨by repeat (first | (with_reducible first | exact HB.out | apply below_alloc | apply pw_below_drewN | apply below_drew1) | exact HB.out)⟩⟩
                ·replace c86 := Bool.eq_false_iff.mpr c86
                 subst c86
                 have H1 : (laws_FnMarkovModulo.j6 kj78 t624 t625 false) = some r := by rw [if_neg (show ¬ (false = true) by decide)] at H; exact H
                 clear H; have H := H1; clear H1
                 have H' := Aside0.mk H
                 clear H
                 go_wp2
                 go_meet
                 case rel => exact ⟨_, (false), (by first | rfl | (simp; done) | (simp [*]; done)), H', ⟨by have := HJ7.out; have := HJ17.out; have := HJ35.out; have := HJ52.out; have := HJ78.out; first | omega | exact Nat.le_refl _⟩, ⟨by repeat (first | (with_reducible first | exact HB.out | apply below_alloc | apply pw_below_drewN | apply below_drew1) | exact HB.out)⟩⟩
               case rest => as_aux_lemma =>
                clear HC85
                try clear c1
                try clear c2
                try clear p2
                try clear c3
                try clear c4
                try clear c5
                try clear c6
                try clear p6
                try clear q6
                try clear hx6
                try clear c7
                try clear c8
                try clear c11
                try clear c13
                try clear c13b0
                try clear c13b1
                try clear c13b2
                try clear c17
                try clear c19
                try clear c20
                try clear c21
                try clear c23
                try clear c36
                try clear c37
                try clear c38
                try clear c39
                try clear c41
                try clear c42
                try clear c42b0
                try clear c42b1
                try clear c42b2
                try clear c44
                try clear c45
                try clear c46
                try clear c52
                try clear c54
                try clear c55
                try clear c55b0
                try clear c55b1
                try clear c57
                try clear c57b0
                try clear c58
                try clear c58b0
                try clear c59
                try clear c59b0
                try clear c60
                try clear c61
                try clear c61b0
                try clear p61
                try clear q61
                try clear hx61
                try clear c62
                try clear p62
                try clear q62
                try clear hx62
                try clear c63
                try clear c63b0
                try clear c64
                try clear c64b0
                try clear p64
                try clear c66
                try clear c68
                try clear c68b0
                try clear c70
                try clear c70b0
                try clear c71
                try clear c71b0
                try clear c73
                try clear c74
                try clear c83
                try clear c83b0
                try clear c83b1
                try clear c83b2
                try clear c84
                try clear c86
                try clear hx618_0
                try clear hx619_0
                try clear hx622_0
                try clear p2
                try clear p6
                try clear p61
                try clear p618
                try clear p619
                try clear p62
                try clear p622
                try clear p64
                try clear q6
                try clear q61
                try clear q618
                try clear q619
                try clear q62
                try clear q622
                obtain ⟨kq, x173_84, rfl, HA, HJ84, HB⟩ := hcut
                cases kq with
                | zero => exact absurd HA.out (by simp [laws_FnMarkovModulo.j6])
                | succ kj84 =>
                 have H := HA.out; clear HA
                 simp only [laws_FnMarkovModulo.j6] at H
                 by_cases c87 : x173_84 = true
                 ·as_aux_lemma =>
                  subst c87
                  have H1 : (if (Int.tmod t624 4) = 1 then (some (t625 == (wrap64 (t624 * (wrap64 (t624 + 3)))))) else (some (t625 == (wrap64 (t624 * (wrap64 (t624 - 3))))))) = some r := by rw [if_pos rfl] at H; exact H
                  clear H; have H := H1; clear H1
                  by_cases c88 : (Int.tmod t624 4) = 1
                  ·rw [if_pos c88] at H
                   have c88b0 : ((Int.tmod t624 4) == 1) = true := beq_iff_eq.mpr c88
                   have c88b1 : ((Int.tmod t624 4) != 1) = false := bne_eq_false_iff_eq.mpr c88
                   clear c88
                   obtain rfl := Option.some.inj H
                   go_wp2
                   go_ret
                   exact ⟨by first | rfl | (simp [errW_none, errW_some] <;> rfl) | (simp [*, errW_none, errW_some] <;> rfl), by repeat (first | (with_reducible first | exact HB.out | apply below_alloc | apply pw_below_drewN | apply below_drew1) | exact HB.out)⟩
                  ·rw [if_neg c88] at H
                   have c88b0 : ((Int.tmod t624 4) == 1) = false := beq_eq_false_iff_ne.mpr c88
                   have c88b1 : ((Int.tmod t624 4) != 1) = true := bne_iff_ne.mpr c88
                   obtain rfl := Option.some.inj H
                   go_wp2
                   go_ret
                   exact ⟨by first | rfl | (simp [errW_none, errW_some] <;> rfl) | (simp [*, errW_none, errW_some] <;> rfl), by repeat (first | (with_reducible first | exact HB.out | apply below_alloc | apply pw_below_drewN | apply below_drew1) | exact HB.out)⟩
                 ·replace c87 := Bool.eq_false_iff.mpr c87
                  subst c87
                  have H1 : (some true) = some r := by rw [if_neg (show ¬ (false = true) by decide)] at H; exact H
                  clear H; have H := H1; clear H1
                  obtain rfl := Option.some.inj H
                  go_wp2
                  go_ret
                  exact ⟨by first | rfl | (simp [errW_none, errW_some] <;> rfl) | (simp [*, errW_none, errW_some] <;> rfl), by repeat (first | (with_reducible first | exact HB.out | apply below_alloc | apply pw_below_drewN | apply below_drew1) | exact HB.out)⟩

/-- THE ONE PURE STATEMENT of laws_FnMarkovModulo: yours. -/
def laws_FnMarkovModulo.Pure : Prop := ∀ (l0 : List Int) (l1 : List Int), l0.length ≤ maxLen → l0.length * 1 ≤ 140737488351232 → (∀ x ∈ l0, (Lit.int .u8 x).wf = true) → l1.length ≤ maxLen → l1.length * 1 ≤ 140737488351232 → (∀ x ∈ l1, (Lit.int .u8 x).wf = true) → ∃ k, laws_FnMarkovModulo.f k l0 l1 = some true
theorem laws_FnMarkovModulo.walk (P : laws_FnMarkovModulo.Pure) (a0 : Option Addr) (len0 cap0 : Nat) (z0 : List Int) (a1 : Option Addr) (len1 cap1 : Nat) (z1 : List Int) (w : World) (w0 : (a0 = none ∧ len0 = 0 ∧ cap0 = 0 ∧ z0 = []) ∨ ∃ x, a0 = some x ∧ len0 ≤ cap0 ∧ cap0 ≤ maxLen ∧ z0.length = cap0 ∧ (∀ i, i < z0.length → w.cell? (x.add i) = some (.int .u8 (z0.getD i 0))) ∧ ∀ n ∈ z0, (Lit.int .u8 n).wf = true) (y0 : len0 * 1 ≤ 140737488351232) (w1 : (a1 = none ∧ len1 = 0 ∧ cap1 = 0 ∧ z1 = []) ∨ ∃ x, a1 = some x ∧ len1 ≤ cap1 ∧ cap1 ≤ maxLen ∧ z1.length = cap1 ∧ (∀ i, i < z1.length → w.cell? (x.add i) = some (.int .u8 (z1.getD i 0))) ∧ ∀ n ∈ z1, (Lit.int .u8 n).wf = true) (y1 : len1 * 1 ≤ 140737488351232) :
  Calls Try.prog 11 #[.slice a0 len0 cap0, .slice a1 len1 cap1] w fun e w' => e = .returned (.bool true) ∧ Below w.heap.size w w' := by
 obtain ⟨l0, rfl, hr0, hm0, hw0, hc0⟩ := ReadsInt.ofRowC w0
 obtain ⟨l1, rfl, hr1, hm1, hw1, hc1⟩ := ReadsInt.ofRowC w1
 obtain ⟨k, h⟩ := P l0 l1 hm0 y0 hw0 hm1 y1 hw1
 refine (laws_FnMarkovModulo.calls k _ _ l0 _ _ l1 true w (Kd.C_of_reads (d := (0 : Int)) (h1 := fun _ => rfl) hr0) hc0 (Kd.C_of_reads (d := (0 : Int)) (h1 := fun _ => rfl) hr1) hc1 h).mono ?_
 rintro e w' ⟨rfl, hd⟩
 exact ⟨rfl, hd⟩

end Go.Proofs.Ythkmbkibceojlaa.P

-- Uorbit
namespace Go.Proofs.Ythkmbkibceojlaa.P
set_option linter.unusedVariables false
set_option linter.unusedSimpArgs false
open Go.RowKit Go.Proofs.YthkmbkibceojlaaW.PrintWords Go.Proofs.YthkmbkibceojlaaW.PrintLast Go.Proofs.YthkmbkibceojlaaW.PrintMore
theorem smallPrime_is {p : Int} (h : smallPrime p = true) : p = 2 ∨ p = 3 ∨ p = 5 ∨ p = 7 ∨ p = 11 ∨ p = 13 := by
  unfold smallPrime at h
  simp only [List.any_cons, List.any_nil, Bool.or_false, Bool.or_eq_true, beq_iff_eq] at h
  omega
/-- Three numbers in 0 .. p - 1. -/
def Val (p : Int) (x : List Int) : Prop := ∃ a b c, x = [a, b, c] ∧ (0 ≤ a ∧ a < p) ∧ (0 ≤ b ∧ b < p) ∧ (0 ≤ c ∧ c < p)
theorem Val.len {p : Int} {x : List Int} (h : Val p x) : x.length = 3 := by
  obtain ⟨a, b, c, rfl, _⟩ := h
  rfl
theorem modVal {p x : Int} (hp : 2 ≤ p ∧ p ≤ 13) (hx : -1000 ≤ x ∧ x ≤ 1000) : Int.tmod (wrap64 (Int.tmod (wrap64 x) p + p)) p = x % p := by
  have h1 := Int.lt_tmod_of_pos x (b := p) (by omega)
  have h2 := Int.tmod_lt_of_pos x (b := p) (by omega)
  rw [w64 (x := x) (by omega) (by omega), w64 (by omega) (by omega), Int.tmod_eq_emod_of_nonneg (by omega), Int.tmod_def]
  rw [show x - p * x.tdiv p + p = x + p * (1 - x.tdiv p) by rw [Int.mul_sub]; omega, Int.add_mul_emod_self_left]
def mvT (p : Int) : List Int → Nat → List Int
  | [a, b, c], 0 => [(3 * b * c - a) % p, b, c]
  | [a, b, c], 1 => [a, (3 * c * a - b) % p, c]
  | [a, b, c], 2 => [a, b, (3 * a * b - c) % p]
  | x, _ => x
theorem mvM_val {p : Int} (hp : 2 ≤ p ∧ p ≤ 13) {x : List Int} (h : Val p x) (i : Nat) (hi : i < 3) : Val p (mvT p x i) := by
  obtain ⟨a, b, c, rfl, ha, hb, hc⟩ := h
  have m : ∀ z : Int, 0 ≤ z % p ∧ z % p < p := fun z => ⟨Int.emod_nonneg _ (by omega), Int.emod_lt_of_pos _ (by omega)⟩
  have h3 : i = 0 ∨ i = 1 ∨ i = 2 := by omega
  rcases h3 with rfl | rfl | rfl
  · exact ⟨_, _, _, rfl, m _, hb, hc⟩
  · exact ⟨_, _, _, rfl, ha, m _, hc⟩
  · exact ⟨_, _, _, rfl, ha, hb, m _⟩
theorem prod12 {p a b : Int} (hp : 2 ≤ p ∧ p ≤ 13) (ha : 0 ≤ a ∧ a < p) (hb : 0 ≤ b ∧ b < p) : 0 ≤ 3 * a * b ∧ 3 * a * b ≤ 432 := by
  have h1 : 0 ≤ a * b := Int.mul_nonneg ha.1 hb.1
  have h2 : a * b ≤ 12 * 12 := Int.mul_le_mul (by omega) (by omega) hb.1 (by omega)
  have h3 : 3 * a * b = 3 * (a * b) := Int.mul_assoc _ _ _
  omega
theorem mvM_is {p : Int} (hp : 2 ≤ p ∧ p ≤ 13) {x : List Int} (h : Val p x) (i : Nat) (hi : i < 3) : spec_mkModMove.f p x (i : Int) = some (mvT p x i) := by
  obtain ⟨a, b, c, rfl, ha, hb, hc⟩ := h
  have hp0 : ¬ p = 0 := by omega
  have hl : (([a, b, c] : List Int).length : Int) = 3 := rfl
  have o3 : spec_l1Own.f [a, b, c] = some [a, b, c] := (own_three _ (by simp)).1
  have h3 : i = 0 ∨ i = 1 ∨ i = 2 := by omega
  unfold spec_mkModMove.f
  rcases h3 with rfl | rfl | rfl
  · have e1 : Int.tmod (wrap64 (((0 : Nat) : Int) + 1)) 3 = 1 := by decide +kernel
    have e2 : Int.tmod (wrap64 (((0 : Nat) : Int) + 2)) 3 = 2 := by decide +kernel
    have hq := prod12 hp hb hc
    have r1 : rd [a, b, c] 1 = b := rfl
    have r2 : rd [a, b, c] 2 = c := rfl
    have r0 : rd [a, b, c] ((0 : Nat) : Int) = a := rfl
    have q0 : (0 : Int) ≤ 1 := by decide
    have q1 : (1 : Int) < 3 := by decide
    have q2 : (2 : Int) < 3 := by decide
    have q3 : (0 : Int) ≤ 2 := by decide
    have q4 : (0 : Int) ≤ ((0 : Nat) : Int) := by decide
    have q5 : ((0 : Nat) : Int) < 3 := by decide
    simp only [o3, Option.bind_some, e1, e2, hl, q0, q1, q2, q3, q4, q5, hp0, if_true, if_false, r0, r1, r2]
    rw [w64 (x := 3 * b) (by omega) (by omega), w64 (x := 3 * b * c) (by omega) (by omega), modVal hp (by omega)]
    rfl
  · have e1 : Int.tmod (wrap64 (((1 : Nat) : Int) + 1)) 3 = 2 := by decide +kernel
    have e2 : Int.tmod (wrap64 (((1 : Nat) : Int) + 2)) 3 = 0 := by decide +kernel
    have hq := prod12 hp hc ha
    have r1 : rd [a, b, c] 2 = c := rfl
    have r2 : rd [a, b, c] 0 = a := rfl
    have r0 : rd [a, b, c] ((1 : Nat) : Int) = b := rfl
    have q0 : (0 : Int) ≤ 0 := by decide
    have q1 : (0 : Int) < 3 := by decide
    have q2 : (2 : Int) < 3 := by decide
    have q3 : (0 : Int) ≤ 2 := by decide
    have q4 : (0 : Int) ≤ ((1 : Nat) : Int) := by decide
    have q5 : ((1 : Nat) : Int) < 3 := by decide
    simp only [o3, Option.bind_some, e1, e2, hl, q0, q1, q2, q3, q4, q5, hp0, if_true, if_false, r0, r1, r2]
    rw [w64 (x := 3 * c) (by omega) (by omega), w64 (x := 3 * c * a) (by omega) (by omega), modVal hp (by omega)]
    rfl
  · have e1 : Int.tmod (wrap64 (((2 : Nat) : Int) + 1)) 3 = 0 := by decide +kernel
    have e2 : Int.tmod (wrap64 (((2 : Nat) : Int) + 2)) 3 = 1 := by decide +kernel
    have hq := prod12 hp ha hb
    have r1 : rd [a, b, c] 0 = a := rfl
    have r2 : rd [a, b, c] 1 = b := rfl
    have r0 : rd [a, b, c] ((2 : Nat) : Int) = c := rfl
    have q0 : (0 : Int) ≤ 0 := by decide
    have q1 : (0 : Int) < 3 := by decide
    have q2 : (1 : Int) < 3 := by decide
    have q3 : (0 : Int) ≤ 1 := by decide
    have q4 : (0 : Int) ≤ ((2 : Nat) : Int) := by decide
    have q5 : ((2 : Nat) : Int) < 3 := by decide
    simp only [o3, Option.bind_some, e1, e2, hl, q0, q1, q2, q3, q4, q5, hp0, if_true, if_false, r0, r1, r2]
    rw [w64 (x := 3 * a) (by omega) (by omega), w64 (x := 3 * a * b) (by omega) (by omega), modVal hp (by omega)]
    rfl
theorem goodT_val {p : Int} (hp : 2 ≤ p ∧ p ≤ 13) {x : List Int} (h : Val p x) : goodT x = true := by
  obtain ⟨a, b, c, rfl, ha, hb, hc⟩ := h
  unfold goodT
  simp
  omega
def addM (o : List (List Int)) (u : List Int) : List (List Int) := if u ∈ o then o else o ++ [u]
theorem addM_mem (o : List (List Int)) (u z : List Int) : z ∈ addM o u ↔ z ∈ o ∨ z = u := by
  unfold addM
  split
  · rename_i h
    exact ⟨.inl, fun h2 => h2.elim id (fun e => e ▸ h)⟩
  · simp
theorem addM_nodup {o : List (List Int)} (h : o.Nodup) (u : List Int) : (addM o u).Nodup := by
  unfold addM
  split
  · exact h
  · rename_i h2
    rw [List.nodup_append]
    refine ⟨h, by simp, ?_⟩
    intro a ha b hb e
    rw [List.mem_singleton] at hb
    exact h2 (by rw [← hb, ← e]; exact ha)
theorem addM_len (o : List (List Int)) (u : List Int) : o.length ≤ (addM o u).length := by
  unfold addM
  split <;> simp
theorem addM_get (o : List (List Int)) (u : List Int) (i : Nat) (h : i < o.length) : rd_L1 (addM o u) (i : Int) = rd_L1 o (i : Int) := by
  unfold addM rd_L1
  split
  · rfl
  · simp [List.getD_eq_getElem?_getD, List.getElem?_append_left h]
theorem rdL1_in (o : List (List Int)) (i : Nat) (h : i < o.length) : rd_L1 o (i : Int) ∈ o := by
  unfold rd_L1
  simp [List.getD_eq_getElem?_getD, h]
/-- The table. -/
def Tab (p : Int) (T : List Bool) (o : List (List Int)) : Prop := (T.length : Int) = p * p * p ∧ ∀ a b c, (0 ≤ a ∧ a < p) → (0 ≤ b ∧ b < p) → (0 ≤ c ∧ c < p) → rdOf false T ((a * p + b) * p + c) = decide ([a, b, c] ∈ o)
theorem idx_wrap {p : Int} (hP : smallPrime p = true) {a b c : Int} (ha : 0 ≤ a ∧ a < p) (hb : 0 ≤ b ∧ b < p) (hc : 0 ≤ c ∧ c < p) : wrap64 ((wrap64 ((wrap64 ((wrap64 (a * p)) + b)) * p)) + c) = (a * p + b) * p + c := by
  rcases smallPrime_is hP with rfl | rfl | rfl | rfl | rfl | rfl <;> (unfold wrap64; omega)
theorem idx_in {p : Int} (hP : smallPrime p = true) {a b c : Int} (ha : 0 ≤ a ∧ a < p) (hb : 0 ≤ b ∧ b < p) (hc : 0 ≤ c ∧ c < p) : 0 ≤ (a * p + b) * p + c ∧ (a * p + b) * p + c < p * p * p := by
  rcases smallPrime_is hP with rfl | rfl | rfl | rfl | rfl | rfl <;> omega
theorem idx_inj {p : Int} (hP : smallPrime p = true) {a b c a' b' c' : Int} (ha : 0 ≤ a ∧ a < p) (hb : 0 ≤ b ∧ b < p) (hc : 0 ≤ c ∧ c < p) (ha' : 0 ≤ a' ∧ a' < p) (hb' : 0 ≤ b' ∧ b' < p) (hc' : 0 ≤ c' ∧ c' < p) (h : (a * p + b) * p + c = (a' * p + b') * p + c') : a = a' ∧ b = b' ∧ c = c' := by
  rcases smallPrime_is hP with rfl | rfl | rfl | rfl | rfl | rfl <;> omega
theorem tab_set {p : Int} (hP : smallPrime p = true) {T : List Bool} {o : List (List Int)} (h : Tab p T o) {a b c : Int} (ha : 0 ≤ a ∧ a < p) (hb : 0 ≤ b ∧ b < p) (hc : 0 ≤ c ∧ c < p) : Tab p (T.set ((a * p + b) * p + c).toNat true) (o ++ [[a, b, c]]) := by
  have hi := idx_in hP ha hb hc
  have hl := h.1
  refine ⟨by rw [List.length_set]; exact h.1, fun a' b' c' ha' hb' hc' => ?_⟩
  have hj := idx_in hP ha' hb' hc'
  have h0 := h.2 a' b' c' ha' hb' hc'
  unfold rdOf at h0 ⊢
  rw [List.getD_eq_getElem?_getD] at h0 ⊢
  rw [List.getElem?_set]
  by_cases he : (a * p + b) * p + c = (a' * p + b') * p + c'
  · obtain ⟨rfl, rfl, rfl⟩ := idx_inj hP ha hb hc ha' hb' hc' he
    rw [if_pos rfl, if_pos (by omega)]
    simp
  · rw [if_neg (by omega), h0]
    have hne : ¬ ([a', b', c'] : List Int) = [a, b, c] := fun e => he (by
      simp only [List.cons.injEq, and_true] at e
      rw [e.1, e.2.1, e.2.2])
    simp [hne]
theorem tab_first {p : Int} (hP : smallPrime p = true) {a b c : Int} (ha : 0 ≤ a ∧ a < p) (hb : 0 ≤ b ∧ b < p) (hc : 0 ≤ c ∧ c < p) : Tab p ((List.replicate (p * p * p).toNat false).set ((a * p + b) * p + c).toNat true) [[a, b, c]] := by
  have h0 : Tab p (List.replicate (p * p * p).toNat false) [] := by
    refine ⟨?_, fun a' b' c' ha' hb' hc' => ?_⟩
    · rw [List.length_replicate]
      have := idx_in hP ha hb hc
      omega
    · unfold rdOf
      rw [List.getD_eq_getElem?_getD, List.getElem?_replicate]
      split <;> simp
  exact tab_set hP h0 ha hb hc
end Go.Proofs.Ythkmbkibceojlaa.P

-- Uorbit2
namespace Go.Proofs.Ythkmbkibceojlaa.P
set_option linter.unusedVariables false
set_option linter.unusedSimpArgs false
open Go.RowKit Go.Proofs.YthkmbkibceojlaaW.PrintWords Go.Proofs.YthkmbkibceojlaaW.PrintLast Go.Proofs.YthkmbkibceojlaaW.PrintMore
/-- Lists that stand once and lie in others are no more than these. -/
theorem nodup_le : ∀ (G F : List (List Int)), G.Nodup → (∀ x ∈ G, x ∈ F) → G.length ≤ F.length
  | [], F, _, _ => by simp
  | x :: G, F, hn, hs => by
    rw [List.nodup_cons] at hn
    have hx := hs x List.mem_cons_self
    have ih := nodup_le G (F.erase x) hn.2 (fun y hy => by
      have hne : y ≠ x := fun e => hn.1 (e ▸ hy)
      exact (List.mem_erase_of_ne hne).2 (hs y (List.mem_cons_of_mem _ hy)))
    have he := List.length_erase_of_mem hx
    have hp := List.length_pos_of_mem hx
    rw [List.length_cons]
    omega
/-- The triple that stands at a place of the table. -/
def tri (p : Int) (n : Nat) : List Int := [(n : Int) / (p * p), (n : Int) / p % p, (n : Int) % p]
theorem tri_idx {p : Int} (hP : smallPrime p = true) {a b c : Int} (ha : 0 ≤ a ∧ a < p) (hb : 0 ≤ b ∧ b < p) (hc : 0 ≤ c ∧ c < p) : tri p ((a * p + b) * p + c).toNat = [a, b, c] := by
  have hi := (idx_in hP ha hb hc).1
  unfold tri
  rw [Int.toNat_of_nonneg hi]
  simp only [List.cons.injEq, and_true]
  rcases smallPrime_is hP with rfl | rfl | rfl | rfl | rfl | rfl <;> simp only [Int.reduceMul] <;> refine ⟨by omega, by omega, by omega⟩
theorem tri_val {p : Int} (hP : smallPrime p = true) {n : Nat} (h : (n : Int) < p * p * p) : Val p (tri p n) ∧ ((n : Int) / (p * p) * p + (n : Int) / p % p) * p + (n : Int) % p = n := by
  refine ⟨⟨_, _, _, rfl, ?_⟩, ?_⟩ <;> rcases smallPrime_is hP with rfl | rfl | rfl | rfl | rfl | rfl <;> simp only [Int.reduceMul] at h ⊢ <;> omega
theorem size_is {p : Int} (hP : smallPrime p = true) : ((p * p * p).toNat : Int) = p * p * p ∧ (p * p * p).toNat ≤ 2197 := by
  rcases smallPrime_is hP with rfl | rfl | rfl | rfl | rfl | rfl <;> decide
theorem orb_len {p : Int} (hP : smallPrime p = true) {o : List (List Int)} (hn : o.Nodup) (hv : ∀ x ∈ o, Val p x) : o.length ≤ (p * p * p).toNat := by
  have h := nodup_le o ((List.range (p * p * p).toNat).map (tri p)) hn (fun x hx => by
    obtain ⟨a, b, c, rfl, ha, hb, hc⟩ := hv x hx
    rw [List.mem_map]
    have hi := idx_in hP ha hb hc
    have hs := (size_is hP).1
    exact ⟨((a * p + b) * p + c).toNat, by rw [List.mem_range]; omega, tri_idx hP ha hb hc⟩)
  rw [List.length_map, List.length_range] at h
  exact h
/-- One move in the program's text. -/
theorem orbIn_step {p : Int} (hp : 2 ≤ p ∧ p ≤ 13) {o : List (List Int)} {kk : Int} (i j : Nat) (hi : i < 3) (hv : Val p (rd_L1 o kk)) (hl : o.length < 1000000) : orbIn p kk (j + 1) (i : Int) o = orbIn p kk j ((i + 1 : Nat) : Int) (addM o (mvT p (rd_L1 o kk) i)) := by
  have h1 := mvM_is hp hv i hi
  rw [← modMoved_same p _ _ hv.len] at h1
  have hw : wrap64 ((i : Int) + 1) = ((i + 1 : Nat) : Int) := w64_succ (n := 3) hi (by omega)
  rw [orbIn, h1]
  simp only [Option.bind_some, goodT_val hp (mvM_val hp hv i hi), if_true, hw, hl]
  unfold addM
  split <;> rfl
theorem l1_step {p : Int} (hP : smallPrime p = true) {T : List Bool} {o : List (List Int)} (hT : Tab p T o) {kk : Nat} (hk : kk < o.length) (hv : ∀ x ∈ o, Val p x) (hl : o.length < 1000000) (i : Nat) (hi : i < 3) :
    ∃ T', Tab p T' (addM o (mvT p (rd_L1 o (kk : Int)) i)) ∧ ∀ r, Ev (fun k => spec_ModOrbit.l1 k p T' (addM o (mvT p (rd_L1 o (kk : Int)) i)) (kk : Int) ((i + 1 : Nat) : Int)) r → Ev (fun k => spec_ModOrbit.l1 k p T o (kk : Int) (i : Int)) r := by
  have hb := smallPrime_bd hP
  have hv1 := hv _ (rdL1_in o kk hk)
  have hm := mvM_is hb hv1 i hi
  obtain ⟨a, b, c, hu, ha, hb', hc⟩ := mvM_val hb hv1 i hi
  have hx := idx_wrap hP ha hb' hc
  have hin := idx_in hP ha hb' hc
  have c1 : (i : Int) < 3 := by omega
  have c2 : (0 : Int) ≤ (kk : Int) := by omega
  have c3 : (kk : Int) < (o.length : Int) := by omega
  have hw : wrap64 ((i : Int) + 1) = ((i + 1 : Nat) : Int) := w64_succ (n := 3) hi (by omega)
  have hl3 : (([a, b, c] : List Int).length : Int) = 3 := rfl
  have q0 : (0 : Int) < 3 := by decide
  have q1 : (1 : Int) < 3 := by decide
  have q2 : (2 : Int) < 3 := by decide
  have r0 : rd [a, b, c] 0 = a := rfl
  have r1 : rd [a, b, c] 1 = b := rfl
  have r2 : rd [a, b, c] 2 = c := rfl
  have d1 : 0 ≤ (a * p + b) * p + c := hin.1
  have d2 : (a * p + b) * p + c < (T.length : Int) := by rw [hT.1]; exact hin.2
  have hr := hT.2 a b c ha hb' hc
  have hs : o.length < 5864062014805 := by omega
  by_cases hmem : [a, b, c] ∈ o
  · have e : addM o (mvT p (rd_L1 o (kk : Int)) i) = o := by unfold addM; rw [hu, if_pos hmem]
    rw [e]
    refine ⟨T, hT, fun r hr2 => ?_⟩
    rw [decide_eq_true hmem] at hr
    exact Ev.step (fun k => by simp only [spec_ModOrbit.l1, c1, c2, c3, if_true, hm, hu, Option.bind_some, hl3, q0, q1, q2, r0, r1, r2, hx, d1, d2, hr, hw]) hr2
  · have e : addM o (mvT p (rd_L1 o (kk : Int)) i) = o ++ [[a, b, c]] := by unfold addM; rw [hu, if_neg hmem]
    rw [e]
    refine ⟨_, tab_set hP hT ha hb' hc, fun r hr2 => ?_⟩
    rw [decide_eq_false hmem] at hr
    exact Ev.step (fun k => by simp only [spec_ModOrbit.l1, c1, c2, c3, if_true, hm, hu, Option.bind_some, hl3, q0, q1, q2, r0, r1, r2, hx, d1, d2, hr, hw, hs, Bool.false_eq_true, if_false]) hr2
theorem orbit_run {p : Int} (hP : smallPrime p = true) : ∀ (d : Nat) (o : List (List Int)) (T : List Bool) (kk : Nat), Tab p T o → (∀ x ∈ o, Val p x) → o.Nodup → kk ≤ o.length → kk + d = (p * p * p).toNat → (∀ j, j < kk → ∀ i, i < 3 → mvT p (rd_L1 o (j : Int)) i ∈ o) →
    ∃ (Q : List (List Int)) (T' : List Bool), Tab p T' Q ∧ (∀ x ∈ Q, Val p x) ∧ Q.Nodup ∧ (∀ x ∈ o, x ∈ Q) ∧ (∀ x ∈ Q, ∀ i, i < 3 → mvT p x i ∈ Q) ∧ (∀ C : List Int → Prop, (∀ x ∈ o, C x) → (∀ x, Val p x → C x → ∀ i, i < 3 → C (mvT p x i)) → ∀ x ∈ Q, C x) ∧
      Ev (fun k => orbL p k o (kk : Int)) (sortDedup Q) ∧ ∀ r, Ev (fun k => spec_ModOrbit.l2 k p [] T' (T'.length : Int) 0) r → Ev (fun k => spec_ModOrbit.l0 k p T o (kk : Int)) r := by
  have hb := smallPrime_bd hP
  intro d
  induction d with
  | zero =>
    intro o T kk hT hv hn hk hd hcl
    have hle := orb_len hP hn hv
    have c1 : ¬ (kk : Int) < (o.length : Int) := by omega
    refine ⟨o, T, hT, hv, hn, fun _ h => h, ?_, fun C h1 _ => h1, Ev.step (f := fun _ => some (sortDedup o)) (fun k => by simp only [orbL, c1, if_false]) (Ev.is rfl), fun r hr => Ev.step (fun k => by simp only [spec_ModOrbit.l0, c1, if_false]) hr⟩
    intro x hx i hi
    obtain ⟨j, hj, rfl⟩ := List.getElem_of_mem hx
    have h2 := hcl j (by omega) i hi
    rw [show rd_L1 o (j : Int) = o[j] by unfold rd_L1; simp [List.getD_eq_getElem?_getD, hj]] at h2
    exact h2
  | succ d ih =>
    intro o T kk hT hv hn hk hd hcl
    have hle := orb_len hP hn hv
    have hsz := (size_is hP).2
    by_cases c1 : kk < o.length
    · have c1z : (kk : Int) < (o.length : Int) := by omega
      have hx0 := hv _ (rdL1_in o kk c1)
      obtain ⟨T1, hT1, s1⟩ := l1_step hP hT c1 hv (by omega) 0 (by omega)
      have hv1 : ∀ x ∈ addM o (mvT p (rd_L1 o (kk : Int)) 0), Val p x := fun x hx => ((addM_mem _ _ _).1 hx).elim (hv x) (fun e => e ▸ mvM_val hb hx0 0 (by omega))
      have hn1 := addM_nodup hn (mvT p (rd_L1 o (kk : Int)) 0)
      have hl1 := addM_len o (mvT p (rd_L1 o (kk : Int)) 0)
      have g1 := addM_get o (mvT p (rd_L1 o (kk : Int)) 0) kk c1
      have i1 := orbIn_step hb (o := o) (kk := (kk : Int)) 0 2 (by omega) hx0 (by omega)
      have m1 := addM_mem o (mvT p (rd_L1 o (kk : Int)) 0)
      have k1 : ∀ j, j < o.length → rd_L1 (addM o (mvT p (rd_L1 o (kk : Int)) 0)) (j : Int) = rd_L1 o (j : Int) := fun j hj => addM_get o _ j hj
      generalize hO1 : addM o (mvT p (rd_L1 o (kk : Int)) 0) = o1 at *
      have hle1 := orb_len hP hn1 hv1
      obtain ⟨T2, hT2, s2⟩ := l1_step hP hT1 (kk := kk) (by omega) hv1 (by omega) 1 (by omega)
      rw [g1] at hT2 s2
      have hv2 : ∀ x ∈ addM o1 (mvT p (rd_L1 o (kk : Int)) 1), Val p x := fun x hx => ((addM_mem _ _ _).1 hx).elim (hv1 x) (fun e => e ▸ mvM_val hb hx0 1 (by omega))
      have hn2 := addM_nodup hn1 (mvT p (rd_L1 o (kk : Int)) 1)
      have hl2 := addM_len o1 (mvT p (rd_L1 o (kk : Int)) 1)
      have g2 := addM_get o1 (mvT p (rd_L1 o (kk : Int)) 1) kk (by omega)
      have i2 := orbIn_step hb (o := o1) (kk := (kk : Int)) 1 1 (by omega) (by rw [g1]; exact hx0) (by omega)
      rw [g1] at i2
      have m2 := addM_mem o1 (mvT p (rd_L1 o (kk : Int)) 1)
      have k2 : ∀ j, j < o1.length → rd_L1 (addM o1 (mvT p (rd_L1 o (kk : Int)) 1)) (j : Int) = rd_L1 o1 (j : Int) := fun j hj => addM_get o1 _ j hj
      generalize hO2 : addM o1 (mvT p (rd_L1 o (kk : Int)) 1) = o2 at *
      have hle2 := orb_len hP hn2 hv2
      rw [g1] at g2
      obtain ⟨T3, hT3, s3⟩ := l1_step hP hT2 (kk := kk) (by omega) hv2 (by omega) 2 (by omega)
      rw [g2] at hT3 s3
      have hv3 : ∀ x ∈ addM o2 (mvT p (rd_L1 o (kk : Int)) 2), Val p x := fun x hx => ((addM_mem _ _ _).1 hx).elim (hv2 x) (fun e => e ▸ mvM_val hb hx0 2 (by omega))
      have hn3 := addM_nodup hn2 (mvT p (rd_L1 o (kk : Int)) 2)
      have hl3 := addM_len o2 (mvT p (rd_L1 o (kk : Int)) 2)
      have g3 := addM_get o2 (mvT p (rd_L1 o (kk : Int)) 2) kk (by omega)
      have i3 := orbIn_step hb (o := o2) (kk := (kk : Int)) 2 0 (by omega) (by rw [g2]; exact hx0) (by omega)
      rw [g2] at i3 g3
      have m3 := addM_mem o2 (mvT p (rd_L1 o (kk : Int)) 2)
      have k3 : ∀ j, j < o2.length → rd_L1 (addM o2 (mvT p (rd_L1 o (kk : Int)) 2)) (j : Int) = rd_L1 o2 (j : Int) := fun j hj => addM_get o2 _ j hj
      generalize hO3 : addM o2 (mvT p (rd_L1 o (kk : Int)) 2) = o3 at *
      have hsub : ∀ x ∈ o, x ∈ o3 := fun x hx => (m3 x).2 (.inl ((m2 x).2 (.inl ((m1 x).2 (.inl hx)))))
      have hrow : ∀ i, i < 3 → mvT p (rd_L1 o (kk : Int)) i ∈ o3 := by
        intro i hi
        have h3 : i = 0 ∨ i = 1 ∨ i = 2 := by omega
        rcases h3 with rfl | rfl | rfl
        · exact (m3 _).2 (.inl ((m2 _).2 (.inl ((m1 _).2 (.inr rfl)))))
        · exact (m3 _).2 (.inl ((m2 _).2 (.inr rfl)))
        · exact (m3 _).2 (.inr rfl)
      have hget : ∀ j, j < o.length → rd_L1 o3 (j : Int) = rd_L1 o (j : Int) := fun j hj => (k3 j (by omega)).trans ((k2 j (by omega)).trans (k1 j hj))
      have hw : wrap64 ((kk : Int) + 1) = ((kk + 1 : Nat) : Int) := w64_succ c1 (by omega)
      have hin : orbIn p (kk : Int) 3 0 o = some o3 := by
        have h0 : orbIn p (kk : Int) 3 ((0 : Nat) : Int) o = some o3 := by
          rw [i1, i2, i3]
          rfl
        exact h0
      obtain ⟨Q, T', hTQ, hvQ, hnQ, hs, hclQ, hleast, e1, e2⟩ := ih o3 T3 (kk + 1) hT3 hv3 hn3 (by omega) (by omega) (by
        intro j hj i hi
        rw [hget j (by omega)]
        by_cases hj2 : j = kk
        · subst hj2
          exact hrow i hi
        · exact hsub _ (hcl j (by omega) i hi))
      refine ⟨Q, T', hTQ, hvQ, hnQ, fun x hx => hs x (hsub x hx), hclQ, ?_, ?_, ?_⟩
      · intro C h1 h2
        refine hleast C ?_ h2
        have h0 := h1 _ (rdL1_in o kk c1)
        intro x hx
        rcases (m3 x).1 hx with hx | rfl
        · rcases (m2 x).1 hx with hx | rfl
          · rcases (m1 x).1 hx with hx | rfl
            · exact h1 x hx
            · exact h2 _ hx0 h0 0 (by omega)
          · exact h2 _ hx0 h0 1 (by omega)
        · exact h2 _ hx0 h0 2 (by omega)
      · exact Ev.step (fun k => by simp only [orbL, c1z, if_true, hin, Option.bind_some, hw]) e1
      · intro r hr
        have h3 : Ev (fun k => spec_ModOrbit.l1 k p T3 o3 (kk : Int) ((2 + 1 : Nat) : Int)) r := by
          have c3 : ¬ ((2 + 1 : Nat) : Int) < 3 := by decide
          exact Ev.step (fun k => by simp only [spec_ModOrbit.l1, c3, if_false, hw]) (e2 r hr)
        have h0 := s1 r (s2 r (s3 r h3))
        exact Ev.step (fun k => by simp only [spec_ModOrbit.l0, c1z, if_true]; rfl) h0
    · have c1z : ¬ (kk : Int) < (o.length : Int) := by omega
      refine ⟨o, T, hT, hv, hn, fun _ h => h, ?_, fun C h1 _ => h1, Ev.step (f := fun _ => some (sortDedup o)) (fun k => by simp only [orbL, c1z, if_false]) (Ev.is rfl), fun r hr => Ev.step (fun k => by simp only [spec_ModOrbit.l0, c1z, if_false]) hr⟩
      intro x hx i hi
      obtain ⟨j, hj, rfl⟩ := List.getElem_of_mem hx
      have h2 := hcl j (by omega) i hi
      rw [show rd_L1 o (j : Int) = o[j] by unfold rd_L1; simp [List.getD_eq_getElem?_getD, hj]] at h2
      exact h2
end Go.Proofs.Ythkmbkibceojlaa.P

-- Uorbit3
namespace Go.Proofs.Ythkmbkibceojlaa.P
set_option linter.unusedVariables false
set_option linter.unusedSimpArgs false
open Go.RowKit Go.Proofs.YthkmbkibceojlaaW.PrintWords Go.Proofs.YthkmbkibceojlaaW.PrintLast Go.Proofs.YthkmbkibceojlaaW.PrintMore
theorem tri_is {p : Int} (hP : smallPrime p = true) {n : Nat} (h : (n : Int) < p * p * p) : ([wrap64 (Int.tdiv (n : Int) (wrap64 (p * p))), Int.tmod (wrap64 (Int.tdiv (n : Int) p)) p, Int.tmod (n : Int) p] : List Int) = tri p n := by
  have hw : wrap64 (p * p) = p * p := by rcases smallPrime_is hP with rfl | rfl | rfl | rfl | rfl | rfl <;> decide +kernel
  have hb := smallPrime_bd hP
  have hs := (size_is hP).2
  have h0 : (0 : Int) ≤ (n : Int) := by omega
  have h1 : 0 ≤ (n : Int) / p := Int.ediv_nonneg h0 (by omega)
  have h2 : (n : Int) / p ≤ n := Int.ediv_le_self _ h0
  have h3 : 0 ≤ (n : Int) / (p * p) := Int.ediv_nonneg h0 (Int.mul_nonneg (by omega) (by omega))
  have h4 : (n : Int) / (p * p) ≤ n := Int.ediv_le_self _ h0
  have h5 : n < 2197 := by omega
  rw [hw, Int.tdiv_eq_ediv_of_nonneg h0, Int.tdiv_eq_ediv_of_nonneg h0, w64 (x := (n : Int) / (p * p)) (by omega) (by omega), w64 (x := (n : Int) / p) (by omega) (by omega), Int.tmod_eq_emod_of_nonneg h1, Int.tmod_eq_emod_of_nonneg h0]
  rfl
theorem tri_lt {p : Int} (hP : smallPrime p = true) {n m : Nat} (h : n < m) : cmpL (tri p n) (tri p m) < 0 := by
  have key : (n : Int) / (p * p) < (m : Int) / (p * p) ∨ (n : Int) / (p * p) = (m : Int) / (p * p) ∧ ((n : Int) / p % p < (m : Int) / p % p ∨ (n : Int) / p % p = (m : Int) / p % p ∧ (n : Int) % p < (m : Int) % p) := by
    rcases smallPrime_is hP with rfl | rfl | rfl | rfl | rfl | rfl <;> simp only [Int.reduceMul] <;> omega
  unfold tri
  generalize (n : Int) / (p * p) = a at *
  generalize (m : Int) / (p * p) = a' at *
  generalize (n : Int) / p % p = b at *
  generalize (m : Int) / p % p = b' at *
  generalize (n : Int) % p = c at *
  generalize (m : Int) % p = c' at *
  simp only [cmpL]
  rcases key with h1 | ⟨rfl, h1 | ⟨rfl, h1⟩⟩
  · rw [if_pos h1]
    decide
  · rw [if_neg (by omega), if_neg (by omega), if_pos h1]
    decide
  · rw [if_neg (by omega), if_neg (by omega), if_neg (by omega), if_neg (by omega), if_pos h1]
    decide
def accT (p : Int) (T : List Bool) (n : Nat) : List (List Int) := ((List.range n).filter (fun m : Nat => rdOf false T (m : Int))).map (tri p)
theorem accT_succ (p : Int) (T : List Bool) (n : Nat) : accT p T (n + 1) = accT p T n ++ (if rdOf false T (n : Int) = true then [tri p n] else []) := by
  unfold accT
  rw [List.range_succ, List.filter_append, List.map_append]
  congr 1
  by_cases h : rdOf false T (n : Int) = true
  · simp [h]
  · simp [h]
theorem accT_len (p : Int) (T : List Bool) (n : Nat) : (accT p T n).length ≤ n := by
  unfold accT
  rw [List.length_map]
  have := List.length_filter_le (fun m : Nat => rdOf false T (m : Int)) (List.range n)
  rw [List.length_range] at this
  exact this
theorem l2_run {p : Int} (hP : smallPrime p = true) {T : List Bool} (hT : (T.length : Int) = p * p * p) : ∀ (d n : Nat), n + d = T.length → Ev (fun k => spec_ModOrbit.l2 k p (accT p T n) T (T.length : Int) (n : Int)) (accT p T T.length, true) := by
  have hb := smallPrime_bd hP
  have hs := size_is hP
  have hp0 : ¬ p = 0 := by omega
  have hpp : ¬ wrap64 (p * p) = 0 := by rcases smallPrime_is hP with rfl | rfl | rfl | rfl | rfl | rfl <;> decide +kernel
  intro d
  induction d with
  | zero =>
    intro n hn
    have c1 : ¬ (n : Int) < (T.length : Int) := by omega
    obtain rfl : n = T.length := by omega
    exact Ev.step (f := fun _ => some (accT p T T.length, true)) (fun k => by simp only [spec_ModOrbit.l2, c1, if_false]) (Ev.is rfl)
  | succ d ih =>
    intro n hn
    have c1 : (n : Int) < (T.length : Int) := by omega
    have c2 : (0 : Int) ≤ (n : Int) := by omega
    have hw : wrap64 ((n : Int) + 1) = ((n + 1 : Nat) : Int) := w64_succ (n := T.length) (by omega) (by omega)
    have hl := accT_len p T n
    have hl2 : (accT p T n).length < 5864062014805 := by omega
    have ht := tri_is hP (n := n) (by omega)
    have ih1 := ih (n + 1) (by omega)
    rw [accT_succ] at ih1
    by_cases hr : rdOf false T (n : Int) = true
    · rw [if_pos hr] at ih1
      exact Ev.step (fun k => by simp only [spec_ModOrbit.l2, c1, c2, if_true, hr, hpp, hp0, if_false, hl2, ht, hw]) ih1
    · rw [if_neg hr, List.append_nil] at ih1
      exact Ev.step (fun k => by simp only [spec_ModOrbit.l2, c1, c2, if_true, hr, Bool.false_eq_true, if_false, hw]) ih1
theorem accT_is {p : Int} (hP : smallPrime p = true) {T : List Bool} {Q : List (List Int)} (hT : Tab p T Q) (hv : ∀ x ∈ Q, Val p x) : accT p T T.length = sortDedup Q := by
  refine sortDedup_is ?_ ?_
  · unfold accT
    rw [List.pairwise_map, List.pairwise_filter]
    exact List.pairwise_lt_range.imp (fun h _ _ => tri_lt hP h)
  · intro z
    unfold accT
    rw [List.mem_map]
    constructor
    · rintro ⟨m, hm, rfl⟩
      rw [List.mem_filter, List.mem_range] at hm
      have h1 := tri_val hP (n := m) (by rw [← hT.1]; omega)
      obtain ⟨a, b, c, he, ha, hb, hc⟩ := h1.1
      have h2 := hT.2 a b c ha hb hc
      rw [← he] at h2
      have h3 := h1.2
      unfold tri at he
      simp only [List.cons.injEq, and_true] at he
      obtain ⟨e1, e2, e3⟩ := he
      rw [e1, e2, e3] at h3
      rw [h3, hm.2] at h2
      exact of_decide_eq_true h2.symm
    · intro hz
      obtain ⟨a, b, c, rfl, ha, hb, hc⟩ := hv z hz
      have hi := idx_in hP ha hb hc
      refine ⟨((a * p + b) * p + c).toNat, ?_, tri_idx hP ha hb hc⟩
      rw [List.mem_filter, List.mem_range]
      have hl := hT.1
      refine ⟨by omega, ?_⟩
      rw [Int.toNat_of_nonneg hi.1, hT.2 a b c ha hb hc]
      exact decide_eq_true hz
/-- What is reached from a triple. -/
def OrbQ (p : Int) (l : List Int) (Q : List (List Int)) : Prop := Q.Nodup ∧ (∀ x ∈ Q, Val p x) ∧ l ∈ Q ∧ (∀ x ∈ Q, ∀ i, i < 3 → mvT p x i ∈ Q) ∧ ∀ C : List Int → Prop, C l → (∀ x, Val p x → C x → ∀ i, i < 3 → C (mvT p x i)) → ∀ x ∈ Q, C x
theorem mod_val {p : Int} (hp : 2 ≤ p ∧ p ≤ 13) : ∀ {l : List Int}, mkModB p l = true → Val p l
  | [x, y, z], h => by
    have he : mkModB p [x, y, z] = ([x, y, z].all (inB 0 (wrap64 (p - 1))) && (!(wrap64 (wrap64 (x + y) + z) == 0) && (Int.tmod (wrap64 ((wrap64 ((wrap64 ((wrap64 (x * x)) + (wrap64 (y * y)))) + (wrap64 (z * z)))) - (wrap64 ((wrap64 ((wrap64 (3 * x)) * y)) * z)))) p == 0))) := rfl
    rw [he, Bool.and_eq_true, w64 (by omega) (by omega)] at h
    have h1 := three_all h.1
    exact ⟨x, y, z, rfl, by omega, by omega, by omega⟩
theorem total_val {p : Int} : ∀ {o : List (List Int)}, (∀ x ∈ o, Val p x) → total o = 3 * o.length
  | [], _ => rfl
  | x :: o, h => by
    have h1 := (h x List.mem_cons_self).len
    have h2 := total_val (o := o) (fun y hy => h y (List.mem_cons_of_mem _ hy))
    show x.length + total o = 3 * (o.length + 1)
    omega
theorem ModOrbit_both (p : Int) (l : List Int) (hn : l.length ≤ 4611686018427387904) : ∃ r : List (List Int) × Bool, Ev (fun k => spec_ModOrbit.f k p l) r ∧ Ev (fun k => impl_ModOrbit.f k p l) r ∧ r.1.length ≤ 2197 ∧ total r.1 ≤ 6591 ∧ r.2 = (smallPrime p && mkModB p l) ∧ (r.2 = true → ∃ Q, r.1 = sortDedup Q ∧ OrbQ p l Q) ∧ ∀ x ∈ r.1, Val p x := by
  have e1 := mkPrime_ev p
  have e2 := isModulus_ev p
  have hbad : Ev (fun k => spec_ModOrbit.j0 k p l true) ([], false) := Ev.step (f := fun _ => some ([], false)) (fun k => by simp only [spec_ModOrbit.j0, if_true]) (Ev.is rfl)
  unfold spec_ModOrbit.f impl_ModOrbit.f
  cases hp : smallPrime p with
  | false =>
    rw [hp] at e1 e2
    refine ⟨([], false), Ev.bind e1 ?_, Ev.bind e2 ?_, by simp, by simp [total], rfl, fun h => by simp at h, fun x hx => by simp at hx⟩
    · simp only [Bool.false_eq_true, if_false]
      exact hbad
    · simp only [Bool.false_eq_true, if_false]
      exact Ev.is rfl
  | true =>
    rw [hp] at e1 e2
    have hb := smallPrime_bd hp
    have hm := isMod_is p hb l
    have hs : spec_mkMod.f p l = some (mkModB p l) := rfl
    rw [hm, hs]
    cases hM : mkModB p l with
    | false =>
      refine ⟨([], false), Ev.bind e1 ?_, Ev.bind e2 ?_, by simp, by simp [total], rfl, fun h => by simp at h, fun x hx => by simp at hx⟩
      · simp only [if_true, Option.bind_some, Bool.not_false]
        exact hbad
      · simp only [if_true, Option.bind_some, Bool.false_eq_true, if_false]
        exact Ev.is rfl
    | true =>
      have hv := mod_val hb hM
      have hg := goodT_val hb hv
      have ho := own_three l (by rw [hv.len]; omega)
      obtain ⟨a, b, c, rfl, ha, hb', hc⟩ := hv
      have hsz := size_is hp
      have hi := idx_in hp ha hb' hc
      have ht := tab_first hp ha hb' hc
      obtain ⟨Q, T', hTQ, hvQ, hnQ, hsub, hcl, hleast, r1, r2⟩ := orbit_run hp (p * p * p).toNat [[a, b, c]] _ 0 ht (fun x hx => by rw [List.mem_singleton] at hx; rw [hx]; exact ⟨a, b, c, rfl, ha, hb', hc⟩) (by simp) (by omega) (by omega) (fun j hj => absurd hj (by omega))
      have h2 := r2 (sortDedup Q, true) (by
        have h3 := l2_run hp hTQ.1 T'.length 0 (by omega)
        rw [accT_is hp hTQ hvQ] at h3
        exact h3)
      have hlQ := orb_len hp hnQ hvQ
      have hvS : ∀ x ∈ sortDedup Q, Val p x := fun x hx => hvQ x ((sortDedup_mem x Q).1 hx)
      have hl : (sortDedup Q).length ≤ Q.length := nodup_le _ _ ((sortDedup_sorted Q).imp (fun {a b} h e => by subst e; rw [cmpL_self] at h; omega)) (fun x hx => (sortDedup_mem x Q).1 hx)
      refine ⟨(sortDedup Q, true), Ev.bind e1 ?_, Ev.bind e2 ?_, by show (sortDedup Q).length ≤ 2197; omega, by show total (sortDedup Q) ≤ 6591; rw [total_val hvS]; omega, rfl, fun _ => ⟨Q, rfl, hnQ, hvQ, hsub _ (by simp), hcl, fun C h1 h2 => hleast C (fun x hx => by rw [List.mem_singleton] at hx; rw [hx]; exact h1) h2⟩, hvS⟩
      · simp only [if_true, Option.bind_some, Bool.not_true]
        have hw : wrap64 (wrap64 (p * p) * p) = p * p * p := by rcases smallPrime_is hp with rfl | rfl | rfl | rfl | rfl | rfl <;> decide +kernel
        have q1 : 0 ≤ p * p * p := by omega
        have q2 : (p * p * p).toNat ≤ 281474976710656 := by omega
        have hl3 : (([a, b, c] : List Int).length : Int) = 3 := rfl
        have q3 : (0 : Int) < 3 := by decide
        have q4 : (1 : Int) < 3 := by decide
        have q5 : (2 : Int) < 3 := by decide
        have s0 : rd [a, b, c] 0 = a := rfl
        have s1 : rd [a, b, c] 1 = b := rfl
        have s2 : rd [a, b, c] 2 = c := rfl
        have hx := idx_wrap hp ha hb' hc
        have d1 : 0 ≤ (a * p + b) * p + c := hi.1
        have d2 : (a * p + b) * p + c < ((List.replicate (p * p * p).toNat false).length : Int) := by rw [List.length_replicate, hsz.1]; exact hi.2
        exact Ev.step (fun k => by simp only [spec_ModOrbit.j0, Bool.false_eq_true, if_false, hw, q1, q2, if_true, Option.bind_some, hl3, q3, q4, q5, s0, s1, s2, hx, d1, d2, ho.1]; rfl) h2
      · simp only [if_true, Option.bind_some, hg, ho.2]
        exact Ev.bind r1 (Ev.is rfl)
end Go.Proofs.Ythkmbkibceojlaa.P

-- UmodAll
namespace Go.Proofs.Ythkmbkibceojlaa.P
set_option linter.unusedVariables false
set_option linter.unusedSimpArgs false
open Go.RowKit Go.Proofs.YthkmbkibceojlaaW.PrintWords Go.Proofs.YthkmbkibceojlaaW.PrintLast Go.Proofs.YthkmbkibceojlaaW.PrintMore
theorem Ev.uniq {α : Type} {g : Nat → Option α} {a b : α} (h1 : Ev g a) (h2 : Ev g b) : a = b := by
  obtain ⟨k1, h1⟩ := h1
  obtain ⟨k2, h2⟩ := h2
  have e1 := h1 (k1 + k2) (by omega)
  have e2 := h2 (k1 + k2) (by omega)
  exact Option.some.inj (e1.symm.trans e2)
def cntOf (p : Int) : Int := if p = 2 then 4 else if p = 3 then 8 else if p % 4 = 1 then p * (p + 3) else p * (p - 3)
/-- What is reckoned: from 1 1 1 all are reached, they are so many, and a move leads to one of them. -/
def allOf (p : Int) : Bool := match orbL p 300 [[1, 1, 1]] 0 with
  | some L => decide ((L.length : Int) = cntOf p) && (List.range (p * p * p).toNat).all (fun n => !(mkModB p (tri p n)) || (decide (tri p n ∈ L) && (mkModB p (mvT p (tri p n) 0) && (mkModB p (mvT p (tri p n) 1) && mkModB p (mvT p (tri p n) 2)))))
  | none => false
theorem allOf_2 : allOf 2 = true := by decide +kernel
theorem allOf_3 : allOf 3 = true := by decide +kernel
theorem allOf_5 : allOf 5 = true := by decide +kernel
theorem allOf_7 : allOf 7 = true := by decide +kernel
theorem allOf_11 : allOf 11 = true := by decide +kernel
theorem allOf_13 : allOf 13 = true := by decide +kernel
theorem allOf_is {p : Int} (hP : smallPrime p = true) : allOf p = true := by
  rcases smallPrime_is hP with rfl | rfl | rfl | rfl | rfl | rfl
  · exact allOf_2
  · exact allOf_3
  · exact allOf_5
  · exact allOf_7
  · exact allOf_11
  · exact allOf_13
theorem all_parts {p : Int} (hP : smallPrime p = true) : ∃ L, orbL p 300 [[1, 1, 1]] 0 = some L ∧ (L.length : Int) = cntOf p ∧ ∀ l, mkModB p l = true → l ∈ L ∧ ∀ i, i < 3 → mkModB p (mvT p l i) = true := by
  have h := allOf_is hP
  unfold allOf at h
  cases hL : orbL p 300 [[1, 1, 1]] 0 with
  | none => rw [hL] at h; simp at h
  | some L =>
    rw [hL] at h
    rw [Bool.and_eq_true] at h
    refine ⟨L, rfl, of_decide_eq_true h.1, fun l hl => ?_⟩
    obtain ⟨a, b, c, rfl, ha, hb, hc⟩ := mod_val (smallPrime_bd hP) hl
    have hi := idx_in hP ha hb hc
    have hs := (size_is hP).1
    have h2 := List.all_eq_true.1 h.2 ((a * p + b) * p + c).toNat (by rw [List.mem_range]; omega)
    rw [tri_idx hP ha hb hc, hl] at h2
    simp only [Bool.not_true, Bool.false_or, Bool.and_eq_true] at h2
    refine ⟨of_decide_eq_true h2.1, fun i hi => ?_⟩
    have h3 : i = 0 ∨ i = 1 ∨ i = 2 := by omega
    rcases h3 with rfl | rfl | rfl
    · exact h2.2.1
    · exact h2.2.2.1
    · exact h2.2.2.2
theorem undone {p m a : Int} (ha : 0 ≤ a ∧ a < p) : (m - (m - a) % p) % p = a := by
  have h1 := Int.emod_add_mul_ediv (m - a) p
  rw [show m - (m - a) % p = a + p * ((m - a) / p) by omega, Int.add_mul_emod_self_left, Int.emod_eq_of_lt ha.1 ha.2]
theorem mvM_mvM {p : Int} {x : List Int} (h : Val p x) (i : Nat) (hi : i < 3) : mvT p (mvT p x i) i = x := by
  obtain ⟨a, b, c, rfl, ha, hb, hc⟩ := h
  have h3 : i = 0 ∨ i = 1 ∨ i = 2 := by omega
  rcases h3 with rfl | rfl | rfl
  · show [(3 * b * c - (3 * b * c - a) % p) % p, b, c] = [a, b, c]
    rw [undone ha]
  · show [a, (3 * c * a - (3 * c * a - b) % p) % p, c] = [a, b, c]
    rw [undone hb]
  · show [a, b, (3 * a * b - (3 * a * b - c) % p) % p] = [a, b, c]
    rw [undone hc]
theorem ones_mod {p : Int} (hP : smallPrime p = true) : mkModB p [1, 1, 1] = true := by
  rcases smallPrime_is hP with rfl | rfl | rfl | rfl | rfl | rfl <;> decide +kernel
theorem orbit_of {p : Int} (hP : smallPrime p = true) {l : List Int} (hM : mkModB p l = true) : ∃ Q, OrbQ p l Q ∧ Ev (fun k => orbL p k [l] 0) (sortDedup Q) := by
  have hv := mod_val (smallPrime_bd hP) hM
  obtain ⟨a, b, c, rfl, ha, hb', hc⟩ := hv
  have hsz := size_is hP
  have ht := tab_first hP ha hb' hc
  obtain ⟨Q, T', hTQ, hvQ, hnQ, hsub, hcl, hleast, r1, r2⟩ := orbit_run hP (p * p * p).toNat [[a, b, c]] _ 0 ht (fun x hx => by rw [List.mem_singleton] at hx; rw [hx]; exact ⟨a, b, c, rfl, ha, hb', hc⟩) (by simp) (by omega) (by omega) (fun j hj => absurd hj (by omega))
  exact ⟨Q, ⟨hnQ, hvQ, hsub _ (by simp), hcl, fun C h1 h2 => hleast C (fun x hx => by rw [List.mem_singleton] at hx; rw [hx]; exact h1) h2⟩, r1⟩
theorem orbit_len {p : Int} (hP : smallPrime p = true) {l : List Int} (hM : mkModB p l = true) {Q : List (List Int)} (hQ : OrbQ p l Q) : ((sortDedup Q).length : Int) = cntOf p := by
  obtain ⟨Q1, h1, e1⟩ := orbit_of hP (ones_mod hP)
  obtain ⟨L, hL, hc, hall⟩ := all_parts hP
  have e2 : Ev (fun k => orbL p k [[1, 1, 1]] 0) L := Ev.of (fun k => orbL_mono p k _ _) hL
  have e3 := Ev.uniq e1 e2
  have hin : l ∈ Q1 := (sortDedup_mem l Q1).1 (by rw [e3]; exact (hall l hM).1)
  have s1 : ∀ x ∈ Q, x ∈ Q1 := hQ.2.2.2.2 (fun x => x ∈ Q1) hin (fun x _ hx i hi => h1.2.2.2.1 x hx i hi)
  have back : ∀ x ∈ Q1, ∀ D : List Int → Prop, D x → (∀ y, Val p y → D y → ∀ i, i < 3 → D (mvT p y i)) → D [1, 1, 1] := by
    refine h1.2.2.2.2 (fun x => ∀ D : List Int → Prop, D x → (∀ y, Val p y → D y → ∀ i, i < 3 → D (mvT p y i)) → D [1, 1, 1]) (fun D h _ => h) ?_
    intro x hv hx i hi D hD hcl
    refine hx D ?_ hcl
    have h2 := hcl _ (mvM_val (smallPrime_bd hP) hv i hi) hD i hi
    rw [mvM_mvM hv i hi] at h2
    exact h2
  have h0 : [1, 1, 1] ∈ Q := back l hin (fun x => x ∈ Q) hQ.2.2.1 (fun y _ hy i hi => hQ.2.2.2.1 y hy i hi)
  have s2 : ∀ x ∈ Q1, x ∈ Q := h1.2.2.2.2 (fun x => x ∈ Q) h0 (fun x _ hx i hi => hQ.2.2.2.1 x hx i hi)
  have e4 : sortDedup Q = sortDedup Q1 := sortDedup_is (sortDedup_sorted Q) (fun z => (sortDedup_mem z Q).trans ⟨s1 z, s2 z⟩)
  rw [e4, e3]
  exact hc
theorem ModCount_2 : impl_ModCount.f 100 2 = some (4, true) ∧ spec_ModCount.f 100 2 = some (4, true) := by decide +kernel
theorem ModCount_3 : impl_ModCount.f 100 3 = some (8, true) ∧ spec_ModCount.f 100 3 = some (8, true) := by decide +kernel
theorem ModCount_5 : impl_ModCount.f 500 5 = some (40, true) ∧ spec_ModCount.f 500 5 = some (40, true) := by decide +kernel
theorem ModCount_7 : impl_ModCount.f 1000 7 = some (28, true) ∧ spec_ModCount.f 1000 7 = some (28, true) := by decide +kernel
theorem ModCount_11 : impl_ModCount.f 2000 11 = some (88, true) ∧ spec_ModCount.f 2000 11 = some (88, true) := by decide +kernel
theorem ModCount_13 : impl_ModCount.f 3000 13 = some (208, true) ∧ spec_ModCount.f 3000 13 = some (208, true) := by decide +kernel
theorem ModCount_both (p : Int) : Ev (fun k => impl_ModCount.f k p) (if smallPrime p then cntOf p else 0, smallPrime p) ∧ Ev (fun k => spec_ModCount.f k p) (if smallPrime p then cntOf p else 0, smallPrime p) := by
  have e1 := mkPrime_ev p
  have e2 := isModulus_ev p
  cases hp : smallPrime p with
  | true =>
    have m1 := fun k => impl_ModCount.mono p k
    have m2 := fun k => spec_ModCount.mono p k
    rcases smallPrime_is hp with rfl | rfl | rfl | rfl | rfl | rfl
    · exact ⟨Ev.of m1 ModCount_2.1, Ev.of m2 ModCount_2.2⟩
    · exact ⟨Ev.of m1 ModCount_3.1, Ev.of m2 ModCount_3.2⟩
    · exact ⟨Ev.of m1 ModCount_5.1, Ev.of m2 ModCount_5.2⟩
    · exact ⟨Ev.of m1 ModCount_7.1, Ev.of m2 ModCount_7.2⟩
    · exact ⟨Ev.of m1 ModCount_11.1, Ev.of m2 ModCount_11.2⟩
    · exact ⟨Ev.of m1 ModCount_13.1, Ev.of m2 ModCount_13.2⟩
  | false =>
    rw [hp] at e1 e2
    unfold impl_ModCount.f spec_ModCount.f
    refine ⟨Ev.bind e2 ?_, Ev.bind e1 ?_⟩
    · simp only [Bool.false_eq_true, if_false]
      exact Ev.is rfl
    · simp only [Bool.false_eq_true, if_false]
      exact Ev.is rfl
theorem ModMove_is (p : Int) (l : List Int) (i : Int) : Ev (fun k => spec_ModMove.f k p l i) (if (smallPrime p && mkModB p l && inB 0 2 i) = true then (mvT p l i.toNat, true) else ([], false)) ∧ Ev (fun k => impl_ModMove.f k p l i) (if (smallPrime p && mkModB p l && inB 0 2 i) = true then (mvT p l i.toNat, true) else ([], false)) := by
  unfold spec_ModMove.f impl_ModMove.f
  have e1 := mkPrime_ev p
  have e2 := isModulus_ev p
  cases hp : smallPrime p with
  | false =>
    rw [hp] at e1 e2
    refine ⟨Ev.bind e1 ?_, Ev.bind e2 ?_⟩ <;> (simp only [Bool.false_eq_true, if_false, Bool.false_and]; exact Ev.is rfl)
  | true =>
    rw [hp] at e1 e2
    have hb := smallPrime_bd hp
    have hm := isMod_is p hb l
    have hs : spec_mkMod.f p l = some (mkModB p l) := rfl
    rw [hm, hs]
    cases hM : mkModB p l with
    | false =>
      refine ⟨Ev.bind e1 ?_, Ev.bind e2 ?_⟩ <;> (simp only [if_true, Option.bind_some, Bool.false_eq_true, if_false, Bool.and_false, Bool.false_and]; exact Ev.is rfl)
    | true =>
      have h3 := mkMod_three hM
      have hI : impl_within.f i 0 2 = some (inB 0 2 i) := by
        unfold impl_within.f inB
        by_cases h : 0 ≤ i <;> simp [h]
      rw [l1In_inB, hI, modMoved_same p l i h3]
      cases hi2 : inB 0 2 i with
      | false =>
        refine ⟨Ev.bind e1 ?_, Ev.bind e2 ?_⟩ <;> (simp only [if_true, Option.bind_some, Bool.false_eq_true, if_false, Bool.and_false]; exact Ev.is rfl)
      | true =>
        have hi3 : 0 ≤ i ∧ i ≤ 2 := by simpa [inB] using hi2
        have hmv := mvM_is hb (mod_val hb hM) i.toNat (by omega)
        rw [Int.toNat_of_nonneg hi3.1] at hmv
        refine ⟨Ev.bind e1 ?_, Ev.bind e2 ?_⟩ <;> (simp only [if_true, Option.bind_some, hmv, Bool.and_self]; exact Ev.is rfl)
end Go.Proofs.Ythkmbkibceojlaa.P

-- UdrawMod
namespace Go.Proofs.Ythkmbkibceojlaa.P
set_option linter.unusedVariables false
set_option linter.unusedSimpArgs false
open Go.RowKit Go.Proofs.YthkmbkibceojlaaW.PrintWords Go.Proofs.YthkmbkibceojlaaW.PrintLast Go.Proofs.YthkmbkibceojlaaW.PrintMore
theorem moded_j1 (code : List Int) (hc : Bytes code) (p : Int) (l : List Int) (at_ seed : Int) (hl : l.length = 3) (h0 : 0 ≤ at_) (h1 : at_ ≤ 2000) :
    ∃ l' at' seed', Ev (fun k => spec_l1Cur_moded.j1 k p l code at_ seed) (p, l', at', seed') ∧ l'.length = 3 ∧ 0 ≤ at' ∧ at' ≤ 4000 := by
  obtain ⟨v1, a1, s1, e1, _, _⟩ := one_ok code hc at_ seed 6 h0 (by omega) (by decide)
  cases v1 with
  | true =>
    obtain ⟨v2, a2, s2, e2, _, _, _, _⟩ := pick_ok code hc a1 s1 13 (by omega) (by omega) (by decide)
    obtain ⟨v3, a3, s3, e3, _, _, _, _⟩ := pick_ok code hc a2 s2 13 (by omega) (by omega) (by decide)
    obtain ⟨v4, a4, s4, e4, _, _, _, _⟩ := pick_ok code hc a3 s3 13 (by omega) (by omega) (by decide)
    refine ⟨[v2, v3, wrap64 (v4 - 1)], a4, s4, Ev.step (f := fun _ => some (p, [v2, v3, wrap64 (v4 - 1)], a4, s4)) (fun k => ?_) (Ev.is rfl), rfl, by omega, by omega⟩
    simp only [spec_l1Cur_moded.j1, e1, Option.bind_some, if_true, e2, e3, e4]
  | false =>
    refine ⟨l, a1, s1, Ev.step (f := fun _ => some (p, l, a1, s1)) (fun k => ?_) (Ev.is rfl), hl, by omega, by omega⟩
    simp only [spec_l1Cur_moded.j1, e1, Option.bind_some, Bool.false_eq_true, if_false]
theorem moded_loop (code : List Int) (hc : Bytes code) {p : Int} (hp : 2 ≤ p ∧ p ≤ 13) (d : Nat) : ∀ (l : List Int) (at_ seed : Int), Val p l → d ≤ 100 → 0 ≤ at_ → at_ ≤ 1000 - 2 * (d : Int) →
    ∃ l' at' seed', Ev (fun k => spec_l1Cur_moded.l0 k p l (d : Int) code at_ seed) (p, l', at', seed') ∧ l'.length = 3 ∧ 0 ≤ at' ∧ at' ≤ 4000 := by
  induction d with
  | zero =>
    intro l at_ seed hv hd h0 h1
    obtain ⟨l', at', seed', e, h⟩ := moded_j1 code hc p l at_ seed hv.len h0 (by omega)
    have c : ¬ ((0 : Nat) : Int) > 0 := by decide
    exact ⟨l', at', seed', Ev.step (fun k => by simp only [spec_l1Cur_moded.l0, c, if_false]) e, h⟩
  | succ d ih =>
    intro l at_ seed hv hd h0 h1
    obtain ⟨v, a, s, e, p1, q1, _, _⟩ := pick_ok code hc at_ seed 3 h0 (by omega) (by decide)
    have q2 := q1 (by decide)
    have hm := mvM_is hp hv v.toNat (by omega)
    rw [Int.toNat_of_nonneg p1] at hm
    have w1 : wrap64 (((d + 1 : Nat) : Int) - 1) = (d : Int) := by rw [w64 (by omega) (by omega)]; omega
    have c : ((d + 1 : Nat) : Int) > 0 := by omega
    obtain ⟨l', at', seed', e3, h⟩ := ih (mvT p l v.toNat) a s (mvM_val hp hv v.toNat (by omega)) (by omega) (by omega) (by omega)
    exact ⟨l', at', seed', Ev.step (fun k => by simp only [spec_l1Cur_moded.l0, c, if_true, e, Option.bind_some, hm, w1]) e3, h⟩
theorem moded_ok (code : List Int) (hc : Bytes code) : ∃ (p : Int) (l' : List Int) (at' seed' : Int), Ev (fun k => spec_l1Cur_moded.f k code 0 0) (p, l', at', seed') ∧ l'.length = 3 ∧ 0 ≤ at' ∧ at' ≤ 4000 := by
  unfold spec_l1Cur_moded.f
  obtain ⟨p, a1, s1, e1, hm, _, _⟩ := among_ok code hc 0 0 [2, 3, 5, 5, 7, 7, 11, 13, 1, 4, 17] (by omega) (by omega) (by decide) (by decide)
  have ep := mkPrime_ev p
  cases hp : smallPrime p with
  | true =>
    rw [hp] at ep
    have hb := smallPrime_bd hp
    obtain ⟨v, a2, s2, e2, p2, q2, _, _⟩ := pick_ok code hc a1 s1 12 (by omega) (by omega) (by decide)
    have q3 := q2 (by decide)
    obtain ⟨n, rfl⟩ := Int.eq_ofNat_of_zero_le p2
    obtain ⟨l', at', seed', e, h⟩ := moded_loop code hc hb n [1, 1, 1] a2 s2 ⟨1, 1, 1, rfl, by omega, by omega, by omega⟩ (by omega) (by omega) (by omega)
    refine ⟨p, l', at', seed', Ev.bind0 e1 (Ev.bind0 rfl (Ev.bind ep ?_)), h⟩
    simp only [if_true, e2, Option.bind_some]
    exact e
  | false =>
    rw [hp] at ep
    obtain ⟨l', at', seed', e, h⟩ := moded_j1 code hc p [1, 1, 1] a1 s1 rfl (by omega) (by omega)
    refine ⟨p, l', at', seed', Ev.bind0 e1 (Ev.bind0 rfl (Ev.bind ep ?_)), h⟩
    simp only [Bool.false_eq_true, if_false]
    exact e
end Go.Proofs.Ythkmbkibceojlaa.P

-- PureFnMarkovModulo
namespace Go.Proofs.Ythkmbkibceojlaa.Pure
set_option linter.unusedVariables false
set_option linter.unusedSimpArgs false
open Go.RowKit Go.Proofs.Ythkmbkibceojlaa.P Go.Proofs.YthkmbkibceojlaaW.PrintWords Go.Proofs.YthkmbkibceojlaaW.PrintLast Go.Proofs.YthkmbkibceojlaaW.PrintMore
theorem dLess_ev {p : Int} {x y : List Int} (hx : Val p x) (hy : Val p y) (h : cmpL x y < 0) : Ev (fun k => laws_dLess.f k x y) true := by
  obtain ⟨a, b, c, rfl, _⟩ := hx
  obtain ⟨d, e, f, rfl, _⟩ := hy
  unfold laws_dLess.f
  have hl : (([a, b, c] : List Int).length : Int) = 3 := rfl
  have hl2 : (([d, e, f] : List Int).length : Int) = 3 := rfl
  have r0 : rd [a, b, c] 0 = a := rfl
  have r1 : rd [a, b, c] 1 = b := rfl
  have r2 : rd [a, b, c] 2 = c := rfl
  have s0 : rd [d, e, f] 0 = d := rfl
  have s1 : rd [d, e, f] 1 = e := rfl
  have s2 : rd [d, e, f] 2 = f := rfl
  have q0 : (0 : Int) < 3 := by decide
  have q1 : (1 : Int) < 3 := by decide
  have q2 : (2 : Int) < 3 := by decide
  have z0 : (0 : Int) ≤ 0 := by decide
  have z1 : (0 : Int) ≤ 1 := by decide
  have z2 : (0 : Int) ≤ 2 := by decide
  have w0 : wrap64 (0 + 1) = 1 := by decide +kernel
  have w1 : wrap64 (1 + 1) = 2 := by decide +kernel
  rw [hl]
  simp only [cmpL] at h
  by_cases h1 : a = d
  · subst h1
    rw [if_neg (by omega), if_neg (by omega)] at h
    refine Ev.step (f := fun k => laws_dLess.l0 k [a, b, c] [a, e, f] 3 1) (fun k => by simp only [laws_dLess.l0, hl, hl2, q0, z0, r0, s0, if_true, w0]) ?_
    by_cases h2 : b = e
    · subst h2
      rw [if_neg (by omega), if_neg (by omega)] at h
      refine Ev.step (f := fun k => laws_dLess.l0 k [a, b, c] [a, b, f] 3 2) (fun k => by simp only [laws_dLess.l0, hl, hl2, q1, z1, r1, s1, if_true, w1]) ?_
      have h3 : c < f := by
        by_cases h4 : c < f
        · exact h4
        · rw [if_neg h4] at h
          split at h <;> simp at h
      have h4 : ¬ c = f := by omega
      exact Ev.step (f := fun _ => some true) (fun k => by simp only [laws_dLess.l0, hl, hl2, q2, z2, r2, s2, if_true, h4, if_false, decide_eq_true h3]) (Ev.is rfl)
    · have h3 : b < e := by
        by_cases h4 : b < e
        · exact h4
        · rw [if_neg h4, if_pos (by omega)] at h
          simp at h
      exact Ev.step (f := fun _ => some true) (fun k => by simp only [laws_dLess.l0, hl, hl2, q1, z1, r1, s1, if_true, h2, if_false, decide_eq_true h3]) (Ev.is rfl)
  · have h3 : a < d := by
      by_cases h4 : a < d
      · exact h4
      · rw [if_neg h4, if_pos (by omega)] at h
        simp at h
    exact Ev.step (f := fun _ => some true) (fun k => by simp only [laws_dLess.l0, hl, hl2, q0, z0, r0, s0, if_true, h1, if_false, decide_eq_true h3]) (Ev.is rfl)
theorem count_form {p : Int} (hP : smallPrime p = true) (h : p > 3) : (if Int.tmod p 4 = 1 then some (cntOf p == (wrap64 (p * (wrap64 (p + 3))))) else some (cntOf p == (wrap64 (p * (wrap64 (p - 3)))))) = some true := by
  rcases smallPrime_is hP with rfl | rfl | rfl | rfl | rfl | rfl <;> first | omega | decide +kernel
theorem last_part (l1 : List Int) (hc : Bytes l1) : Ev (fun k => laws_FnMarkovModulo.j4 k l1) true := by
  obtain ⟨p, a1, s1, e1, _, _, _⟩ := among_ok l1 hc 0 0 [2, 3, 5, 7, 11, 13, 1, 4, 17, 0, (-3)] (by omega) (by omega) (by decide) (by decide)
  have hD : spec_DrawModCount.f l1 = some p := by
    unfold spec_DrawModCount.f
    rw [e1]
    rfl
  obtain ⟨c1, c2⟩ := ModCount_both p
  refine Ev.step (fun k => by simp only [laws_FnMarkovModulo.j4]; rfl) (Ev.bind0 hD (Ev.bind c1 (Ev.bind c2 ?_)))
  simp only [bne_self_eq_false, Bool.false_eq_true, if_false]
  cases hp : smallPrime p with
  | false =>
    refine Ev.step (fun k => by simp only [laws_FnMarkovModulo.j5, Bool.false_eq_true, if_false]; rfl) ?_
    exact Ev.step (f := fun _ => some true) (fun k => by simp only [laws_FnMarkovModulo.j6, Bool.false_eq_true, if_false]) (Ev.is rfl)
  | true =>
    refine Ev.step (fun k => by simp only [laws_FnMarkovModulo.j5, Bool.false_eq_true, if_false, if_true]; rfl) ?_
    by_cases h3 : p > 3
    · rw [decide_eq_true h3]
      exact Ev.step (f := fun _ => some true) (fun k => by simp only [laws_FnMarkovModulo.j6, if_true]; exact count_form hp h3) (Ev.is rfl)
    · rw [decide_eq_false h3]
      exact Ev.step (f := fun _ => some true) (fun k => by simp only [laws_FnMarkovModulo.j6, Bool.false_eq_true, if_false]) (Ev.is rfl)
theorem order_loop (l1 t : List Int) {p : Int} (W : List (List Int)) (hW : W.length ≤ 2197) (hv : ∀ x ∈ W, Val p x) (ht : t.length ≤ 3) (hs : W.Pairwise fun a b => cmpL a b < 0) (hend : Ev (fun k => laws_FnMarkovModulo.j4 k l1) true) (d : Nat) : ∀ (i : Nat) (f : Bool), i + d = W.length → (f = true ∨ t ∈ W.drop i) → Ev (fun k => laws_FnMarkovModulo.l0 k l1 t W f W (W.length : Int) (i : Int)) true := by
  induction d with
  | zero =>
    intro i f hi hf
    have c1 : ¬ (i : Int) < (W.length : Int) := by omega
    have hf2 : f = true := by
      rcases hf with h | h
      · exact h
      · rw [List.drop_eq_nil_of_le (by omega)] at h
        simp at h
    exact Ev.step (fun k => by simp only [laws_FnMarkovModulo.l0, c1, if_false, hf2, if_true]) hend
  | succ d ih =>
    intro i f hi hf
    have hil : i < W.length := by omega
    have c1 : (i : Int) < (W.length : Int) := by omega
    have c2 : (0 : Int) ≤ (i : Int) := by omega
    have hw : wrap64 ((i : Int) + 1) = ((i + 1 : Nat) : Int) := w64_succ hil (by omega)
    have hg := rdL1_get W i hil
    have hx := hv W[i] (List.getElem_mem hil)
    have key : ∀ g : Bool, (g = true ∨ t ∈ W.drop (i + 1)) → Ev (fun k => if (i : Int) > 0 then (if 0 ≤ (wrap64 ((i : Int) - 1)) then (if (wrap64 ((i : Int) - 1)) < (W.length : Int) then ((laws_dLess.f k (rd_L1 W (wrap64 ((i : Int) - 1))) W[i]).bind fun t620 => (if t620 = true then (laws_FnMarkovModulo.l0 k l1 t W g W (W.length : Int) ((i + 1 : Nat) : Int)) else (some false))) else (none)) else (none)) else (laws_FnMarkovModulo.l0 k l1 t W g W (W.length : Int) ((i + 1 : Nat) : Int))) true := by
      intro g hgg
      have hr := ih (i + 1) g (by omega) hgg
      by_cases h0 : (i : Int) > 0
      · obtain ⟨j, rfl⟩ : ∃ j, i = j + 1 := ⟨i - 1, by omega⟩
        have w1 : wrap64 (((j + 1 : Nat) : Int) - 1) = (j : Int) := by rw [w64 (by omega) (by omega)]; omega
        have d1 : (0 : Int) ≤ (j : Int) := by omega
        have d2 : (j : Int) < (W.length : Int) := by omega
        have hlt := List.pairwise_iff_getElem.1 hs j (j + 1) (by omega) hil (by omega)
        have hd := dLess_ev (hv W[j] (List.getElem_mem (by omega))) hx hlt
        simp only [h0, if_true, w1, d1, d2, rdL1_get W j (by omega)]
        refine Ev.bind hd ?_
        simp only [if_true]
        exact hr
      · simp only [h0, if_false]
        exact hr
    cases f with
    | true =>
      refine Ev.step (fun k => ?_) (key true (.inl rfl))
      simp only [laws_FnMarkovModulo.l0, c1, c2, if_true, hg, hw]
    | false =>
      have hds := dSame_ev W[i] t (by rw [hx.len]; decide)
      have h2 : decide (W[i] = t) = true ∨ t ∈ W.drop (i + 1) := by
        rcases hf with h | h
        · simp at h
        · rw [List.drop_eq_getElem_cons hil] at h
          rcases List.mem_cons.1 h with h | h
          · exact .inl (decide_eq_true h.symm)
          · exact .inr h
      refine Ev.step (fun k => ?_) (Ev.bind (f := fun k g => if (i : Int) > 0 then (if 0 ≤ (wrap64 ((i : Int) - 1)) then (if (wrap64 ((i : Int) - 1)) < (W.length : Int) then ((laws_dLess.f k (rd_L1 W (wrap64 ((i : Int) - 1))) W[i]).bind fun t620 => (if t620 = true then (laws_FnMarkovModulo.l0 k l1 t W g W (W.length : Int) ((i + 1 : Nat) : Int)) else (some false))) else (none)) else (none)) else (laws_FnMarkovModulo.l0 k l1 t W g W (W.length : Int) ((i + 1 : Nat) : Int))) hds (key _ h2))
      simp only [laws_FnMarkovModulo.l0, c1, c2, if_true, hg, hw, Bool.false_eq_true, if_false]
theorem second_part (l1 : List Int) (hc : Bytes l1) : Ev (fun k => laws_FnMarkovModulo.j1 k l1) true := by
  obtain ⟨p, t, a1, s1, e1, ht, h1, h2⟩ := moded_ok l1 hc
  have hD : Ev (fun k => spec_DrawModOrbit.f k l1) (p, t) := by
    unfold spec_DrawModOrbit.f
    exact Ev.bind (a := (p, t, a1, s1)) e1 (Ev.is rfl)
  have hend := last_part l1 hc
  obtain ⟨r, o1, o2, hrl, _, hr2, hrq, hvr⟩ := ModOrbit_both p t (by omega)
  obtain ⟨c1, _⟩ := ModCount_both p
  have hv : ∀ x ∈ r.1, x.length ≤ 1000000 := fun x hx => by rw [(hvr x hx).len]; decide
  have hdl := dLists_ev r.1 (by omega) hv
  refine Ev.step (fun k => by simp only [laws_FnMarkovModulo.j1]; rfl) (Ev.bind hD (Ev.bind o2 (Ev.bind o1 (Ev.bind c1 ?_))))
  simp only [bne_self_eq_false, Bool.false_eq_true, if_false]
  refine Ev.bind hdl ?_
  simp only [if_true]
  cases hb : r.2 with
  | false =>
    simp only [Bool.false_eq_true, if_false]
    exact Ev.step (fun k => by simp only [laws_FnMarkovModulo.j2, Bool.false_eq_true, if_false]) hend
  | true =>
    rw [hb] at hr2
    have hr3 := hr2.symm
    rw [Bool.and_eq_true] at hr3
    obtain ⟨hP, hM⟩ := hr3
    obtain ⟨Q, hQ, hO⟩ := hrq hb
    have hlen := orbit_len hP hM hO
    rw [← hQ] at hlen
    simp only [hP, if_true, Bool.not_true]
    have hloop := order_loop l1 t (p := p) r.1 hrl (fun x hx => by rw [hQ] at hx; exact hO.2.1 x ((sortDedup_mem x Q).1 hx)) (by omega) (by rw [hQ]; exact sortDedup_sorted Q) hend r.1.length 0 false (by omega) (.inr (by rw [List.drop_zero, hQ]; exact (sortDedup_mem t Q).2 hO.2.2.1))
    exact Ev.step (fun k => by simp only [laws_FnMarkovModulo.j2, Bool.false_eq_true, if_false, if_true, hlen]; rw [← hlen]; rfl) hloop
theorem FnMarkovModulo : laws_FnMarkovModulo.Pure := by
  intro l0 l1 _ _ hb0 _ _ hb1
  refine Ev.rounds ?_
  unfold laws_FnMarkovModulo.f
  obtain ⟨t, ht⟩ : ∃ t, laws_big.f l0 l1 = some t := by
    unfold laws_big.f
    split <;> exact ⟨_, rfl⟩
  refine Ev.bind0 ht ?_
  cases t with
  | true =>
    simp only [if_true]
    exact Ev.is rfl
  | false =>
    simp only [Bool.false_eq_true, if_false]
    have hc := bytes_of_u8 hb0
    have hj1 := second_part l1 (bytes_of_u8 hb1)
    obtain ⟨p, t, a1, s1, e1, ht3, h1, h2⟩ := moded_ok l0 hc
    obtain ⟨i, a2, s2, e2, _, _, _⟩ := among_ok l0 hc a1 s1 [0, 1, 2, 3, (-1)] h1 (by omega) (by decide) (by decide)
    have hD : Ev (fun k => spec_DrawModMove.f k l0) (p, t, i) := by
      unfold spec_DrawModMove.f
      refine Ev.bind (a := (p, t, a1, s1)) e1 (Ev.is ?_)
      show (spec_l1Cur_among.f l0 a1 s1 [0, 1, 2, 3, (-1)]).bind _ = _
      rw [e2]
      rfl
    obtain ⟨m1, m2⟩ := ModMove_is p t i
    by_cases hok : (smallPrime p && mkModB p t && inB 0 2 i) = true
    · rw [if_pos hok] at m1 m2
      simp only [Bool.and_eq_true] at hok
      obtain ⟨⟨hP, hM⟩, hI⟩ := hok
      have hi : 0 ≤ i ∧ i ≤ 2 := by simpa [inB] using hI
      have hv := mod_val (smallPrime_bd hP) hM
      have hvm := mvM_val (smallPrime_bd hP) hv i.toNat (by omega)
      obtain ⟨L, _, _, hall⟩ := all_parts hP
      have hM2 := (hall t hM).2 i.toNat (by omega)
      obtain ⟨_, m3⟩ := ModMove_is p (mvT p t i.toNat) i
      rw [if_pos (by rw [hP, hM2, hI]; rfl), mvM_mvM hv i.toNat (by omega)] at m3
      have hs := dSame_ev (mvT p t i.toNat) (mvT p t i.toNat) (by rw [hvm.len]; decide)
      rw [decide_eq_true rfl] at hs
      have hs2 := dSame_ev t t (by omega)
      rw [decide_eq_true rfl] at hs2
      refine Ev.bind hD (Ev.bind m2 (Ev.bind m1 ?_))
      simp only [bne_self_eq_false, Bool.false_eq_true, if_false]
      refine Ev.bind hs ?_
      refine Ev.step (fun k => by simp only [laws_FnMarkovModulo.j0, Bool.not_true, Bool.false_eq_true, if_false, if_true]; rfl) (Ev.bind m3 ?_)
      simp only [if_true]
      refine Ev.bind hs2 ?_
      simp only [if_true]
      exact hj1
    · rw [if_neg hok] at m1 m2
      have hs := dSame_ev [] [] (by simp)
      rw [decide_eq_true rfl] at hs
      refine Ev.bind hD (Ev.bind m2 (Ev.bind m1 ?_))
      simp only [bne_self_eq_false, Bool.false_eq_true, if_false]
      refine Ev.bind hs ?_
      exact Ev.step (fun k => by simp only [laws_FnMarkovModulo.j0, Bool.not_true, Bool.false_eq_true, if_false]) hj1
end Go.Proofs.Ythkmbkibceojlaa.Pure
