/- A move leads to a triple and leads back, and only from 1 1 1 no move leads down. No condition. -/
import Derived.Test.YthkmbkibceojlaaPackFnMarkovMoves5
-- PFFnMarkovMoves
namespace Go.Proofs.Ythkmbkibceojlaa.P
open Go.RowKit Go.Proofs.YthkmbkibceojlaaW.PrintWords Go.Proofs.YthkmbkibceojlaaW.PrintLast
set_option linter.unusedVariables false
set_option linter.unusedSimpArgs false

/-! ### laws_FnMarkovMoves: function 14 -/
mutual
def laws_FnMarkovMoves.j0 : Nat → List Int → List Int → List Int → Bool → Bool → Option (Bool)
 | 0, _, _, _, _, _ => none
 | k + 1, x1, x5, x7, x8, x63 => if x63 = true then (some false) else (if x8 = true then ((impl_IsMarkov.f k x7).bind fun t858 => (if t858 = true then (laws_FnMarkovMoves.l0 k x1 x5 x7 false 0) else (some false))) else (laws_FnMarkovMoves.j2 k x1))
def laws_FnMarkovMoves.j2 : Nat → List Int → Option (Bool)
 | 0, _ => none
 | k + 1, x1 => (spec_DrawMarkovUp.f k x1).bind fun t864 => ((impl_MarkovUp.f k t864).bind fun bt867 => ((spec_MarkovUp.f k t864).bind fun bt871 => ((impl_MarkovDown.f k t864).bind fun bt875 => ((spec_MarkovDown.f t864).bind fun bt879 => (if (bt867.2 != bt871.2) = true then (laws_FnMarkovMoves.j3 k x1 t864 bt867.1 bt867.2 bt875.1 bt875.2 true) else ((laws_dLists.f k bt867.1 bt871.1).bind fun t883 => (if t883 = true then (if (bt875.2 != bt879.2) = true then (laws_FnMarkovMoves.j3 k x1 t864 bt867.1 bt867.2 bt875.1 bt875.2 true) else ((laws_dSame.f k bt875.1 bt879.1).bind fun t884 => (if t884 = true then ((impl_IsMarkov.f k t864).bind fun t885 => (laws_FnMarkovMoves.j3 k x1 t864 bt867.1 bt867.2 bt875.1 bt875.2 (bt867.2 != t885))) else (laws_FnMarkovMoves.j3 k x1 t864 bt867.1 bt867.2 bt875.1 bt875.2 true)))) else (laws_FnMarkovMoves.j3 k x1 t864 bt867.1 bt867.2 bt875.1 bt875.2 true))))))))
def laws_FnMarkovMoves.j3 : Nat → List Int → List Int → List (List Int) → Bool → List Int → Bool → Bool → Option (Bool)
 | 0, _, _, _, _, _, _, _ => none
 | k + 1, x1, x15, x16, x17, x20, x21, x136 => if x136 = true then (some false) else (if x17 = true then (if 2 < (x15.length : Int) then (if (x21 != (decide ((rd x15 2) > 1))) = true then (some false) else (laws_FnMarkovMoves.l1 k x1 x15 x20 x21 x16 (x16.length : Int) 0)) else (none)) else (laws_FnMarkovMoves.j7 k x1))
def laws_FnMarkovMoves.j7 : Nat → List Int → Option (Bool)
 | 0, _ => none
 | k + 1, x1 => (spec_DrawSolvesMarkov.f k x1).bind fun t898 => ((impl_SolvesMarkov.f t898).bind fun bt901 => ((spec_SolvesMarkov.f k t898).bind fun bt903 => (if (bt901.2 != bt903.2) = true then (laws_FnMarkovMoves.j8 k t898 bt901.1 true) else (laws_FnMarkovMoves.j8 k t898 bt901.1 (bt901.1 != bt903.1)))))
def laws_FnMarkovMoves.j8 : Nat → List Int → Bool → Bool → Option (Bool)
 | 0, _, _, _ => none
 | k + 1, x28, x29, x207 => if x207 = true then (some false) else (if x29 = true then (if 2 < (x28.length : Int) then (if 0 < (x28.length : Int) then (if 1 < (x28.length : Int) then ((impl_SolvesMarkov.f (([rd x28 2, rd x28 0, rd x28 1] : List Int))).bind fun bt911 => (if bt911.2 = true then (some bt911.1) else (some false))) else (none)) else (none)) else (none)) else (some true))
def laws_FnMarkovMoves.l1 : Nat → List Int → List Int → List Int → Bool → List (List Int) → Int → Int → Option (Bool)
 | 0, _, _, _, _, _, _, _ => none
 | k + 1, x1, x15, x20, x21, x144, x145, x146 => if x146 < x145 then (if 0 ≤ x146 then (if x146 < (x144.length : Int) then ((impl_MarkovDown.f k (rd_L1 x144 x146)).bind fun bt888 => (if bt888.2 = true then ((laws_dSame.f k bt888.1 x15).bind fun t892 => (if t892 = true then (if 2 < ((rd_L1 x144 x146).length : Int) then (if 2 < (x15.length : Int) then (laws_FnMarkovMoves.j5 k x1 x15 x20 x21 x144 x145 x146 (decide ((rd (rd_L1 x144 x146) 2) ≤ (rd x15 2)))) else (none)) else (none)) else (laws_FnMarkovMoves.j5 k x1 x15 x20 x21 x144 x145 x146 true))) else (laws_FnMarkovMoves.j5 k x1 x15 x20 x21 x144 x145 x146 true))) else (none)) else (none)) else (if x21 = true then (if 2 < (x20.length : Int) then (if 2 < (x15.length : Int) then (if (rd x20 2) ≥ (rd x15 2) then (laws_FnMarkovMoves.j6 k x1 true) else ((impl_IsMarkov.f k x20).bind fun t897 => (laws_FnMarkovMoves.j6 k x1 (!t897)))) else (none)) else (none)) else (laws_FnMarkovMoves.j6 k x1 false))
def laws_FnMarkovMoves.j5 : Nat → List Int → List Int → List Int → Bool → List (List Int) → Int → Int → Bool → Option (Bool)
 | 0, _, _, _, _, _, _, _, _ => none
 | k + 1, x1, x15, x20, x21, x144, x145, x146, x171 => if x171 = true then (some false) else (laws_FnMarkovMoves.l1 k x1 x15 x20 x21 x144 x145 (wrap64 (x146 + 1)))
def laws_FnMarkovMoves.j6 : Nat → List Int → Bool → Option (Bool)
 | 0, _, _ => none
 | k + 1, x1, x187 => if x187 = true then (some false) else (laws_FnMarkovMoves.j7 k x1)
def laws_FnMarkovMoves.l0 : Nat → List Int → List Int → List Int → Bool → Int → Option (Bool)
 | 0, _, _, _, _, _ => none
 | k + 1, x1, x5, x7, x11, x12 => if x12 < 3 then ((impl_MarkovMove.f k x7 x12).bind fun bt859 => (if x11 = true then (laws_FnMarkovMoves.l0 k x1 x5 x7 true (wrap64 (x12 + 1))) else (if bt859.2 = true then ((laws_dSame.f k bt859.1 x5).bind fun t863 => (laws_FnMarkovMoves.l0 k x1 x5 x7 t863 (wrap64 (x12 + 1)))) else (laws_FnMarkovMoves.l0 k x1 x5 x7 false (wrap64 (x12 + 1)))))) else (if x11 = true then (laws_FnMarkovMoves.j2 k x1) else (some false))
end
def laws_FnMarkovMoves.f (k : Nat) (l0 : List Int) (l1 : List Int) : Option (Bool) := (laws_big.f l0 l1).bind fun t844 => (if t844 = true then (some true) else ((spec_DrawMarkovMove.f k l0).bind fun bt845 => ((impl_MarkovMove.f k bt845.1 bt845.2).bind fun bt849 => ((spec_MarkovMove.f bt845.1 bt845.2).bind fun bt853 => (if (bt849.2 != bt853.2) = true then (laws_FnMarkovMoves.j0 k l1 bt845.1 bt849.1 bt849.2 true) else ((laws_dSame.f k bt849.1 bt853.1).bind fun t857 => (laws_FnMarkovMoves.j0 k l1 bt845.1 bt849.1 bt849.2 (!t857))))))))
theorem laws_FnMarkovMoves.mono_l : ∀ k, (∀ y0 y1 y2 y3 y4, LeO (laws_FnMarkovMoves.j0 k y0 y1 y2 y3 y4) (laws_FnMarkovMoves.j0 (k + 1) y0 y1 y2 y3 y4)) ∧ (∀ y0, LeO (laws_FnMarkovMoves.j2 k y0) (laws_FnMarkovMoves.j2 (k + 1) y0)) ∧ (∀ y0 y1 y2 y3 y4 y5 y6, LeO (laws_FnMarkovMoves.j3 k y0 y1 y2 y3 y4 y5 y6) (laws_FnMarkovMoves.j3 (k + 1) y0 y1 y2 y3 y4 y5 y6)) ∧ (∀ y0, LeO (laws_FnMarkovMoves.j7 k y0) (laws_FnMarkovMoves.j7 (k + 1) y0)) ∧ (∀ y0 y1 y2, LeO (laws_FnMarkovMoves.j8 k y0 y1 y2) (laws_FnMarkovMoves.j8 (k + 1) y0 y1 y2)) ∧ (∀ y0 y1 y2 y3 y4 y5 y6, LeO (laws_FnMarkovMoves.l1 k y0 y1 y2 y3 y4 y5 y6) (laws_FnMarkovMoves.l1 (k + 1) y0 y1 y2 y3 y4 y5 y6)) ∧ (∀ y0 y1 y2 y3 y4 y5 y6 y7, LeO (laws_FnMarkovMoves.j5 k y0 y1 y2 y3 y4 y5 y6 y7) (laws_FnMarkovMoves.j5 (k + 1) y0 y1 y2 y3 y4 y5 y6 y7)) ∧ (∀ y0 y1, LeO (laws_FnMarkovMoves.j6 k y0 y1) (laws_FnMarkovMoves.j6 (k + 1) y0 y1)) ∧ (∀ y0 y1 y2 y3 y4, LeO (laws_FnMarkovMoves.l0 k y0 y1 y2 y3 y4) (laws_FnMarkovMoves.l0 (k + 1) y0 y1 y2 y3 y4))
 | 0 => ⟨fun _ _ _ _ _ r h => by simp [laws_FnMarkovMoves.j0] at h, fun _ r h => by simp [laws_FnMarkovMoves.j2] at h, fun _ _ _ _ _ _ _ r h => by simp [laws_FnMarkovMoves.j3] at h, fun _ r h => by simp [laws_FnMarkovMoves.j7] at h, fun _ _ _ r h => by simp [laws_FnMarkovMoves.j8] at h, fun _ _ _ _ _ _ _ r h => by simp [laws_FnMarkovMoves.l1] at h, fun _ _ _ _ _ _ _ _ r h => by simp [laws_FnMarkovMoves.j5] at h, fun _ _ r h => by simp [laws_FnMarkovMoves.j6] at h, fun _ _ _ _ _ r h => by simp [laws_FnMarkovMoves.l0] at h⟩
 | k + 1 => by
  obtain ⟨ih0, ih1, ih2, ih3, ih4, ih5, ih6, ih7, ih8⟩ := laws_FnMarkovMoves.mono_l k
  refine ⟨?_, ?_, ?_, ?_, ?_, ?_, ?_, ?_, ?_⟩
  ·intro y0 y1 y2 y3 y4
   unfold laws_FnMarkovMoves.j0
   repeat' first
   | (with_reducible exact ih0 _ _ _ _ _)
   | (with_reducible exact ih1 _)
   | (with_reducible exact ih2 _ _ _ _ _ _ _)
   | (with_reducible exact ih3 _)
   | (with_reducible exact ih4 _ _ _)
   | (with_reducible exact ih5 _ _ _ _ _ _ _)
   | (with_reducible exact ih6 _ _ _ _ _ _ _ _)
   | (with_reducible exact ih7 _ _)
   | (with_reducible exact ih8 _ _ _ _ _)
   | (with_reducible exact impl_IsMarkov.mono _ _)
   | (with_reducible exact impl_MarkovDown.mono _ _)
   | (with_reducible exact impl_MarkovMove.mono _ _ _)
   | (with_reducible exact impl_MarkovUp.mono _ _)
   | (with_reducible exact laws_dLists.mono _ _ _)
   | (with_reducible exact laws_dSame.mono _ _ _)
   | (with_reducible exact spec_DrawMarkovMove.mono _ _)
   | (with_reducible exact spec_DrawMarkovUp.mono _ _)
   | (with_reducible exact spec_DrawSolvesMarkov.mono _ _)
   | (with_reducible exact spec_MarkovUp.mono _ _)
   | (with_reducible exact spec_SolvesMarkov.mono _ _)
   | (with_reducible exact LeO.refl _)
   | (with_reducible exact LeO.none _)
   | (with_reducible refine LeO.ite ?_ ?_)
   | (with_reducible refine LeO.bind ?_ (fun _ => ?_))
   | exact ih0 _ _ _ _ _
   | exact ih1 _
   | exact ih2 _ _ _ _ _ _ _
   | exact ih3 _
   | exact ih4 _ _ _
   | exact ih5 _ _ _ _ _ _ _
   | exact ih6 _ _ _ _ _ _ _ _
   | exact ih7 _ _
   | exact ih8 _ _ _ _ _
   | exact impl_IsMarkov.mono _ _
   | exact impl_MarkovDown.mono _ _
   | exact impl_MarkovMove.mono _ _ _
   | exact impl_MarkovUp.mono _ _
   | exact laws_dLists.mono _ _ _
   | exact laws_dSame.mono _ _ _
   | exact spec_DrawMarkovMove.mono _ _
   | exact spec_DrawMarkovUp.mono _ _
   | exact spec_DrawSolvesMarkov.mono _ _
   | exact spec_MarkovUp.mono _ _
   | exact spec_SolvesMarkov.mono _ _
   | exact LeO.none _
   | refine LeO.ite ?_ ?_
   | refine LeO.bind ?_ (fun _ => ?_)
  ·intro y0
   unfold laws_FnMarkovMoves.j2
   repeat' first
   | (with_reducible exact ih0 _ _ _ _ _)
   | (with_reducible exact ih1 _)
   | (with_reducible exact ih2 _ _ _ _ _ _ _)
   | (with_reducible exact ih3 _)
   | (with_reducible exact ih4 _ _ _)
   | (with_reducible exact ih5 _ _ _ _ _ _ _)
   | (with_reducible exact ih6 _ _ _ _ _ _ _ _)
   | (with_reducible exact ih7 _ _)
   | (with_reducible exact ih8 _ _ _ _ _)
   | (with_reducible exact impl_IsMarkov.mono _ _)
   | (with_reducible exact impl_MarkovDown.mono _ _)
   | (with_reducible exact impl_MarkovMove.mono _ _ _)
   | (with_reducible exact impl_MarkovUp.mono _ _)
   | (with_reducible exact laws_dLists.mono _ _ _)
   | (with_reducible exact laws_dSame.mono _ _ _)
   | (with_reducible exact spec_DrawMarkovMove.mono _ _)
   | (with_reducible exact spec_DrawMarkovUp.mono _ _)
   | (with_reducible exact spec_DrawSolvesMarkov.mono _ _)
   | (with_reducible exact spec_MarkovUp.mono _ _)
   | (with_reducible exact spec_SolvesMarkov.mono _ _)
   | (with_reducible exact LeO.refl _)
   | (with_reducible exact LeO.none _)
   | (with_reducible refine LeO.ite ?_ ?_)
   | (with_reducible refine LeO.bind ?_ (fun _ => ?_))
   | exact ih0 _ _ _ _ _
   | exact ih1 _
   | exact ih2 _ _ _ _ _ _ _
   | exact ih3 _
   | exact ih4 _ _ _
   | exact ih5 _ _ _ _ _ _ _
   | exact ih6 _ _ _ _ _ _ _ _
   | exact ih7 _ _
   | exact ih8 _ _ _ _ _
   | exact impl_IsMarkov.mono _ _
   | exact impl_MarkovDown.mono _ _
   | exact impl_MarkovMove.mono _ _ _
   | exact impl_MarkovUp.mono _ _
   | exact laws_dLists.mono _ _ _
   | exact laws_dSame.mono _ _ _
   | exact spec_DrawMarkovMove.mono _ _
   | exact spec_DrawMarkovUp.mono _ _
   | exact spec_DrawSolvesMarkov.mono _ _
   | exact spec_MarkovUp.mono _ _
   | exact spec_SolvesMarkov.mono _ _
   | exact LeO.none _
   | refine LeO.ite ?_ ?_
   | refine LeO.bind ?_ (fun _ => ?_)
  ·intro y0 y1 y2 y3 y4 y5 y6
   unfold laws_FnMarkovMoves.j3
   repeat' first
   | (with_reducible exact ih0 _ _ _ _ _)
   | (with_reducible exact ih1 _)
   | (with_reducible exact ih2 _ _ _ _ _ _ _)
   | (with_reducible exact ih3 _)
   | (with_reducible exact ih4 _ _ _)
   | (with_reducible exact ih5 _ _ _ _ _ _ _)
   | (with_reducible exact ih6 _ _ _ _ _ _ _ _)
   | (with_reducible exact ih7 _ _)
   | (with_reducible exact ih8 _ _ _ _ _)
   | (with_reducible exact impl_IsMarkov.mono _ _)
   | (with_reducible exact impl_MarkovDown.mono _ _)
   | (with_reducible exact impl_MarkovMove.mono _ _ _)
   | (with_reducible exact impl_MarkovUp.mono _ _)
   | (with_reducible exact laws_dLists.mono _ _ _)
   | (with_reducible exact laws_dSame.mono _ _ _)
   | (with_reducible exact spec_DrawMarkovMove.mono _ _)
   | (with_reducible exact spec_DrawMarkovUp.mono _ _)
   | (with_reducible exact spec_DrawSolvesMarkov.mono _ _)
   | (with_reducible exact spec_MarkovUp.mono _ _)
   | (with_reducible exact spec_SolvesMarkov.mono _ _)
   | (with_reducible exact LeO.refl _)
   | (with_reducible exact LeO.none _)
   | (with_reducible refine LeO.ite ?_ ?_)
   | (with_reducible refine LeO.bind ?_ (fun _ => ?_))
   | exact ih0 _ _ _ _ _
   | exact ih1 _
   | exact ih2 _ _ _ _ _ _ _
   | exact ih3 _
   | exact ih4 _ _ _
   | exact ih5 _ _ _ _ _ _ _
   | exact ih6 _ _ _ _ _ _ _ _
   | exact ih7 _ _
   | exact ih8 _ _ _ _ _
   | exact impl_IsMarkov.mono _ _
   | exact impl_MarkovDown.mono _ _
   | exact impl_MarkovMove.mono _ _ _
   | exact impl_MarkovUp.mono _ _
   | exact laws_dLists.mono _ _ _
   | exact laws_dSame.mono _ _ _
   | exact spec_DrawMarkovMove.mono _ _
   | exact spec_DrawMarkovUp.mono _ _
   | exact spec_DrawSolvesMarkov.mono _ _
   | exact spec_MarkovUp.mono _ _
   | exact spec_SolvesMarkov.mono _ _
   | exact LeO.none _
   | refine LeO.ite ?_ ?_
   | refine LeO.bind ?_ (fun _ => ?_)
  ·intro y0
   unfold laws_FnMarkovMoves.j7
   repeat' first
   | (with_reducible exact ih0 _ _ _ _ _)
   | (with_reducible exact ih1 _)
   | (with_reducible exact ih2 _ _ _ _ _ _ _)
   | (with_reducible exact ih3 _)
   | (with_reducible exact ih4 _ _ _)
   | (with_reducible exact ih5 _ _ _ _ _ _ _)
   | (with_reducible exact ih6 _ _ _ _ _ _ _ _)
   | (with_reducible exact ih7 _ _)
   | (with_reducible exact ih8 _ _ _ _ _)
   | (with_reducible exact impl_IsMarkov.mono _ _)
   | (with_reducible exact impl_MarkovDown.mono _ _)
   | (with_reducible exact impl_MarkovMove.mono _ _ _)
   | (with_reducible exact impl_MarkovUp.mono _ _)
   | (with_reducible exact laws_dLists.mono _ _ _)
   | (with_reducible exact laws_dSame.mono _ _ _)
   | (with_reducible exact spec_DrawMarkovMove.mono _ _)
   | (with_reducible exact spec_DrawMarkovUp.mono _ _)
   | (with_reducible exact spec_DrawSolvesMarkov.mono _ _)
   | (with_reducible exact spec_MarkovUp.mono _ _)
   | (with_reducible exact spec_SolvesMarkov.mono _ _)
   | (with_reducible exact LeO.refl _)
   | (with_reducible exact LeO.none _)
   | (with_reducible refine LeO.ite ?_ ?_)
   | (with_reducible refine LeO.bind ?_ (fun _ => ?_))
   | exact ih0 _ _ _ _ _
   | exact ih1 _
   | exact ih2 _ _ _ _ _ _ _
   | exact ih3 _
   | exact ih4 _ _ _
   | exact ih5 _ _ _ _ _ _ _
   | exact ih6 _ _ _ _ _ _ _ _
   | exact ih7 _ _
   | exact ih8 _ _ _ _ _
   | exact impl_IsMarkov.mono _ _
   | exact impl_MarkovDown.mono _ _
   | exact impl_MarkovMove.mono _ _ _
   | exact impl_MarkovUp.mono _ _
   | exact laws_dLists.mono _ _ _
   | exact laws_dSame.mono _ _ _
   | exact spec_DrawMarkovMove.mono _ _
   | exact spec_DrawMarkovUp.mono _ _
   | exact spec_DrawSolvesMarkov.mono _ _
   | exact spec_MarkovUp.mono _ _
   | exact spec_SolvesMarkov.mono _ _
   | exact LeO.none _
   | refine LeO.ite ?_ ?_
   | refine LeO.bind ?_ (fun _ => ?_)
  ·intro y0 y1 y2
   unfold laws_FnMarkovMoves.j8
   repeat' first
   | (with_reducible exact ih0 _ _ _ _ _)
   | (with_reducible exact ih1 _)
   | (with_reducible exact ih2 _ _ _ _ _ _ _)
   | (with_reducible exact ih3 _)
   | (with_reducible exact ih4 _ _ _)
   | (with_reducible exact ih5 _ _ _ _ _ _ _)
   | (with_reducible exact ih6 _ _ _ _ _ _ _ _)
   | (with_reducible exact ih7 _ _)
   | (with_reducible exact ih8 _ _ _ _ _)
   | (with_reducible exact impl_IsMarkov.mono _ _)
   | (with_reducible exact impl_MarkovDown.mono _ _)
   | (with_reducible exact impl_MarkovMove.mono _ _ _)
   | (with_reducible exact impl_MarkovUp.mono _ _)
   | (with_reducible exact laws_dLists.mono _ _ _)
   | (with_reducible exact laws_dSame.mono _ _ _)
   | (with_reducible exact spec_DrawMarkovMove.mono _ _)
   | (with_reducible exact spec_DrawMarkovUp.mono _ _)
   | (with_reducible exact spec_DrawSolvesMarkov.mono _ _)
   | (with_reducible exact spec_MarkovUp.mono _ _)
   | (with_reducible exact spec_SolvesMarkov.mono _ _)
   | (with_reducible exact LeO.refl _)
   | (with_reducible exact LeO.none _)
   | (with_reducible refine LeO.ite ?_ ?_)
   | (with_reducible refine LeO.bind ?_ (fun _ => ?_))
   | exact ih0 _ _ _ _ _
   | exact ih1 _
   | exact ih2 _ _ _ _ _ _ _
   | exact ih3 _
   | exact ih4 _ _ _
   | exact ih5 _ _ _ _ _ _ _
   | exact ih6 _ _ _ _ _ _ _ _
   | exact ih7 _ _
   | exact ih8 _ _ _ _ _
   | exact impl_IsMarkov.mono _ _
   | exact impl_MarkovDown.mono _ _
   | exact impl_MarkovMove.mono _ _ _
   | exact impl_MarkovUp.mono _ _
   | exact laws_dLists.mono _ _ _
   | exact laws_dSame.mono _ _ _
   | exact spec_DrawMarkovMove.mono _ _
   | exact spec_DrawMarkovUp.mono _ _
   | exact spec_DrawSolvesMarkov.mono _ _
   | exact spec_MarkovUp.mono _ _
   | exact spec_SolvesMarkov.mono _ _
   | exact LeO.none _
   | refine LeO.ite ?_ ?_
   | refine LeO.bind ?_ (fun _ => ?_)
  ·intro y0 y1 y2 y3 y4 y5 y6
   unfold laws_FnMarkovMoves.l1
   repeat' first
   | (with_reducible exact ih0 _ _ _ _ _)
   | (with_reducible exact ih1 _)
   | (with_reducible exact ih2 _ _ _ _ _ _ _)
   | (with_reducible exact ih3 _)
   | (with_reducible exact ih4 _ _ _)
   | (with_reducible exact ih5 _ _ _ _ _ _ _)
   | (with_reducible exact ih6 _ _ _ _ _ _ _ _)
   | (with_reducible exact ih7 _ _)
   | (with_reducible exact ih8 _ _ _ _ _)
   | (with_reducible exact impl_IsMarkov.mono _ _)
   | (with_reducible exact impl_MarkovDown.mono _ _)
   | (with_reducible exact impl_MarkovMove.mono _ _ _)
   | (with_reducible exact impl_MarkovUp.mono _ _)
   | (with_reducible exact laws_dLists.mono _ _ _)
   | (with_reducible exact laws_dSame.mono _ _ _)
   | (with_reducible exact spec_DrawMarkovMove.mono _ _)
   | (with_reducible exact spec_DrawMarkovUp.mono _ _)
   | (with_reducible exact spec_DrawSolvesMarkov.mono _ _)
   | (with_reducible exact spec_MarkovUp.mono _ _)
   | (with_reducible exact spec_SolvesMarkov.mono _ _)
   | (with_reducible exact LeO.refl _)
   | (with_reducible exact LeO.none _)
   | (with_reducible refine LeO.ite ?_ ?_)
   | (with_reducible refine LeO.bind ?_ (fun _ => ?_))
   | exact ih0 _ _ _ _ _
   | exact ih1 _
   | exact ih2 _ _ _ _ _ _ _
   | exact ih3 _
   | exact ih4 _ _ _
   | exact ih5 _ _ _ _ _ _ _
   | exact ih6 _ _ _ _ _ _ _ _
   | exact ih7 _ _
   | exact ih8 _ _ _ _ _
   | exact impl_IsMarkov.mono _ _
   | exact impl_MarkovDown.mono _ _
   | exact impl_MarkovMove.mono _ _ _
   | exact impl_MarkovUp.mono _ _
   | exact laws_dLists.mono _ _ _
   | exact laws_dSame.mono _ _ _
   | exact spec_DrawMarkovMove.mono _ _
   | exact spec_DrawMarkovUp.mono _ _
   | exact spec_DrawSolvesMarkov.mono _ _
   | exact spec_MarkovUp.mono _ _
   | exact spec_SolvesMarkov.mono _ _
   | exact LeO.none _
   | refine LeO.ite ?_ ?_
   | refine LeO.bind ?_ (fun _ => ?_)
  ·intro y0 y1 y2 y3 y4 y5 y6 y7
   unfold laws_FnMarkovMoves.j5
   repeat' first
   | (with_reducible exact ih0 _ _ _ _ _)
   | (with_reducible exact ih1 _)
   | (with_reducible exact ih2 _ _ _ _ _ _ _)
   | (with_reducible exact ih3 _)
   | (with_reducible exact ih4 _ _ _)
   | (with_reducible exact ih5 _ _ _ _ _ _ _)
   | (with_reducible exact ih6 _ _ _ _ _ _ _ _)
   | (with_reducible exact ih7 _ _)
   | (with_reducible exact ih8 _ _ _ _ _)
   | (with_reducible exact impl_IsMarkov.mono _ _)
   | (with_reducible exact impl_MarkovDown.mono _ _)
   | (with_reducible exact impl_MarkovMove.mono _ _ _)
   | (with_reducible exact impl_MarkovUp.mono _ _)
   | (with_reducible exact laws_dLists.mono _ _ _)
   | (with_reducible exact laws_dSame.mono _ _ _)
   | (with_reducible exact spec_DrawMarkovMove.mono _ _)
   | (with_reducible exact spec_DrawMarkovUp.mono _ _)
   | (with_reducible exact spec_DrawSolvesMarkov.mono _ _)
   | (with_reducible exact spec_MarkovUp.mono _ _)
   | (with_reducible exact spec_SolvesMarkov.mono _ _)
   | (with_reducible exact LeO.refl _)
   | (with_reducible exact LeO.none _)
   | (with_reducible refine LeO.ite ?_ ?_)
   | (with_reducible refine LeO.bind ?_ (fun _ => ?_))
   | exact ih0 _ _ _ _ _
   | exact ih1 _
   | exact ih2 _ _ _ _ _ _ _
   | exact ih3 _
   | exact ih4 _ _ _
   | exact ih5 _ _ _ _ _ _ _
   | exact ih6 _ _ _ _ _ _ _ _
   | exact ih7 _ _
   | exact ih8 _ _ _ _ _
   | exact impl_IsMarkov.mono _ _
   | exact impl_MarkovDown.mono _ _
   | exact impl_MarkovMove.mono _ _ _
   | exact impl_MarkovUp.mono _ _
   | exact laws_dLists.mono _ _ _
   | exact laws_dSame.mono _ _ _
   | exact spec_DrawMarkovMove.mono _ _
   | exact spec_DrawMarkovUp.mono _ _
   | exact spec_DrawSolvesMarkov.mono _ _
   | exact spec_MarkovUp.mono _ _
   | exact spec_SolvesMarkov.mono _ _
   | exact LeO.none _
   | refine LeO.ite ?_ ?_
   | refine LeO.bind ?_ (fun _ => ?_)
  ·intro y0 y1
   unfold laws_FnMarkovMoves.j6
   repeat' first
   | (with_reducible exact ih0 _ _ _ _ _)
   | (with_reducible exact ih1 _)
   | (with_reducible exact ih2 _ _ _ _ _ _ _)
   | (with_reducible exact ih3 _)
   | (with_reducible exact ih4 _ _ _)
   | (with_reducible exact ih5 _ _ _ _ _ _ _)
   | (with_reducible exact ih6 _ _ _ _ _ _ _ _)
   | (with_reducible exact ih7 _ _)
   | (with_reducible exact ih8 _ _ _ _ _)
   | (with_reducible exact impl_IsMarkov.mono _ _)
   | (with_reducible exact impl_MarkovDown.mono _ _)
   | (with_reducible exact impl_MarkovMove.mono _ _ _)
   | (with_reducible exact impl_MarkovUp.mono _ _)
   | (with_reducible exact laws_dLists.mono _ _ _)
   | (with_reducible exact laws_dSame.mono _ _ _)
   | (with_reducible exact spec_DrawMarkovMove.mono _ _)
   | (with_reducible exact spec_DrawMarkovUp.mono _ _)
   | (with_reducible exact spec_DrawSolvesMarkov.mono _ _)
   | (with_reducible exact spec_MarkovUp.mono _ _)
   | (with_reducible exact spec_SolvesMarkov.mono _ _)
   | (with_reducible exact LeO.refl _)
   | (with_reducible exact LeO.none _)
   | (with_reducible refine LeO.ite ?_ ?_)
   | (with_reducible refine LeO.bind ?_ (fun _ => ?_))
   | exact ih0 _ _ _ _ _
   | exact ih1 _
   | exact ih2 _ _ _ _ _ _ _
   | exact ih3 _
   | exact ih4 _ _ _
   | exact ih5 _ _ _ _ _ _ _
   | exact ih6 _ _ _ _ _ _ _ _
   | exact ih7 _ _
   | exact ih8 _ _ _ _ _
   | exact impl_IsMarkov.mono _ _
   | exact impl_MarkovDown.mono _ _
   | exact impl_MarkovMove.mono _ _ _
   | exact impl_MarkovUp.mono _ _
   | exact laws_dLists.mono _ _ _
   | exact laws_dSame.mono _ _ _
   | exact spec_DrawMarkovMove.mono _ _
   | exact spec_DrawMarkovUp.mono _ _
   | exact spec_DrawSolvesMarkov.mono _ _
   | exact spec_MarkovUp.mono _ _
   | exact spec_SolvesMarkov.mono _ _
   | exact LeO.none _
   | refine LeO.ite ?_ ?_
   | refine LeO.bind ?_ (fun _ => ?_)
  ·intro y0 y1 y2 y3 y4
   unfold laws_FnMarkovMoves.l0
   repeat' first
   | (with_reducible exact ih0 _ _ _ _ _)
   | (with_reducible exact ih1 _)
   | (with_reducible exact ih2 _ _ _ _ _ _ _)
   | (with_reducible exact ih3 _)
   | (with_reducible exact ih4 _ _ _)
   | (with_reducible exact ih5 _ _ _ _ _ _ _)
   | (with_reducible exact ih6 _ _ _ _ _ _ _ _)
   | (with_reducible exact ih7 _ _)
   | (with_reducible exact ih8 _ _ _ _ _)
   | (with_reducible exact impl_IsMarkov.mono _ _)
   | (with_reducible exact impl_MarkovDown.mono _ _)
   | (with_reducible exact impl_MarkovMove.mono _ _ _)
   | (with_reducible exact impl_MarkovUp.mono _ _)
   | (with_reducible exact laws_dLists.mono _ _ _)
   | (with_reducible exact laws_dSame.mono _ _ _)
   | (with_reducible exact spec_DrawMarkovMove.mono _ _)
   | (with_reducible exact spec_DrawMarkovUp.mono _ _)
   | (with_reducible exact spec_DrawSolvesMarkov.mono _ _)
   | (with_reducible exact spec_MarkovUp.mono _ _)
   | (with_reducible exact spec_SolvesMarkov.mono _ _)
   | (with_reducible exact LeO.refl _)
   | (with_reducible exact LeO.none _)
   | (with_reducible refine LeO.ite ?_ ?_)
   | (with_reducible refine LeO.bind ?_ (fun _ => ?_))
   | exact ih0 _ _ _ _ _
   | exact ih1 _
   | exact ih2 _ _ _ _ _ _ _
   | exact ih3 _
   | exact ih4 _ _ _
   | exact ih5 _ _ _ _ _ _ _
   | exact ih6 _ _ _ _ _ _ _ _
   | exact ih7 _ _
   | exact ih8 _ _ _ _ _
   | exact impl_IsMarkov.mono _ _
   | exact impl_MarkovDown.mono _ _
   | exact impl_MarkovMove.mono _ _ _
   | exact impl_MarkovUp.mono _ _
   | exact laws_dLists.mono _ _ _
   | exact laws_dSame.mono _ _ _
   | exact spec_DrawMarkovMove.mono _ _
   | exact spec_DrawMarkovUp.mono _ _
   | exact spec_DrawSolvesMarkov.mono _ _
   | exact spec_MarkovUp.mono _ _
   | exact spec_SolvesMarkov.mono _ _
   | exact LeO.none _
   | refine LeO.ite ?_ ?_
   | refine LeO.bind ?_ (fun _ => ?_)
theorem laws_FnMarkovMoves.mono : ∀ a0 a1 k, LeO (laws_FnMarkovMoves.f k a0 a1) (laws_FnMarkovMoves.f (k + 1) a0 a1) := by
 intro a0 a1 k
 obtain ⟨ih0, ih1, ih2, ih3, ih4, ih5, ih6, ih7, ih8⟩ := laws_FnMarkovMoves.mono_l k
 unfold laws_FnMarkovMoves.f
 repeat' first
   | (with_reducible exact ih0 _ _ _ _ _)
   | (with_reducible exact ih1 _)
   | (with_reducible exact ih2 _ _ _ _ _ _ _)
   | (with_reducible exact ih3 _)
   | (with_reducible exact ih4 _ _ _)
   | (with_reducible exact ih5 _ _ _ _ _ _ _)
   | (with_reducible exact ih6 _ _ _ _ _ _ _ _)
   | (with_reducible exact ih7 _ _)
   | (with_reducible exact ih8 _ _ _ _ _)
   | (with_reducible exact impl_IsMarkov.mono _ _)
   | (with_reducible exact impl_MarkovDown.mono _ _)
   | (with_reducible exact impl_MarkovMove.mono _ _ _)
   | (with_reducible exact impl_MarkovUp.mono _ _)
   | (with_reducible exact laws_dLists.mono _ _ _)
   | (with_reducible exact laws_dSame.mono _ _ _)
   | (with_reducible exact spec_DrawMarkovMove.mono _ _)
   | (with_reducible exact spec_DrawMarkovUp.mono _ _)
   | (with_reducible exact spec_DrawSolvesMarkov.mono _ _)
   | (with_reducible exact spec_MarkovUp.mono _ _)
   | (with_reducible exact spec_SolvesMarkov.mono _ _)
   | (with_reducible exact LeO.refl _)
   | (with_reducible exact LeO.none _)
   | (with_reducible refine LeO.ite ?_ ?_)
   | (with_reducible refine LeO.bind ?_ (fun _ => ?_))
   | exact ih0 _ _ _ _ _
   | exact ih1 _
   | exact ih2 _ _ _ _ _ _ _
   | exact ih3 _
   | exact ih4 _ _ _
   | exact ih5 _ _ _ _ _ _ _
   | exact ih6 _ _ _ _ _ _ _ _
   | exact ih7 _ _
   | exact ih8 _ _ _ _ _
   | exact impl_IsMarkov.mono _ _
   | exact impl_MarkovDown.mono _ _
   | exact impl_MarkovMove.mono _ _ _
   | exact impl_MarkovUp.mono _ _
   | exact laws_dLists.mono _ _ _
   | exact laws_dSame.mono _ _ _
   | exact spec_DrawMarkovMove.mono _ _
   | exact spec_DrawMarkovUp.mono _ _
   | exact spec_DrawSolvesMarkov.mono _ _
   | exact spec_MarkovUp.mono _ _
   | exact spec_SolvesMarkov.mono _ _
   | exact LeO.none _
   | refine LeO.ite ?_ ?_
   | refine LeO.bind ?_ (fun _ => ?_)
def laws_FnMarkovMoves.T33 : Bool × List (List Nat × List Nat) := (true, [([], []), ([0], [0]), ([1], [1]), ([2], [2]), ([2], [2]), ([3, 4, 2, 2], [2, 3, 4]), ([5, 2], [2, 5]), ([2, 6], [2, 6]), ([7, 5], [7]), ([8], [8]), ([9, 8], [8, 9]), ([10, 8], [8, 10]), ([8], [8]), ([12, 8], [8, 12]), ([13, 8], [8, 13]), ([11, 14, 8], [8, 11, 14]), ([8, 15], [8, 15])])
def laws_FnMarkovMoves.B33 : List Nat := [0, 1, 3, 7, 7, 31, 63, 127, 255, 511, 1023, 2047, 511, 4607, 12799, 32767, 65535]
theorem laws_FnMarkovMoves.tab33 : rtab .any (opsOf Try.f14 33) = laws_FnMarkovMoves.T33 := by kernel_rfl
theorem laws_FnMarkovMoves.bits33 : waitsOk laws_FnMarkovMoves.T33.2 laws_FnMarkovMoves.B33 = true := by kernel_rfl
def laws_FnMarkovMoves.T36 : Bool × List (List Nat × List Nat) := (true, [([], []), ([0], [0]), ([1], [1]), ([2, 1], [1, 2]), ([3, 1], [1, 3]), ([1], [1]), ([5, 1], [1, 5]), ([6, 1], [1, 6]), ([4, 7, 1], [1, 4, 7]), ([8, 1, 1], [1, 8]), ([9], [9]), ([10, 9, 9], [9, 10]), ([11, 9], [9, 11]), ([9, 12, 1], [1, 9, 12]), ([1, 13], [1, 13])])
def laws_FnMarkovMoves.B36 : List Nat := [0, 1, 3, 7, 15, 3, 35, 99, 255, 511, 1023, 2047, 4095, 8191, 16383]
theorem laws_FnMarkovMoves.tab36 : rtab .any (opsOf Try.f14 36) = laws_FnMarkovMoves.T36 := by kernel_rfl
theorem laws_FnMarkovMoves.bits36 : waitsOk laws_FnMarkovMoves.T36.2 laws_FnMarkovMoves.B36 = true := by kernel_rfl
def laws_FnMarkovMoves.T44 : Bool × List (List Nat × List Nat) := (true, [([], []), ([0], [0]), ([1], [1]), ([], []), ([3], [3]), ([4], [4]), ([], []), ([6], [6]), ([7], [7]), ([2, 5, 8], [2, 5, 8]), ([9], [9]), ([10], [10]), ([11], [11]), ([11], [11]), ([12, 10, 0, 1, 2, 3, 4, 5, 6, 7, 8, 9, 10, 11, 12], [12]), ([13, 14, 0, 1, 2, 3, 4, 5, 6, 7, 8, 9, 10, 11, 12, 13, 14], [13])])
def laws_FnMarkovMoves.B44 : List Nat := [0, 1, 3, 0, 8, 24, 0, 64, 192, 511, 1023, 2047, 4095, 4095, 8191, 32767]
theorem laws_FnMarkovMoves.tab44 : rtab .any (opsOf Try.f14 44) = laws_FnMarkovMoves.T44 := by kernel_rfl
theorem laws_FnMarkovMoves.bits44 : waitsOk laws_FnMarkovMoves.T44.2 laws_FnMarkovMoves.B44 = true := by kernel_rfl
abbrev b0MM : Array Bool := #[false,false,false,false,false,false,false,false,false,false,false,false,false,false,false,false,false]
abbrev b1MM : Array Bool := #[true,false,false,false,false,false,false,false,false,false,false,false,false,false,false,false,false]
abbrev b2MM : Array Bool := #[true,true,false,false,false,false,false,false,false,false,false,false,false,false,false,false,false]
abbrev b3MM : Array Bool := #[true,true,true,false,false,false,false,false,false,false,false,false,false,false,false,false,false]
abbrev b4MM : Array Bool := #[true,true,true,true,false,false,false,false,false,false,false,false,false,false,false,false,false]
abbrev b5MM : Array Bool := #[true,true,true,true,true,false,false,false,false,false,false,false,false,false,false,false,false]
abbrev b6MM : Array Bool := #[true,true,true,true,true,true,false,false,false,false,false,false,false,false,false,false,false]
abbrev b7MM : Array Bool := #[true,true,true,true,true,true,true,false,false,false,false,false,false,false,false,false,false]
abbrev b8MM : Array Bool := #[true,true,true,true,true,true,true,true,false,false,false,false,false,false,false,false,false]
abbrev b9MM : Array Bool := #[true,true,true,true,true,true,true,true,true,false,false,false,false,false,false,false,false]
abbrev b10MM : Array Bool := #[true,true,true,true,true,true,true,true,true,true,false,false,false,false,false,false,false]
abbrev b11MM : Array Bool := #[true,true,true,true,true,true,true,true,true,true,true,false,false,false,false,false,false]
abbrev b12MM : Array Bool := #[true,true,true,true,true,true,true,true,true,true,true,false,true,false,false,false,false]
abbrev b13MM : Array Bool := #[true,true,true,true,true,true,true,true,true,true,true,false,true,true,false,false,false]
abbrev b14MM : Array Bool := #[true,true,true,true,true,true,true,true,true,true,true,true,true,true,false,false,false]
abbrev b15MM : Array Bool := #[true,true,true,true,true,true,true,true,true,true,true,true,true,true,true,false,false]
abbrev b16MM : Array Bool := #[true,true,true,true,true,true,true,true,true,true,true,true,true,true,true,true,false]
abbrev b17MM : Array Bool := #[true,true,true,true,true,true,true,true,true,true,true,true,true,true,true,true,true]
abbrev b18MM : Array Bool := #[true,true,true,true,true,true,true,true,true,true,true,true,false,false,false,false,false]
abbrev b19MM : Array Bool := #[true,true,true,true,true,true,true,true,true,true,true,true,true,false,false,false,false]
abbrev b20MM : Array Bool := #[false,false,false,false,false,false,false,false,false,false,false,false,false,false,false]
abbrev b21MM : Array Bool := #[true,false,false,false,false,false,false,false,false,false,false,false,false,false,false]
abbrev b22MM : Array Bool := #[true,true,false,false,false,false,false,false,false,false,false,false,false,false,false]
abbrev b23MM : Array Bool := #[true,true,true,false,false,false,false,false,false,false,false,false,false,false,false]
abbrev b24MM : Array Bool := #[true,true,true,true,false,false,false,false,false,false,false,false,false,false,false]
abbrev b25MM : Array Bool := #[true,true,true,true,false,true,false,false,false,false,false,false,false,false,false]
abbrev b26MM : Array Bool := #[true,true,true,true,false,true,true,false,false,false,false,false,false,false,false]
abbrev b27MM : Array Bool := #[true,true,true,true,true,true,true,false,false,false,false,false,false,false,false]
abbrev b28MM : Array Bool := #[true,true,true,true,true,true,true,true,false,false,false,false,false,false,false]
abbrev b29MM : Array Bool := #[true,true,true,true,true,true,true,true,true,false,false,false,false,false,false]
abbrev b30MM : Array Bool := #[true,true,true,true,true,true,true,true,true,true,false,false,false,false,false]
abbrev b31MM : Array Bool := #[true,true,true,true,true,true,true,true,true,true,true,false,false,false,false]
abbrev b32MM : Array Bool := #[true,true,true,true,true,true,true,true,true,true,true,true,false,false,false]
abbrev b33MM : Array Bool := #[true,true,true,true,true,true,true,true,true,true,true,true,true,false,false]
abbrev b34MM : Array Bool := #[true,true,true,true,true,true,true,true,true,true,true,true,true,true,false]
abbrev b35MM : Array Bool := #[true,true,true,true,true,true,true,true,true,true,true,true,true,true,true]
abbrev b36MM : Array Bool := #[true,true,true,true,true,false,false,false,false,false,false,false,false,false,false]
abbrev b37MM : Array Bool := #[true,true,true,true,true,true,false,false,false,false,false,false,false,false,false]
abbrev b38MM : Array Bool := #[false,false,false,false,false,false,false,false,false,false,false,false,false,false,false,false]
abbrev b39MM : Array Bool := #[true,false,false,false,false,false,false,false,false,false,false,false,false,false,false,false]
abbrev b40MM : Array Bool := #[true,true,false,false,false,false,false,false,false,false,false,false,false,false,false,false]
abbrev b41MM : Array Bool := #[true,true,false,true,false,false,false,false,false,false,false,false,false,false,false,false]
abbrev b42MM : Array Bool := #[true,true,false,true,true,false,false,false,false,false,false,false,false,false,false,false]
abbrev b43MM : Array Bool := #[true,true,false,true,true,false,true,false,false,false,false,false,false,false,false,false]
abbrev b44MM : Array Bool := #[true,true,false,true,true,false,true,true,false,false,false,false,false,false,false,false]
abbrev b45MM : Array Bool := #[true,true,true,true,true,false,true,true,false,false,false,false,false,false,false,false]
abbrev b46MM : Array Bool := #[true,true,true,true,true,true,true,true,false,false,false,false,false,false,false,false]
abbrev b47MM : Array Bool := #[true,true,true,true,true,true,true,true,true,false,false,false,false,false,false,false]
abbrev b48MM : Array Bool := #[true,true,true,true,true,true,true,true,true,true,false,false,false,false,false,false]
abbrev b49MM : Array Bool := #[true,true,true,true,true,true,true,true,true,true,true,false,false,false,false,false]
abbrev b50MM : Array Bool := #[true,true,true,true,true,true,true,true,true,true,true,true,false,false,false,false]
abbrev b51MM : Array Bool := #[true,true,true,true,true,true,true,true,true,true,true,true,true,false,false,false]
abbrev b52MM : Array Bool := #[true,true,true,true,true,true,true,true,true,true,true,true,true,true,false,false]
abbrev b53MM : Array Bool := #[true,true,true,true,true,true,true,true,true,true,true,true,true,true,true,false]
abbrev b54MM : Array Bool := #[true,true,true,true,true,true,true,true,true,true,true,true,true,true,true,true]
set_option maxHeartbeats 8000000 in
set_option maxRecDepth 100000 in
theorem laws_FnMarkovMoves.calls (k : Nat) (A0 : Option Addr) (c0 : Nat) (l0 : List Int) (A1 : Option Addr) (c1 : Nat) (l1 : List Int) (r : Bool) (w : World) (hr0 : Kd.C (Kd.int .u8) w A0 l0.length l0) (hc0 : l0.length ≤ c0) (hr1 : Kd.C (Kd.int .u8) w A1 l1.length l1) (hc1 : l1.length ≤ c1) (h : laws_FnMarkovMoves.f k l0 l1 = some r) :
  Calls Try.prog 14 #[.slice A0 l0.length c0, .slice A1 l1.length c1] w fun e w' => e = .returned (.bool r) ∧ Below w.heap.size w w' := by
 have HR0 := Aside0.mk hr0
 have HC0 := Aside0.mk hc0
 clear hr0 hc0
 have HR1 := Aside0.mk hr1
 have HC1 := Aside0.mk hc1
 clear hr1 hc1
 have HB := Aside0.mk (Below.refl w.heap.size w)
 have H : ((laws_big.f l0 l1).bind fun t844 => (if t844 = true then (some true) else ((spec_DrawMarkovMove.f k l0).bind fun bt845 => ((impl_MarkovMove.f k bt845.1 bt845.2).bind fun bt849 => ((spec_MarkovMove.f bt845.1 bt845.2).bind fun bt853 => (if (bt849.2 != bt853.2) = true then (laws_FnMarkovMoves.j0 k l1 bt845.1 bt849.1 bt849.2 true) else ((laws_dSame.f k bt849.1 bt853.1).bind fun t857 => (laws_FnMarkovMoves.j0 k l1 bt845.1 bt849.1 bt849.2 (!t857))))))))) = some r := h
 clear h
 replace H := Option.bind_eq_some_iff.mp H
 obtain ⟨t844, A30, H⟩ := H
 replace H : (if t844 = true then (some true) else ((spec_DrawMarkovMove.f k l0).bind fun bt845 => ((impl_MarkovMove.f k bt845.1 bt845.2).bind fun bt849 => ((spec_MarkovMove.f bt845.1 bt845.2).bind fun bt853 => (if (bt849.2 != bt853.2) = true then (laws_FnMarkovMoves.j0 k l1 bt845.1 bt849.1 bt849.2 true) else ((laws_dSame.f k bt849.1 bt853.1).bind fun t857 => (laws_FnMarkovMoves.j0 k l1 bt845.1 bt849.1 bt849.2 (!t857)))))))) = some r := H
 have A3 := Aside0.mk A30
 clear A30
 by_cases c4 : t844 = true
 ·subst c4
  have H1 : (some true) = some r := by rw [if_pos rfl] at H; exact H
  clear H; have H := H1; clear H1
  obtain rfl := Option.some.inj H
  go_enter Try.func14, Try.ntmps14
  go_wp2_with (first | ((with_reducible refine gate_callee (f := 38) rfl ?_); refine goesL_ (some 37) rfl rfl Try.func38 (by kernel_rfl) rfl #[.slice A0 l0.length c0, .slice A1 l1.length c1] rfl (by (try simp only [List.map_toArray, List.map_cons, List.map_nil]); first | done | rfl) ?_; (with_reducible refine (laws_big.calls _ _ l0 _ _ l1 true _ ?side1 ?side2 ?side3 ?side4 A3.out).mono ?_); (case side1 => repeat (first | exact HR0.out | (with_reducible refine Kd.C_alloc ?_ _) | (with_reducible refine Kd.C_drewN ?_ _) | (with_reducible refine Kd.C_drew ?_))); (case side2 => exact HC0.out); (case side3 => repeat (first | exact HR1.out | (with_reducible refine Kd.C_alloc ?_ _) | (with_reducible refine Kd.C_drewN ?_ _) | (with_reducible refine Kd.C_drew ?_))); (case side4 => exact HC1.out); rintro e w' ⟨rfl, ⟨nd, rfl⟩⟩; refine ⟨_, rfl, ?_⟩))
  go_ret
  exact ⟨by first | rfl | (simp [errW_none, errW_some] <;> rfl) | (simp [*, errW_none, errW_some] <;> rfl), by repeat (first | (with_reducible first | exact HB.out | apply below_alloc | apply pw_below_drewN | apply below_drew1) | exact HB.out)⟩
 ·as_aux_lemma =>
  replace c4 := Bool.eq_false_iff.mpr c4
  subst c4
  have H1 : ((spec_DrawMarkovMove.f k l0).bind fun bt845 => ((impl_MarkovMove.f k bt845.1 bt845.2).bind fun bt849 => ((spec_MarkovMove.f bt845.1 bt845.2).bind fun bt853 => (if (bt849.2 != bt853.2) = true then (laws_FnMarkovMoves.j0 k l1 bt845.1 bt849.1 bt849.2 true) else ((laws_dSame.f k bt849.1 bt853.1).bind fun t857 => (laws_FnMarkovMoves.j0 k l1 bt845.1 bt849.1 bt849.2 (!t857))))))) = some r := by rw [if_neg (show ¬ (false = true) by decide)] at H; exact H
  clear H; have H := H1; clear H1
  replace H := Option.bind_eq_some_iff.mp H
  obtain ⟨⟨t845, t846⟩, A50, H⟩ := H
  replace H : ((impl_MarkovMove.f k t845 t846).bind fun bt849 => ((spec_MarkovMove.f t845 t846).bind fun bt853 => (if (bt849.2 != bt853.2) = true then (laws_FnMarkovMoves.j0 k l1 t845 bt849.1 bt849.2 true) else ((laws_dSame.f k bt849.1 bt853.1).bind fun t857 => (laws_FnMarkovMoves.j0 k l1 t845 bt849.1 bt849.2 (!t857)))))) = some r := H
  have A5 := Aside0.mk A50
  clear A50
  replace H := Option.bind_eq_some_iff.mp H
  obtain ⟨⟨t849, t850⟩, A60, H⟩ := H
  replace H : ((spec_MarkovMove.f t845 t846).bind fun bt853 => (if (t850 != bt853.2) = true then (laws_FnMarkovMoves.j0 k l1 t845 t849 t850 true) else ((laws_dSame.f k t849 bt853.1).bind fun t857 => (laws_FnMarkovMoves.j0 k l1 t845 t849 t850 (!t857))))) = some r := H
  have A6 := Aside0.mk A60
  clear A60
  replace H := Option.bind_eq_some_iff.mp H
  obtain ⟨⟨t853, t854⟩, A70, H⟩ := H
  replace H : (if (t850 != t854) = true then (laws_FnMarkovMoves.j0 k l1 t845 t849 t850 true) else ((laws_dSame.f k t849 t853).bind fun t857 => (laws_FnMarkovMoves.j0 k l1 t845 t849 t850 (!t857)))) = some r := H
  have A7 := Aside0.mk A70
  clear A70
  have HC8 := Aside0.mk H
  clear H
  go_enter Try.func14, Try.ntmps14
  go_upto_region 6 with (first | ((with_reducible refine gate_callee (f := 38) rfl ?_); refine goesL_ (some 37) rfl rfl Try.func38 (by kernel_rfl) rfl #[.slice A0 l0.length c0, .slice A1 l1.length c1] rfl (by (try simp only [List.map_toArray, List.map_cons, List.map_nil]); first | done | rfl) ?_; (with_reducible refine (laws_big.calls _ _ l0 _ _ l1 false _ ?side1 ?side2 ?side3 ?side4 A3.out).mono ?_); (case side1 => repeat (first | exact HR0.out | (with_reducible refine Kd.C_alloc ?_ _) | (with_reducible refine Kd.C_drewN ?_ _) | (with_reducible refine Kd.C_drew ?_))); (case side2 => exact HC0.out); (case side3 => repeat (first | exact HR1.out | (with_reducible refine Kd.C_alloc ?_ _) | (with_reducible refine Kd.C_drewN ?_ _) | (with_reducible refine Kd.C_drew ?_))); (case side4 => exact HC1.out); rintro e w' ⟨rfl, ⟨nd, rfl⟩⟩; refine ⟨_, rfl, ?_⟩) | ((with_reducible refine gate_callee (f := 52) rfl ?_); refine goesL_ (some 40) rfl rfl Try.func52 (by kernel_rfl) rfl #[.slice A0 l0.length c0] rfl (by (try simp only [List.map_toArray, List.map_cons, List.map_nil]); first | done | rfl) ?_; (with_reducible refine (spec_DrawMarkovMove.calls k _ _ l0 t845 t846 _ ?side1 ?side2 A5.out).mono ?_); (case side1 => repeat (first | exact HR0.out | (with_reducible refine Kd.C_alloc ?_ _) | (with_reducible refine Kd.C_drewN ?_ _) | (with_reducible refine Kd.C_drew ?_))); (case side2 => exact HC0.out); rintro e w9 ⟨v847, rfl, ho0, hb⟩; refine ⟨_, rfl, ?_⟩; have n0_ := Aside0.mk (Kd.R_lower ho0 (below_size (by repeat (first | (with_reducible first | exact HB.out | apply below_alloc | apply pw_below_drewN | apply below_drew1) | exact HB.out)))); have n1_ := Aside0.mk (below_step (by repeat (first | (with_reducible first | exact HB.out | apply below_alloc | apply pw_below_drewN | apply below_drew1) | exact HB.out)) hb); clear HB; have HO848 := n0_; have HB := n1_; clear n0_ n1_; (try clear hb); (try clear hb2); (try clear hk); (try clear hi); (try clear ho0); obtain ⟨Ao10, co10, eo10⟩ := Kd.R_slice HO848.out; subst eo10) | ((with_reducible refine gate_callee (f := 28) rfl ?_); refine goesL_ (some 46) rfl rfl Try.func28 (by kernel_rfl) rfl #[.slice Ao10 t845.length co10, .int .i64 t846] rfl (by (try simp only [List.map_toArray, List.map_cons, List.map_nil]); first | done | rfl) ?_; (with_reducible refine (impl_MarkovMove.calls k _ _ t845 t846 t849 t850 _ ?side1 ?side2 A6.out).mono ?_); (case side1 => repeat (first | exact (Kd.R_reads' HO848.out).2.2 | (with_reducible refine Kd.C_alloc ?_ _) | (with_reducible refine Kd.C_drewN ?_ _) | (with_reducible refine Kd.C_drew ?_))); (case side2 => exact (Kd.R_reads' HO848.out).2.1); rintro e w11 ⟨v851, rfl, ho0, hb⟩; refine ⟨_, rfl, ?_⟩; have n0_ := Aside0.mk (Kd.R_elder' (by (with_reducible repeat (first | apply Kd.R_alloc | apply Kd.R_drewN | apply Kd.R_drew)); exact HO848.out) (Kd.R_base ho0) hb); have n1_ := Aside0.mk (Kd.R_lower (Kd.R_new' ho0 (Kd.R_lt (by (with_reducible repeat (first | apply Kd.R_alloc | apply Kd.R_drewN | apply Kd.R_drew)); exact HO848.out))) (below_size (by repeat (first | (with_reducible first | exact HB.out | apply below_alloc | apply pw_below_drewN | apply below_drew1) | exact HB.out)))); have n2_ := Aside0.mk (below_step (by repeat (first | (with_reducible first | exact HB.out | apply below_alloc | apply pw_below_drewN | apply below_drew1) | exact HB.out)) hb); clear HO848; clear HB; have HO848 := n0_; have HO852 := n1_; have HB := n2_; clear n0_ n1_ n2_; (try clear hb); (try clear hb2); (try clear hk); (try clear hi); (try clear ho0)) | ((with_reducible refine gate_callee (f := 27) rfl ?_); refine goesL_ (some 52) rfl rfl Try.func27 (by kernel_rfl) rfl #[.slice Ao10 t845.length co10, .int .i64 t846] rfl (by (try simp only [List.map_toArray, List.map_cons, List.map_nil]); first | done | rfl) ?_; (with_reducible refine (spec_MarkovMove.calls _ _ t845 t846 t853 t854 _ ?side1 ?side2 A7.out).mono ?_); (case side1 => repeat (first | exact (Kd.R_reads' HO848.out).2.2 | (with_reducible refine Kd.C_alloc ?_ _) | (with_reducible refine Kd.C_drewN ?_ _) | (with_reducible refine Kd.C_drew ?_))); (case side2 => exact (Kd.R_reads' HO848.out).2.1); rintro e w12 ⟨v855, rfl, ho0, hb⟩; refine ⟨_, rfl, ?_⟩; have n0_ := Aside0.mk (Kd.R_elder' (by (with_reducible repeat (first | apply Kd.R_alloc | apply Kd.R_drewN | apply Kd.R_drew)); exact HO848.out) (Kd.R_base ho0) hb); have n1_ := Aside0.mk (Kd.R_elder' (by (with_reducible repeat (first | apply Kd.R_alloc | apply Kd.R_drewN | apply Kd.R_drew)); exact HO852.out) (Kd.R_base ho0) hb); have n2_ := Aside0.mk (Kd.R_lower (Kd.R_new' (Kd.R_new' ho0 (Kd.R_lt (by (with_reducible repeat (first | apply Kd.R_alloc | apply Kd.R_drewN | apply Kd.R_drew)); exact HO848.out))) (Kd.R_lt (by (with_reducible repeat (first | apply Kd.R_alloc | apply Kd.R_drewN | apply Kd.R_drew)); exact HO852.out))) (below_size (by repeat (first | (with_reducible first | exact HB.out | apply below_alloc | apply pw_below_drewN | apply below_drew1) | exact HB.out)))); have n3_ := Aside0.mk (below_step (by repeat (first | (with_reducible first | exact HB.out | apply below_alloc | apply pw_below_drewN | apply below_drew1) | exact HB.out)) hb); clear HO848; clear HO852; clear HB; have HO848 := n0_; have HO852 := n1_; have HO856 := n2_; have HB := n3_; clear n0_ n1_ n2_ n3_; (try clear hb); (try clear hb2); (try clear hk); (try clear hi); (try clear ho0)))
  (try simp only [Act.put, List.setIfInBounds_toArray, List.set_cons_zero, List.set_cons_succ])
  go_cut [63] (fun v63 wc => ∃ (kq : Nat) (x63_7 : Bool), v63 = .bool x63_7 ∧ Aside0 (laws_FnMarkovMoves.j0 kq l1 t845 t849 t850 x63_7 = some r) ∧ Aside0 (kq ≤ k) ∧ Aside0 (Kd.R (Kd.int .i64) 3 wc w.heap.size (fun k_ => some k_ ≠ (v851 : Value).ownBlock) (.slice Ao10 t845.length co10) t845) ∧ Aside0 (Kd.R (Kd.int .i64) 3 wc w.heap.size (fun k_ => some k_ ≠ ((.slice Ao10 t845.length co10) : Value).ownBlock) v851 t849) ∧ Aside0 (Below w.heap.size w wc))
  case first => as_aux_lemma =>
   have H := HC8.out; clear HC8
   by_cases c13 : (t850 != t854) = true
   ·rw [if_pos c13] at H
    have c13b0 : (t850 != t854) = true := c13
    (try (have c13b1 : decide (t850 = t854) = false := by simpa using c13))
    (try (have c13b2 : (t850 == t854) = false := by simpa using c13))
    (try (have c13b3 : ¬ (t850 = t854) := by simpa using c13))
    clear c13
    (first | rw [c13b0] | (simp only [i64_w, i32_w]; rw [c13b0]) | skip)
    have H' := Aside0.mk H
    clear H
    go_wp2
    go_meet
    case rel => exact ⟨_, (true), (by first | rfl | (simp; done) | (simp [*]; done)), H', ⟨by first | omega | exact Nat.le_refl _⟩, ⟨by (with_reducible repeat (first | apply Kd.R_alloc | apply Kd.R_drewN | apply Kd.R_drew)); exact Kd.R_mono HO848.out (fun _ hk => hk.1.2)⟩, ⟨by (with_reducible repeat (first | apply Kd.R_alloc | apply Kd.R_drewN | apply Kd.R_drew)); exact Kd.R_mono HO852.out (fun _ hk => hk.1.2)⟩, ⟨by repeat (first | (with_reducible first | exact HB.out | apply below_alloc | apply pw_below_drewN | apply below_drew1) | exact HB.out)⟩⟩
   ·as_aux_lemma =>
    rw [if_neg c13] at H
    have c13b0 : (t850 != t854) = false := by simpa using c13
    (try (have c13b1 : decide (t850 = t854) = true := by simpa using c13))
    (try (have c13b2 : (t850 == t854) = true := by simpa using c13))
    clear c13
    (first | rw [c13b0] | (simp only [i64_w, i32_w]; rw [c13b0]) | skip)
    replace H := Option.bind_eq_some_iff.mp H
    obtain ⟨t857, A140, H⟩ := H
    replace H : (laws_FnMarkovMoves.j0 k l1 t845 t849 t850 (!t857)) = some r := H
    have A14 := Aside0.mk A140
    clear A140
    have H' := Aside0.mk H
    clear H
    obtain ⟨Ao15, co15, eo15⟩ := Kd.R_slice HO852.out
    subst eo15
    obtain ⟨Ao16, co16, eo16⟩ := Kd.R_slice HO856.out
    subst eo16
    go_wp2_with (first | (go_at_call 40; (with_reducible refine (laws_dSame.calls k _ _ t849 _ _ t853 t857 _ ?side1 ?side2 ?side3 ?side4 A14.out).mono ?_); (case side1 => repeat (first | exact (Kd.R_reads' HO852.out).2.2 | (with_reducible refine Kd.C_alloc ?_ _) | (with_reducible refine Kd.C_drewN ?_ _) | (with_reducible refine Kd.C_drew ?_))); (case side2 => exact (Kd.R_reads' HO852.out).2.1); (case side3 => repeat (first | exact (Kd.R_reads' HO856.out).2.2 | (with_reducible refine Kd.C_alloc ?_ _) | (with_reducible refine Kd.C_drewN ?_ _) | (with_reducible refine Kd.C_drew ?_))); (case side4 => exact (Kd.R_reads' HO856.out).2.1); rintro e w' ⟨rfl, ⟨nd, rfl⟩⟩))
    go_meet
    case rel => exact ⟨_, (!t857), (by first | rfl | (simp; done) | (simp [*]; done)), H', ⟨by first | omega | exact Nat.le_refl _⟩, ⟨by (with_reducible repeat (first | apply Kd.R_alloc | apply Kd.R_drewN | apply Kd.R_drew)); exact Kd.R_mono HO848.out (fun _ hk => hk.1.2)⟩, ⟨by (with_reducible repeat (first | apply Kd.R_alloc | apply Kd.R_drewN | apply Kd.R_drew)); exact Kd.R_mono HO852.out (fun _ hk => hk.1.2)⟩, ⟨by repeat (first | (with_reducible first | exact HB.out | apply below_alloc | apply pw_below_drewN | apply below_drew1) | exact HB.out)⟩⟩
  case rest => as_aux_lemma =>
   clear HC8
   try clear c1
   try clear c2
   try clear p2
   try clear c3
   try clear c4
   try clear c5
   try clear c13
   try clear c13b0
   try clear c13b1
   try clear c13b2
   try clear c14
   obtain ⟨kq, x63_7, rfl, HA, HJ7, HO_5, HO_7, HB⟩ := hcut
   cases kq with
   | zero => exact absurd HA.out (by simp [laws_FnMarkovMoves.j0])
   | succ kj7 =>
    have H := HA.out; clear HA
    simp only [laws_FnMarkovMoves.j0] at H
    by_cases c17 : x63_7 = true
    ·subst c17
     have H1 : (some false) = some r := by rw [if_pos rfl] at H; exact H
     clear H; have H := H1; clear H1
     obtain rfl := Option.some.inj H
     go_wp2
     go_ret
     exact ⟨by first | rfl | (simp [errW_none, errW_some] <;> rfl) | (simp [*, errW_none, errW_some] <;> rfl), by repeat (first | (with_reducible first | exact HB.out | apply below_alloc | apply pw_below_drewN | apply below_drew1) | exact HB.out)⟩
    ·as_aux_lemma =>
     replace c17 := Bool.eq_false_iff.mpr c17
     subst c17
     have H1 : (if t850 = true then ((impl_IsMarkov.f kj7 t849).bind fun t858 => (if t858 = true then (laws_FnMarkovMoves.l0 kj7 l1 t845 t849 false 0) else (some false))) else (laws_FnMarkovMoves.j2 kj7 l1)) = some r := by rw [if_neg (show ¬ (false = true) by decide)] at H; exact H
     clear H; have H := H1; clear H1
     have HC18 := Aside0.mk H
     clear H
     go_upto_if 64 with (fail)
     go_cut [] (fun wc => ∃ (kq : Nat), Aside0 (laws_FnMarkovMoves.j2 kq l1 = some r) ∧ Aside0 (kq ≤ kj7) ∧ Aside0 (Below w.heap.size w wc))
     case first => as_aux_lemma =>
      have H := HC18.out; clear HC18
      by_cases c19 : t850 = true
      ·as_aux_lemma =>
       subst c19
       have H1 : ((impl_IsMarkov.f kj7 t849).bind fun t858 => (if t858 = true then (laws_FnMarkovMoves.l0 kj7 l1 t845 t849 false 0) else (some false))) = some r := by rw [if_pos rfl] at H; exact H
       clear H; have H := H1; clear H1
       replace H := Option.bind_eq_some_iff.mp H
       obtain ⟨t858, A200, H⟩ := H
       replace H : (if t858 = true then (laws_FnMarkovMoves.l0 kj7 l1 t845 t849 false 0) else (some false)) = some r := H
       have A20 := Aside0.mk A200
       clear A200
       by_cases c21 : t858 = true
       ·as_aux_lemma =>
        subst c21
        have H1 : (laws_FnMarkovMoves.l0 kj7 l1 t845 t849 false 0) = some r := by rw [if_pos rfl] at H; exact H
        clear H; have H := H1; clear H1
        have H' := Aside0.mk H
        clear H
        obtain ⟨Ao22, co22, eo22⟩ := Kd.R_slice HO_7.out
        subst eo22
        go_wp2_with (first | ((with_reducible refine gate_callee (f := 48) rfl ?_); refine goesL_ (some 66) rfl rfl Try.func48 (by kernel_rfl) rfl #[.slice Ao22 t849.length co22] rfl (by (try simp only [List.map_toArray, List.map_cons, List.map_nil]); first | done | rfl) ?_; (with_reducible refine (impl_IsMarkov.calls kj7 _ _ t849 true _ ?side1 ?side2 A20.out).mono ?_); (case side1 => repeat (first | exact (Kd.R_reads' HO_7.out).2.2 | (with_reducible refine Kd.C_alloc ?_ _) | (with_reducible refine Kd.C_drewN ?_ _) | (with_reducible refine Kd.C_drew ?_))); (case side2 => exact (Kd.R_reads' HO_7.out).2.1); rintro e w23 ⟨rfl, hb⟩; refine ⟨_, rfl, ?_⟩; have n0_ := Aside0.mk (Kd.R_below (by (with_reducible repeat (first | apply Kd.R_alloc | apply Kd.R_drewN | apply Kd.R_drew)); exact HO_5.out) hb); have n1_ := Aside0.mk (Kd.R_below (by (with_reducible repeat (first | apply Kd.R_alloc | apply Kd.R_drewN | apply Kd.R_drew)); exact HO_7.out) hb); have n2_ := Aside0.mk (below_step (by repeat (first | (with_reducible first | exact HB.out | apply below_alloc | apply pw_below_drewN | apply below_drew1) | exact HB.out)) hb); clear HO_5; clear HO_7; clear HB; have HO_5 := n0_; have HO_7 := n1_; have HB := n2_; clear n0_ n1_ n2_; (try clear hb); (try clear hb2); (try clear hk); (try clear hi)))
        go_loopg [11, 12] kj7 (fun kq v11 v12 w' => ∃ (x11_2 : Bool) (x12_2 : Int), v11 = .bool x11_2 ∧ v12 = .int .i64 x12_2 ∧ Aside0 (laws_FnMarkovMoves.l0 kq l1 t845 t849 x11_2 x12_2 = some r) ∧ Aside0 (kq ≤ kj7) ∧ Aside0 (Kd.R (Kd.int .i64) 3 w' w.heap.size (fun k_ => some k_ ≠ ((.slice Ao22 t849.length co22) : Value).ownBlock) (.slice Ao10 t845.length co10) t845) ∧ Aside0 (Kd.R (Kd.int .i64) 3 w' w.heap.size (fun k_ => some k_ ≠ ((.slice Ao10 t845.length co10) : Value).ownBlock) (.slice Ao22 t849.length co22) t849) ∧ Aside0 (Below w.heap.size w w'))
        case atStart => exact ⟨(false), (0), (by first | rfl | (simp; done) | (simp [*]; done)), (by first | rfl | (simp; done) | (simp [*]; done)), H', ⟨Nat.le_refl _⟩, ⟨by (with_reducible repeat (first | apply Kd.R_alloc | apply Kd.R_drewN | apply Kd.R_drew)); exact HO_5.out⟩, ⟨by (with_reducible repeat (first | apply Kd.R_alloc | apply Kd.R_drewN | apply Kd.R_drew)); exact HO_7.out⟩, ⟨by repeat (first | (with_reducible first | exact HB.out | apply below_alloc | apply pw_below_drewN | apply below_drew1) | exact HB.out)⟩⟩
        case round => as_aux_lemma =>
         clear H'
         try clear c1
         try clear c2
         try clear p2
         try clear c3
         try clear c4
         try clear c5
         try clear c13
         try clear c13b0
         try clear c13b1
         try clear c13b2
         try clear c14
         try clear c17
         try clear c19
         try clear c21
         try clear p2
         obtain ⟨x11_2, x12_2, rfl, rfl, HA, HK2, HO_5, HO_7, HB⟩ := hrel
         cases gk with
         | zero => exact absurd HA.out (by simp [laws_FnMarkovMoves.l0])
         | succ k2 =>
          have H := HA.out; clear HA
          simp only [laws_FnMarkovMoves.l0] at H
          by_cases c24 : x12_2 < 3
          ·as_aux_lemma =>
           rw [if_pos c24] at H
           have c24b0 : decide (x12_2 < 3) = true := decide_eq_true c24
           clear c24
           (first | rw [c24b0] | (simp only [i64_w, i32_w]; rw [c24b0]) | skip)
           replace H := Option.bind_eq_some_iff.mp H
           obtain ⟨⟨t859, t860⟩, A250, H⟩ := H
           replace H : (if x11_2 = true then (laws_FnMarkovMoves.l0 k2 l1 t845 t849 true (wrap64 (x12_2 + 1))) else (if t860 = true then ((laws_dSame.f k2 t859 t845).bind fun t863 => (laws_FnMarkovMoves.l0 k2 l1 t845 t849 t863 (wrap64 (x12_2 + 1)))) else (laws_FnMarkovMoves.l0 k2 l1 t845 t849 false (wrap64 (x12_2 + 1))))) = some r := H
           have A25 := Aside0.mk A250
           clear A250
           by_cases c26 : x11_2 = true
           ·subst c26
            have H1 : (laws_FnMarkovMoves.l0 k2 l1 t845 t849 true (wrap64 (x12_2 + 1))) = some r := by rw [if_pos rfl] at H; exact H
            clear H; have H := H1; clear H1
            have H' := Aside0.mk H
            clear H
            go_wp2_with (first | ((with_reducible refine gate_callee (f := 28) rfl ?_); refine goesL_ (some 75) rfl rfl Try.func28 (by kernel_rfl) rfl #[.slice Ao22 t849.length co22, .int .i64 x12_2] rfl (by (try simp only [List.map_toArray, List.map_cons, List.map_nil]); first | done | rfl) ?_; (with_reducible refine (impl_MarkovMove.calls k2 _ _ t849 x12_2 t859 t860 _ ?side1 ?side2 A25.out).mono ?_); (case side1 => repeat (first | exact (Kd.R_reads' HO_7.out).2.2 | (with_reducible refine Kd.C_alloc ?_ _) | (with_reducible refine Kd.C_drewN ?_ _) | (with_reducible refine Kd.C_drew ?_))); (case side2 => exact (Kd.R_reads' HO_7.out).2.1); rintro e w27 ⟨v861, rfl, ho0, hb⟩; refine ⟨_, rfl, ?_⟩; have n0_ := Aside0.mk (Kd.R_elder' (by (with_reducible repeat (first | apply Kd.R_alloc | apply Kd.R_drewN | apply Kd.R_drew)); exact HO_5.out) (Kd.R_base ho0) hb); have n1_ := Aside0.mk (Kd.R_elder' (by (with_reducible repeat (first | apply Kd.R_alloc | apply Kd.R_drewN | apply Kd.R_drew)); exact HO_7.out) (Kd.R_base ho0) hb); have n2_ := Aside0.mk (Kd.R_lower (Kd.R_new' (Kd.R_new' ho0 (Kd.R_lt (by (with_reducible repeat (first | apply Kd.R_alloc | apply Kd.R_drewN | apply Kd.R_drew)); exact HO_5.out))) (Kd.R_lt (by (with_reducible repeat (first | apply Kd.R_alloc | apply Kd.R_drewN | apply Kd.R_drew)); exact HO_7.out))) (below_size (by repeat (first | (with_reducible first | exact HB.out | apply below_alloc | apply pw_below_drewN | apply below_drew1) | exact HB.out)))); have n3_ := Aside0.mk (below_step (by repeat (first | (with_reducible first | exact HB.out | apply below_alloc | apply pw_below_drewN | apply below_drew1) | exact HB.out)) hb); clear HO_5; clear HO_7; clear HB; have HO_5 := n0_; have HO_7 := n1_; have HO862 := n2_; have HB := n3_; clear n0_ n1_ n2_ n3_; (try clear hb); (try clear hb2); (try clear hk); (try clear hi); (try clear ho0)))
            go_roundg k2
            case measure => have := HJ7.out; have := HK2.out; omega
            case rel => exact ⟨(true), (wrap64 (x12_2 + 1)), (by first | rfl | (simp; done) | (simp [*]; done)), (by first | rfl | (simp; done) | (simp [*]; done)), H', ⟨by have := HJ7.out; have := HK2.out; omega⟩, ⟨by (with_reducible repeat (first | apply Kd.R_alloc | apply Kd.R_drewN | apply Kd.R_drew)); exact Kd.R_mono HO_5.out (fun _ hk => hk.1)⟩, ⟨by (with_reducible repeat (first | apply Kd.R_alloc | apply Kd.R_drewN | apply Kd.R_drew)); exact Kd.R_mono HO_7.out (fun _ hk => hk.1)⟩, ⟨by repeat (first | (with_reducible first | exact HB.out | apply below_alloc | apply pw_below_drewN | apply below_drew1) | exact HB.out)⟩⟩
           ·as_aux_lemma =>
            replace c26 := Bool.eq_false_iff.mpr c26
            subst c26
            have H1 : (if t860 = true then ((laws_dSame.f k2 t859 t845).bind fun t863 => (laws_FnMarkovMoves.l0 k2 l1 t845 t849 t863 (wrap64 (x12_2 + 1)))) else (laws_FnMarkovMoves.l0 k2 l1 t845 t849 false (wrap64 (x12_2 + 1)))) = some r := by rw [if_neg (show ¬ (false = true) by decide)] at H; exact H
            clear H; have H := H1; clear H1
            by_cases c28 : t860 = true
            ·as_aux_lemma =>
             subst c28
             have H1 : ((laws_dSame.f k2 t859 t845).bind fun t863 => (laws_FnMarkovMoves.l0 k2 l1 t845 t849 t863 (wrap64 (x12_2 + 1)))) = some r := by rw [if_pos rfl] at H; exact H
             clear H; have H := H1; clear H1
             replace H := Option.bind_eq_some_iff.mp H
             obtain ⟨t863, A290, H⟩ := H
             replace H : (laws_FnMarkovMoves.l0 k2 l1 t845 t849 t863 (wrap64 (x12_2 + 1))) = some r := H
             have A29 := Aside0.mk A290
             clear A290
             have H' := Aside0.mk H
             clear H
             go_wp2_with (first | ((with_reducible refine gate_callee (f := 28) rfl ?_); refine goesL_ (some 75) rfl rfl Try.func28 (by kernel_rfl) rfl #[.slice Ao22 t849.length co22, .int .i64 x12_2] rfl (by (try simp only [List.map_toArray, List.map_cons, List.map_nil]); first | done | rfl) ?_; (with_reducible refine (impl_MarkovMove.calls k2 _ _ t849 x12_2 t859 true _ ?side1 ?side2 A25.out).mono ?_); (case side1 => repeat (first | exact (Kd.R_reads' HO_7.out).2.2 | (with_reducible refine Kd.C_alloc ?_ _) | (with_reducible refine Kd.C_drewN ?_ _) | (with_reducible refine Kd.C_drew ?_))); (case side2 => exact (Kd.R_reads' HO_7.out).2.1); rintro e w30 ⟨v861, rfl, ho0, hb⟩; refine ⟨_, rfl, ?_⟩; have n0_ := Aside0.mk (Kd.R_elder' (by (with_reducible repeat (first | apply Kd.R_alloc | apply Kd.R_drewN | apply Kd.R_drew)); exact HO_5.out) (Kd.R_base ho0) hb); have n1_ := Aside0.mk (Kd.R_elder' (by (with_reducible repeat (first | apply Kd.R_alloc | apply Kd.R_drewN | apply Kd.R_drew)); exact HO_7.out) (Kd.R_base ho0) hb); have n2_ := Aside0.mk (Kd.R_lower (Kd.R_new' (Kd.R_new' ho0 (Kd.R_lt (by (with_reducible repeat (first | apply Kd.R_alloc | apply Kd.R_drewN | apply Kd.R_drew)); exact HO_5.out))) (Kd.R_lt (by (with_reducible repeat (first | apply Kd.R_alloc | apply Kd.R_drewN | apply Kd.R_drew)); exact HO_7.out))) (below_size (by repeat (first | (with_reducible first | exact HB.out | apply below_alloc | apply pw_below_drewN | apply below_drew1) | exact HB.out)))); have n3_ := Aside0.mk (below_step (by repeat (first | (with_reducible first | exact HB.out | apply below_alloc | apply pw_below_drewN | apply below_drew1) | exact HB.out)) hb); clear HO_5; clear HO_7; clear HB; have HO_5 := n0_; have HO_7 := n1_; have HO862 := n2_; have HB := n3_; clear n0_ n1_ n2_ n3_; (try clear hb); (try clear hb2); (try clear hk); (try clear hi); (try clear ho0); obtain ⟨Ao31, co31, eo31⟩ := Kd.R_slice HO862.out; subst eo31) | (go_at_call 40; (with_reducible refine (laws_dSame.calls k2 _ _ t859 _ _ t845 t863 _ ?side1 ?side2 ?side3 ?side4 A29.out).mono ?_); (case side1 => repeat (first | exact (Kd.R_reads' HO862.out).2.2 | (with_reducible refine Kd.C_alloc ?_ _) | (with_reducible refine Kd.C_drewN ?_ _) | (with_reducible refine Kd.C_drew ?_))); (case side2 => exact (Kd.R_reads' HO862.out).2.1); (case side3 => repeat (first | exact (Kd.R_reads' HO_5.out).2.2 | (with_reducible refine Kd.C_alloc ?_ _) | (with_reducible refine Kd.C_drewN ?_ _) | (with_reducible refine Kd.C_drew ?_))); (case side4 => exact (Kd.R_reads' HO_5.out).2.1); rintro e w' ⟨rfl, ⟨nd, rfl⟩⟩))
             go_roundg k2
             case measure => have := HJ7.out; have := HK2.out; omega
             case rel => exact ⟨(t863), (wrap64 (x12_2 + 1)), (by first | rfl | (simp; done) | (simp [*]; done)), (by first | rfl | (simp; done) | (simp [*]; done)), H', ⟨by have := HJ7.out; have := HK2.out; omega⟩, ⟨by (with_reducible repeat (first | apply Kd.R_alloc | apply Kd.R_drewN | apply Kd.R_drew)); exact Kd.R_mono HO_5.out (fun _ hk => hk.1)⟩, ⟨by (with_reducible repeat (first | apply Kd.R_alloc | apply Kd.R_drewN | apply Kd.R_drew)); exact Kd.R_mono HO_7.out (fun _ hk => hk.1)⟩, ⟨by repeat (first | (with_reducible first | exact HB.out | apply below_alloc | apply pw_below_drewN | apply below_drew1) | exact HB.out)⟩⟩
            ·replace c28 := Bool.eq_false_iff.mpr c28
             subst c28
             have H1 : (laws_FnMarkovMoves.l0 k2 l1 t845 t849 false (wrap64 (x12_2 + 1))) = some r := by rw [if_neg (show ¬ (false = true) by decide)] at H; exact H
             clear H; have H := H1; clear H1
             have H' := Aside0.mk H
             clear H
             go_wp2_with (first | ((with_reducible refine gate_callee (f := 28) rfl ?_); refine goesL_ (some 75) rfl rfl Try.func28 (by kernel_rfl) rfl #[.slice Ao22 t849.length co22, .int .i64 x12_2] rfl (by (try simp only [List.map_toArray, List.map_cons, List.map_nil]); first | done | rfl) ?_; (with_reducible refine (impl_MarkovMove.calls k2 _ _ t849 x12_2 t859 false _ ?side1 ?side2 A25.out).mono ?_); (case side1 => repeat (first | exact (Kd.R_reads' HO_7.out).2.2 | (with_reducible refine Kd.C_alloc ?_ _) | (with_reducible refine Kd.C_drewN ?_ _) | (with_reducible refine Kd.C_drew ?_))); (case side2 => exact (Kd.R_reads' HO_7.out).2.1); rintro e w32 ⟨v861, rfl, ho0, hb⟩; refine ⟨_, rfl, ?_⟩; have n0_ := Aside0.mk (Kd.R_elder' (by (with_reducible repeat (first | apply Kd.R_alloc | apply Kd.R_drewN | apply Kd.R_drew)); exact HO_5.out) (Kd.R_base ho0) hb); have n1_ := Aside0.mk (Kd.R_elder' (by (with_reducible repeat (first | apply Kd.R_alloc | apply Kd.R_drewN | apply Kd.R_drew)); exact HO_7.out) (Kd.R_base ho0) hb); have n2_ := Aside0.mk (Kd.R_lower (Kd.R_new' (Kd.R_new' ho0 (Kd.R_lt (by (with_reducible repeat (first | apply Kd.R_alloc | apply Kd.R_drewN | apply Kd.R_drew)); exact HO_5.out))) (Kd.R_lt (by (with_reducible repeat (first | apply Kd.R_alloc | apply Kd.R_drewN | apply Kd.R_drew)); exact HO_7.out))) (below_size (by repeat (first | (with_reducible first | exact HB.out | apply below_alloc | apply pw_below_drewN | apply below_drew1) | exact HB.out)))); have n3_ := Aside0.mk (below_step (by repeat (first | (with_reducible first | exact HB.out | apply below_alloc | apply pw_below_drewN | apply below_drew1) | exact HB.out)) hb); clear HO_5; clear HO_7; clear HB; have HO_5 := n0_; have HO_7 := n1_; have HO862 := n2_; have HB := n3_; clear n0_ n1_ n2_ n3_; (try clear hb); (try clear hb2); (try clear hk); (try clear hi); (try clear ho0)))
             go_roundg k2
             case measure => have := HJ7.out; have := HK2.out; omega
             case rel => exact ⟨(false), (wrap64 (x12_2 + 1)), (by first | rfl | (simp; done) | (simp [*]; done)), (by first | rfl | (simp; done) | (simp [*]; done)), H', ⟨by have := HJ7.out; have := HK2.out; omega⟩, ⟨by (with_reducible repeat (first | apply Kd.R_alloc | apply Kd.R_drewN | apply Kd.R_drew)); exact Kd.R_mono HO_5.out (fun _ hk => hk.1)⟩, ⟨by (with_reducible repeat (first | apply Kd.R_alloc | apply Kd.R_drewN | apply Kd.R_drew)); exact Kd.R_mono HO_7.out (fun _ hk => hk.1)⟩, ⟨by repeat (first | (with_reducible first | exact HB.out | apply below_alloc | apply pw_below_drewN | apply below_drew1) | exact HB.out)⟩⟩
          ·as_aux_lemma =>
           rw [if_neg c24] at H
           have c24b0 : decide (x12_2 < 3) = false := decide_eq_false c24
           clear c24
           (first | rw [c24b0] | (simp only [i64_w, i32_w]; rw [c24b0]) | skip)
           by_cases c33 : x11_2 = true
           ·subst c33
            have H1 : (laws_FnMarkovMoves.j2 k2 l1) = some r := by rw [if_pos rfl] at H; exact H
            clear H; have H := H1; clear H1
            have H' := Aside0.mk H
            clear H
            go_wp2
            go_meet
            case rel => exact ⟨_, H', ⟨by have := HJ7.out; have := HK2.out; first | omega | exact Nat.le_refl _⟩, ⟨by repeat (first | (with_reducible first | exact HB.out | apply below_alloc | apply pw_below_drewN | apply below_drew1) | exact HB.out)⟩⟩
           ·replace c33 := Bool.eq_false_iff.mpr c33
            subst c33
            have H1 : (some false) = some r := by rw [if_neg (show ¬ (false = true) by decide)] at H; exact H
            clear H; have H := H1; clear H1
            obtain rfl := Option.some.inj H
            go_wp2
            go_ret
            exact ⟨by first | rfl | (simp [errW_none, errW_some] <;> rfl) | (simp [*, errW_none, errW_some] <;> rfl), by repeat (first | (with_reducible first | exact HB.out | apply below_alloc | apply pw_below_drewN | apply below_drew1) | exact HB.out)⟩
       ·replace c21 := Bool.eq_false_iff.mpr c21
        subst c21
        have H1 : (some false) = some r := by rw [if_neg (show ¬ (false = true) by decide)] at H; exact H
        clear H; have H := H1; clear H1
        obtain rfl := Option.some.inj H
        obtain ⟨Ao34, co34, eo34⟩ := Kd.R_slice HO_7.out
        subst eo34
        go_wp2_with (first | ((with_reducible refine gate_callee (f := 48) rfl ?_); refine goesL_ (some 66) rfl rfl Try.func48 (by kernel_rfl) rfl #[.slice Ao34 t849.length co34] rfl (by (try simp only [List.map_toArray, List.map_cons, List.map_nil]); first | done | rfl) ?_; (with_reducible refine (impl_IsMarkov.calls kj7 _ _ t849 false _ ?side1 ?side2 A20.out).mono ?_); (case side1 => repeat (first | exact (Kd.R_reads' HO_7.out).2.2 | (with_reducible refine Kd.C_alloc ?_ _) | (with_reducible refine Kd.C_drewN ?_ _) | (with_reducible refine Kd.C_drew ?_))); (case side2 => exact (Kd.R_reads' HO_7.out).2.1); rintro e w35 ⟨rfl, hb⟩; refine ⟨_, rfl, ?_⟩; have n0_ := Aside0.mk (Kd.R_below (by (with_reducible repeat (first | apply Kd.R_alloc | apply Kd.R_drewN | apply Kd.R_drew)); exact HO_5.out) hb); have n1_ := Aside0.mk (Kd.R_below (by (with_reducible repeat (first | apply Kd.R_alloc | apply Kd.R_drewN | apply Kd.R_drew)); exact HO_7.out) hb); have n2_ := Aside0.mk (below_step (by repeat (first | (with_reducible first | exact HB.out | apply below_alloc | apply pw_below_drewN | apply below_drew1) | exact HB.out)) hb); clear HO_5; clear HO_7; clear HB; have HO_5 := n0_; have HO_7 := n1_; have HB := n2_; clear n0_ n1_ n2_; (try clear hb); (try clear hb2); (try clear hk); (try clear hi)))
        go_ret
        exact ⟨by first | rfl | (simp [errW_none, errW_some] <;> rfl) | (simp [*, errW_none, errW_some] <;> rfl), by repeat (first | (with_reducible first | exact HB.out | apply below_alloc | apply pw_below_drewN | apply below_drew1) | exact HB.out)⟩
      ·replace c19 := Bool.eq_false_iff.mpr c19
       subst c19
       have H1 : (laws_FnMarkovMoves.j2 kj7 l1) = some r := by rw [if_neg (show ¬ (false = true) by decide)] at H; exact H
       clear H; have H := H1; clear H1
       have H' := Aside0.mk H
       clear H
       go_wp2
       go_meet
       case rel => exact ⟨_, H', ⟨by have := HJ7.out; first | omega | exact Nat.le_refl _⟩, ⟨by repeat (first | (with_reducible first | exact HB.out | apply below_alloc | apply pw_below_drewN | apply below_drew1) | exact HB.out)⟩⟩
     case rest => as_aux_lemma =>
      clear HC18
      try clear c1
      try clear c2
      try clear p2
      try clear c3
      try clear c4
      try clear c5
      try clear p6
      try clear c13
      try clear c13b0
      try clear c13b1
      try clear c13b2
      try clear c14
      try clear c17
      try clear c19
      try clear c21
      try clear c24
      try clear c24b0
      try clear c26
      try clear c27
      try clear c28
      try clear c33
      try clear p2
      obtain ⟨kq, HA, HJ17, HB⟩ := hcut
      cases kq with
      | zero => exact absurd HA.out (by simp [laws_FnMarkovMoves.j2])
      | succ kj17 =>
       have H := HA.out; clear HA
       simp only [laws_FnMarkovMoves.j2] at H
       replace H := Option.bind_eq_some_iff.mp H
       obtain ⟨t864, A360, H⟩ := H
       replace H : ((impl_MarkovUp.f kj17 t864).bind fun bt867 => ((spec_MarkovUp.f kj17 t864).bind fun bt871 => ((impl_MarkovDown.f kj17 t864).bind fun bt875 => ((spec_MarkovDown.f t864).bind fun bt879 => (if (bt867.2 != bt871.2) = true then (laws_FnMarkovMoves.j3 kj17 l1 t864 bt867.1 bt867.2 bt875.1 bt875.2 true) else ((laws_dLists.f kj17 bt867.1 bt871.1).bind fun t883 => (if t883 = true then (if (bt875.2 != bt879.2) = true then (laws_FnMarkovMoves.j3 kj17 l1 t864 bt867.1 bt867.2 bt875.1 bt875.2 true) else ((laws_dSame.f kj17 bt875.1 bt879.1).bind fun t884 => (if t884 = true then ((impl_IsMarkov.f kj17 t864).bind fun t885 => (laws_FnMarkovMoves.j3 kj17 l1 t864 bt867.1 bt867.2 bt875.1 bt875.2 (bt867.2 != t885))) else (laws_FnMarkovMoves.j3 kj17 l1 t864 bt867.1 bt867.2 bt875.1 bt875.2 true)))) else (laws_FnMarkovMoves.j3 kj17 l1 t864 bt867.1 bt867.2 bt875.1 bt875.2 true)))))))) = some r := H
       have A36 := Aside0.mk A360
       clear A360
       replace H := Option.bind_eq_some_iff.mp H
       obtain ⟨⟨t867, t868⟩, A370, H⟩ := H
       replace H : ((spec_MarkovUp.f kj17 t864).bind fun bt871 => ((impl_MarkovDown.f kj17 t864).bind fun bt875 => ((spec_MarkovDown.f t864).bind fun bt879 => (if (t868 != bt871.2) = true then (laws_FnMarkovMoves.j3 kj17 l1 t864 t867 t868 bt875.1 bt875.2 true) else ((laws_dLists.f kj17 t867 bt871.1).bind fun t883 => (if t883 = true then (if (bt875.2 != bt879.2) = true then (laws_FnMarkovMoves.j3 kj17 l1 t864 t867 t868 bt875.1 bt875.2 true) else ((laws_dSame.f kj17 bt875.1 bt879.1).bind fun t884 => (if t884 = true then ((impl_IsMarkov.f kj17 t864).bind fun t885 => (laws_FnMarkovMoves.j3 kj17 l1 t864 t867 t868 bt875.1 bt875.2 (t868 != t885))) else (laws_FnMarkovMoves.j3 kj17 l1 t864 t867 t868 bt875.1 bt875.2 true)))) else (laws_FnMarkovMoves.j3 kj17 l1 t864 t867 t868 bt875.1 bt875.2 true))))))) = some r := H
       have A37 := Aside0.mk A370
       clear A370
       replace H := Option.bind_eq_some_iff.mp H
       obtain ⟨⟨t871, t872⟩, A380, H⟩ := H
       replace H : ((impl_MarkovDown.f kj17 t864).bind fun bt875 => ((spec_MarkovDown.f t864).bind fun bt879 => (if (t868 != t872) = true then (laws_FnMarkovMoves.j3 kj17 l1 t864 t867 t868 bt875.1 bt875.2 true) else ((laws_dLists.f kj17 t867 t871).bind fun t883 => (if t883 = true then (if (bt875.2 != bt879.2) = true then (laws_FnMarkovMoves.j3 kj17 l1 t864 t867 t868 bt875.1 bt875.2 true) else ((laws_dSame.f kj17 bt875.1 bt879.1).bind fun t884 => (if t884 = true then ((impl_IsMarkov.f kj17 t864).bind fun t885 => (laws_FnMarkovMoves.j3 kj17 l1 t864 t867 t868 bt875.1 bt875.2 (t868 != t885))) else (laws_FnMarkovMoves.j3 kj17 l1 t864 t867 t868 bt875.1 bt875.2 true)))) else (laws_FnMarkovMoves.j3 kj17 l1 t864 t867 t868 bt875.1 bt875.2 true)))))) = some r := H
       have A38 := Aside0.mk A380
       clear A380
       replace H := Option.bind_eq_some_iff.mp H
       obtain ⟨⟨t875, t876⟩, A390, H⟩ := H
       replace H : ((spec_MarkovDown.f t864).bind fun bt879 => (if (t868 != t872) = true then (laws_FnMarkovMoves.j3 kj17 l1 t864 t867 t868 t875 t876 true) else ((laws_dLists.f kj17 t867 t871).bind fun t883 => (if t883 = true then (if (t876 != bt879.2) = true then (laws_FnMarkovMoves.j3 kj17 l1 t864 t867 t868 t875 t876 true) else ((laws_dSame.f kj17 t875 bt879.1).bind fun t884 => (if t884 = true then ((impl_IsMarkov.f kj17 t864).bind fun t885 => (laws_FnMarkovMoves.j3 kj17 l1 t864 t867 t868 t875 t876 (t868 != t885))) else (laws_FnMarkovMoves.j3 kj17 l1 t864 t867 t868 t875 t876 true)))) else (laws_FnMarkovMoves.j3 kj17 l1 t864 t867 t868 t875 t876 true))))) = some r := H
       have A39 := Aside0.mk A390
       clear A390
       replace H := Option.bind_eq_some_iff.mp H
       obtain ⟨⟨t879, t880⟩, A400, H⟩ := H
       replace H : (if (t868 != t872) = true then (laws_FnMarkovMoves.j3 kj17 l1 t864 t867 t868 t875 t876 true) else ((laws_dLists.f kj17 t867 t871).bind fun t883 => (if t883 = true then (if (t876 != t880) = true then (laws_FnMarkovMoves.j3 kj17 l1 t864 t867 t868 t875 t876 true) else ((laws_dSame.f kj17 t875 t879).bind fun t884 => (if t884 = true then ((impl_IsMarkov.f kj17 t864).bind fun t885 => (laws_FnMarkovMoves.j3 kj17 l1 t864 t867 t868 t875 t876 (t868 != t885))) else (laws_FnMarkovMoves.j3 kj17 l1 t864 t867 t868 t875 t876 true)))) else (laws_FnMarkovMoves.j3 kj17 l1 t864 t867 t868 t875 t876 true)))) = some r := H
       have A40 := Aside0.mk A400
       clear A400
       have HC41 := Aside0.mk H
       clear H
       go_upto_region 24 with (first | ((with_reducible refine gate_callee (f := 53) rfl ?_); refine goesL_ (some 90) rfl rfl Try.func53 (by kernel_rfl) rfl #[.slice A1 l1.length c1] rfl (by (try simp only [List.map_toArray, List.map_cons, List.map_nil]); first | done | rfl) ?_; (with_reducible refine (spec_DrawMarkovUp.calls kj17 _ _ l1 t864 _ ?side1 ?side2 A36.out).mono ?_); (case side1 => repeat (first | exact (Kd.C_below HR1.out HB.out) | (with_reducible refine Kd.C_alloc ?_ _) | (with_reducible refine Kd.C_drewN ?_ _) | (with_reducible refine Kd.C_drew ?_))); (case side2 => exact HC1.out); rintro e w42 ⟨v865, rfl, ho0, hb⟩; refine ⟨_, rfl, ?_⟩; have n0_ := Aside0.mk (Kd.R_lower ho0 (below_size (by repeat (first | (with_reducible first | exact HB.out | apply below_alloc | apply pw_below_drewN | apply below_drew1) | exact HB.out)))); have n1_ := Aside0.mk (below_step (by repeat (first | (with_reducible first | exact HB.out | apply below_alloc | apply pw_below_drewN | apply below_drew1) | exact HB.out)) hb); clear HB; have HO866 := n0_; have HB := n1_; clear n0_ n1_; (try clear hb); (try clear hb2); (try clear hk); (try clear hi); (try clear ho0); obtain ⟨Ao43, co43, eo43⟩ := Kd.R_slice HO866.out; subst eo43) | ((with_reducible refine gate_callee (f := 51) rfl ?_); refine goesL_ (some 93) rfl rfl Try.func51 (by kernel_rfl) rfl #[.slice Ao43 t864.length co43] rfl (by (try simp only [List.map_toArray, List.map_cons, List.map_nil]); first | done | rfl) ?_; (with_reducible refine (impl_MarkovUp.calls kj17 _ _ t864 t867 t868 _ ?side1 ?side2 A37.out).mono ?_); (case side1 => repeat (first | exact (Kd.R_reads' HO866.out).2.2 | (with_reducible refine Kd.C_alloc ?_ _) | (with_reducible refine Kd.C_drewN ?_ _) | (with_reducible refine Kd.C_drew ?_))); (case side2 => exact (Kd.R_reads' HO866.out).2.1); rintro e w44 ⟨v869, rfl, ho0, hb⟩; refine ⟨_, rfl, ?_⟩; have n0_ := Aside0.mk (Kd.R_below (by (with_reducible repeat (first | apply Kd.R_alloc | apply Kd.R_drewN | apply Kd.R_drew)); exact HO866.out) hb); have n1_ := Aside0.mk (Kd.S_lower (Kd.S_new' ho0 (Kd.R_lt (by (with_reducible repeat (first | apply Kd.R_alloc | apply Kd.R_drewN | apply Kd.R_drew)); exact HO866.out))) (below_size (by repeat (first | (with_reducible first | exact HB.out | apply below_alloc | apply pw_below_drewN | apply below_drew1) | exact HB.out)))); have n2_ := Aside0.mk (below_step (by repeat (first | (with_reducible first | exact HB.out | apply below_alloc | apply pw_below_drewN | apply below_drew1) | exact HB.out)) hb); clear HO866; clear HB; have HO866 := n0_; have HO870 := n1_; have HB := n2_; clear n0_ n1_ n2_; (try clear hb); (try clear hb2); (try clear hk); (try clear hi); (try clear ho0)) | ((with_reducible refine gate_callee (f := 50) rfl ?_); refine goesL_ (some 98) rfl rfl Try.func50 (by kernel_rfl) rfl #[.slice Ao43 t864.length co43] rfl (by (try simp only [List.map_toArray, List.map_cons, List.map_nil]); first | done | rfl) ?_; (with_reducible refine (spec_MarkovUp.calls kj17 _ _ t864 t871 t872 _ ?side1 ?side2 A38.out).mono ?_); (case side1 => repeat (first | exact (Kd.R_reads' HO866.out).2.2 | (with_reducible refine Kd.C_alloc ?_ _) | (with_reducible refine Kd.C_drewN ?_ _) | (with_reducible refine Kd.C_drew ?_))); (case side2 => exact (Kd.R_reads' HO866.out).2.1); rintro e w45 ⟨v873, rfl, ho0, hb⟩; refine ⟨_, rfl, ?_⟩; have n0_ := Aside0.mk (Kd.R_below (by (with_reducible repeat (first | apply Kd.R_alloc | apply Kd.R_drewN | apply Kd.R_drew)); exact HO866.out) hb); have n1_ := Aside0.mk (Kd.S_elder' (by (with_reducible repeat (first | apply Kd.S_alloc | apply Kd.S_drewN | apply Kd.S_drew)); exact HO870.out) (Kd.S_base ho0) hb); have n2_ := Aside0.mk (Kd.S_lower (Kd.S_new' (Kd.S_new' ho0 (Kd.R_lt (by (with_reducible repeat (first | apply Kd.R_alloc | apply Kd.R_drewN | apply Kd.R_drew)); exact HO866.out))) (Kd.S_lt (by (with_reducible repeat (first | apply Kd.S_alloc | apply Kd.S_drewN | apply Kd.S_drew)); exact HO870.out))) (below_size (by repeat (first | (with_reducible first | exact HB.out | apply below_alloc | apply pw_below_drewN | apply below_drew1) | exact HB.out)))); have n3_ := Aside0.mk (below_step (by repeat (first | (with_reducible first | exact HB.out | apply below_alloc | apply pw_below_drewN | apply below_drew1) | exact HB.out)) hb); clear HO866; clear HO870; clear HB; have HO866 := n0_; have HO870 := n1_; have HO874 := n2_; have HB := n3_; clear n0_ n1_ n2_ n3_; (try clear hb); (try clear hb2); (try clear hk); (try clear hi); (try clear ho0)) | ((with_reducible refine gate_callee (f := 24) rfl ?_); refine goesL_ (some 103) rfl rfl Try.func24 (by kernel_rfl) rfl #[.slice Ao43 t864.length co43] rfl (by (try simp only [List.map_toArray, List.map_cons, List.map_nil]); first | done | rfl) ?_; (with_reducible refine (impl_MarkovDown.calls kj17 _ _ t864 t875 t876 _ ?side1 ?side2 A39.out).mono ?_); (case side1 => repeat (first | exact (Kd.R_reads' HO866.out).2.2 | (with_reducible refine Kd.C_alloc ?_ _) | (with_reducible refine Kd.C_drewN ?_ _) | (with_reducible refine Kd.C_drew ?_))); (case side2 => exact (Kd.R_reads' HO866.out).2.1); rintro e w46 ⟨v877, rfl, ho0, hb⟩; refine ⟨_, rfl, ?_⟩; have n0_ := Aside0.mk (Kd.R_elder' (by (with_reducible repeat (first | apply Kd.R_alloc | apply Kd.R_drewN | apply Kd.R_drew)); exact HO866.out) (Kd.R_base ho0) hb); have n1_ := Aside0.mk (Kd.S_elder' (by (with_reducible repeat (first | apply Kd.S_alloc | apply Kd.S_drewN | apply Kd.S_drew)); exact HO870.out) (Kd.R_base ho0) hb); have n2_ := Aside0.mk (Kd.S_elder' (by (with_reducible repeat (first | apply Kd.S_alloc | apply Kd.S_drewN | apply Kd.S_drew)); exact HO874.out) (Kd.R_base ho0) hb); have n3_ := Aside0.mk (Kd.R_lower (Kd.R_new' ho0 (Kd.R_lt (by (with_reducible repeat (first | apply Kd.R_alloc | apply Kd.R_drewN | apply Kd.R_drew)); exact HO866.out))) (below_size (by repeat (first | (with_reducible first | exact HB.out | apply below_alloc | apply pw_below_drewN | apply below_drew1) | exact HB.out)))); have n4_ := Aside0.mk (below_step (by repeat (first | (with_reducible first | exact HB.out | apply below_alloc | apply pw_below_drewN | apply below_drew1) | exact HB.out)) hb); clear HO866; clear HO870; clear HO874; clear HB; have HO866 := n0_; have HO870 := n1_; have HO874 := n2_; have HO878 := n3_; have HB := n4_; clear n0_ n1_ n2_ n3_ n4_; (try clear hb); (try clear hb2); (try clear hk); (try clear hi); (try clear ho0)) | ((with_reducible refine gate_callee (f := 23) rfl ?_); refine goesL_ (some 108) rfl rfl Try.func23 (by kernel_rfl) rfl #[.slice Ao43 t864.length co43] rfl (by (try simp only [List.map_toArray, List.map_cons, List.map_nil]); first | done | rfl) ?_; (with_reducible refine (spec_MarkovDown.calls _ _ t864 t879 t880 _ ?side1 ?side2 A40.out).mono ?_); (case side1 => repeat (first | exact (Kd.R_reads' HO866.out).2.2 | (with_reducible refine Kd.C_alloc ?_ _) | (with_reducible refine Kd.C_drewN ?_ _) | (with_reducible refine Kd.C_drew ?_))); (case side2 => exact (Kd.R_reads' HO866.out).2.1); rintro e w47 ⟨v881, rfl, ho0, hb⟩; refine ⟨_, rfl, ?_⟩; have n0_ := Aside0.mk (Kd.R_elder' (by (with_reducible repeat (first | apply Kd.R_alloc | apply Kd.R_drewN | apply Kd.R_drew)); exact HO866.out) (Kd.R_base ho0) hb); have n1_ := Aside0.mk (Kd.S_elder' (by (with_reducible repeat (first | apply Kd.S_alloc | apply Kd.S_drewN | apply Kd.S_drew)); exact HO870.out) (Kd.R_base ho0) hb); have n2_ := Aside0.mk (Kd.S_elder' (by (with_reducible repeat (first | apply Kd.S_alloc | apply Kd.S_drewN | apply Kd.S_drew)); exact HO874.out) (Kd.R_base ho0) hb); have n3_ := Aside0.mk (Kd.R_elder' (by (with_reducible repeat (first | apply Kd.R_alloc | apply Kd.R_drewN | apply Kd.R_drew)); exact HO878.out) (Kd.R_base ho0) hb); have n4_ := Aside0.mk (Kd.R_lower (Kd.R_new' (Kd.R_new' ho0 (Kd.R_lt (by (with_reducible repeat (first | apply Kd.R_alloc | apply Kd.R_drewN | apply Kd.R_drew)); exact HO866.out))) (Kd.R_lt (by (with_reducible repeat (first | apply Kd.R_alloc | apply Kd.R_drewN | apply Kd.R_drew)); exact HO878.out))) (below_size (by repeat (first | (with_reducible first | exact HB.out | apply below_alloc | apply pw_below_drewN | apply below_drew1) | exact HB.out)))); have n5_ := Aside0.mk (below_step (by repeat (first | (with_reducible first | exact HB.out | apply below_alloc | apply pw_below_drewN | apply below_drew1) | exact HB.out)) hb); clear HO866; clear HO870; clear HO874; clear HO878; clear HB; have HO866 := n0_; have HO870 := n1_; have HO874 := n2_; have HO878 := n3_; have HO882 := n4_; have HB := n5_; clear n0_ n1_ n2_ n3_ n4_ n5_; (try clear hb); (try clear hb2); (try clear hk); (try clear hi); (try clear ho0)))
       (try simp only [Act.put, List.setIfInBounds_toArray, List.set_cons_zero, List.set_cons_succ])
       go_cut [136] (fun v136 wc => ∃ (kq : Nat) (x136_40 : Bool), v136 = .bool x136_40 ∧ Aside0 (laws_FnMarkovMoves.j3 kq l1 t864 t867 t868 t875 t876 x136_40 = some r) ∧ Aside0 (kq ≤ kj17) ∧ Aside0 (Kd.R (Kd.int .i64) 3 wc w.heap.size (fun k_ => some k_ ≠ (v877 : Value).ownBlock) (.slice Ao43 t864.length co43) t864) ∧ Aside0 (Kd.S (Kd.slice 3 (Kd.int .i64)) 22 wc w.heap.size (fun k_ => some k_ ≠ ((.slice Ao43 t864.length co43) : Value).ownBlock ∧ some k_ ≠ (v877 : Value).ownBlock) v869 t867) ∧ Aside0 (Kd.R (Kd.int .i64) 3 wc w.heap.size (fun k_ => some k_ ≠ ((.slice Ao43 t864.length co43) : Value).ownBlock) v877 t875) ∧ Aside0 (Below w.heap.size w wc))
       case first => as_aux_lemma =>
        have H := HC41.out; clear HC41
        by_cases c48 : (t868 != t872) = true
        ·rw [if_pos c48] at H
         have c48b0 : (t868 != t872) = true := c48
         (try (have c48b1 : decide (t868 = t872) = false := by simpa using c48))
         (try (have c48b2 : (t868 == t872) = false := by simpa using c48))
         (try (have c48b3 : ¬ (t868 = t872) := by simpa using c48))
         clear c48
         (first | rw [c48b0] | (simp only [i64_w, i32_w]; rw [c48b0]) | skip)
         have H' := Aside0.mk H
         clear H
         go_wp2
         go_meet
         case rel => exact ⟨_, (true), (by first | rfl | (simp; done) | (simp [*]; done)), H', ⟨by have := HJ7.out; have := HJ17.out; first | omega | exact Nat.le_refl _⟩, ⟨by (with_reducible repeat (first | apply Kd.R_alloc | apply Kd.R_drewN | apply Kd.R_drew)); exact Kd.R_mono HO866.out (fun _ hk => hk.1.2)⟩, ⟨by (with_reducible repeat (first | apply Kd.S_alloc | apply Kd.S_drewN | apply Kd.S_drew)); exact Kd.S_mono HO870.out (fun _ hk => ⟨hk.1.1.1.2, hk.1.2⟩)⟩, ⟨by (with_reducible repeat (first | apply Kd.R_alloc | apply Kd.R_drewN | apply Kd.R_drew)); exact Kd.R_mono HO878.out (fun _ hk => hk.1.2)⟩, ⟨by repeat (first | (with_reducible first | exact HB.out | apply below_alloc | apply pw_below_drewN | apply below_drew1) | exact HB.out)⟩⟩
        ·as_aux_lemma =>
         rw [if_neg c48] at H
         have c48b0 : (t868 != t872) = false := by simpa using c48
         (try (have c48b1 : decide (t868 = t872) = true := by simpa using c48))
         (try (have c48b2 : (t868 == t872) = true := by simpa using c48))
         clear c48
         (first | rw [c48b0] | (simp only [i64_w, i32_w]; rw [c48b0]) | skip)
         replace H := Option.bind_eq_some_iff.mp H
         obtain ⟨t883, A490, H⟩ := H
         replace H : (if t883 = true then (if (t876 != t880) = true then (laws_FnMarkovMoves.j3 kj17 l1 t864 t867 t868 t875 t876 true) else ((laws_dSame.f kj17 t875 t879).bind fun t884 => (if t884 = true then ((impl_IsMarkov.f kj17 t864).bind fun t885 => (laws_FnMarkovMoves.j3 kj17 l1 t864 t867 t868 t875 t876 (t868 != t885))) else (laws_FnMarkovMoves.j3 kj17 l1 t864 t867 t868 t875 t876 true)))) else (laws_FnMarkovMoves.j3 kj17 l1 t864 t867 t868 t875 t876 true)) = some r := H
         have A49 := Aside0.mk A490
         clear A490
         by_cases c50 : t883 = true
         ·as_aux_lemma =>
          subst c50
          have H1 : (if (t876 != t880) = true then (laws_FnMarkovMoves.j3 kj17 l1 t864 t867 t868 t875 t876 true) else ((laws_dSame.f kj17 t875 t879).bind fun t884 => (if t884 = true then ((impl_IsMarkov.f kj17 t864).bind fun t885 => (laws_FnMarkovMoves.j3 kj17 l1 t864 t867 t868 t875 t876 (t868 != t885))) else (laws_FnMarkovMoves.j3 kj17 l1 t864 t867 t868 t875 t876 true)))) = some r := by rw [if_pos rfl] at H; exact H
          clear H; have H := H1; clear H1
          by_cases c51 : (t876 != t880) = true
          ·as_aux_lemma =>
           rw [if_pos c51] at H
           have c51b0 : (t876 != t880) = true := c51
           (try (have c51b1 : decide (t876 = t880) = false := by simpa using c51))
           (try (have c51b2 : (t876 == t880) = false := by simpa using c51))
           (try (have c51b3 : ¬ (t876 = t880) := by simpa using c51))
           clear c51
           have H' := Aside0.mk H
           clear H
           obtain ⟨Ao52, co52, eo52⟩ := Kd.S_slice HO870.out
           subst eo52
           obtain ⟨Ao53, co53, eo53⟩ := Kd.S_slice HO874.out
           subst eo53
           go_wp2_with (first | (go_at_call 43; (with_reducible refine (laws_dLists.calls kj17 _ _ t867 _ _ t871 true _ ?side1 ?side2 ?side3 ?side4 A49.out).mono ?_); (case side1 => repeat (first | exact (Kd.S_reads' HO870.out).2.2 | (with_reducible refine Kd.C_alloc ?_ _) | (with_reducible refine Kd.C_drewN ?_ _) | (with_reducible refine Kd.C_drew ?_))); (case side2 => exact (Kd.S_reads' HO870.out).2.1); (case side3 => repeat (first | exact (Kd.S_reads' HO874.out).2.2 | (with_reducible refine Kd.C_alloc ?_ _) | (with_reducible refine Kd.C_drewN ?_ _) | (with_reducible refine Kd.C_drew ?_))); (case side4 => exact (Kd.S_reads' HO874.out).2.1); rintro e w' ⟨rfl, ⟨nd, rfl⟩⟩))
           go_meet
           case rel => exact ⟨_, (true), (by first | rfl | (simp; done) | (simp [*]; done)), H', ⟨by have := HJ7.out; have := HJ17.out; first | omega | exact Nat.le_refl _⟩, ⟨by (with_reducible repeat (first | apply Kd.R_alloc | apply Kd.R_drewN | apply Kd.R_drew)); exact Kd.R_mono HO866.out (fun _ hk => hk.1.2)⟩, ⟨by (with_reducible repeat (first | apply Kd.S_alloc | apply Kd.S_drewN | apply Kd.S_drew)); exact Kd.S_mono HO870.out (fun _ hk => ⟨hk.1.1.1.2, hk.1.2⟩)⟩, ⟨by (with_reducible repeat (first | apply Kd.R_alloc | apply Kd.R_drewN | apply Kd.R_drew)); exact Kd.R_mono HO878.out (fun _ hk => hk.1.2)⟩, ⟨by repeat (first | (with_reducible first | exact HB.out | apply below_alloc | apply pw_below_drewN | apply below_drew1) | exact HB.out)⟩⟩
          ·as_aux_lemma =>
           rw [if_neg c51] at H
           have c51b0 : (t876 != t880) = false := by simpa using c51
           (try (have c51b1 : decide (t876 = t880) = true := by simpa using c51))
           (try (have c51b2 : (t876 == t880) = true := by simpa using c51))
           clear c51
           replace H := Option.bind_eq_some_iff.mp H
           obtain ⟨t884, A540, H⟩ := H
           replace H : (if t884 = true then ((impl_IsMarkov.f kj17 t864).bind fun t885 => (laws_FnMarkovMoves.j3 kj17 l1 t864 t867 t868 t875 t876 (t868 != t885))) else (laws_FnMarkovMoves.j3 kj17 l1 t864 t867 t868 t875 t876 true)) = some r := H
           have A54 := Aside0.mk A540
           clear A540
           by_cases c55 : t884 = true
           ·as_aux_lemma =>
            subst c55
            have H1 : ((impl_IsMarkov.f kj17 t864).bind fun t885 => (laws_FnMarkovMoves.j3 kj17 l1 t864 t867 t868 t875 t876 (t868 != t885))) = some r := by rw [if_pos rfl] at H; exact H
            clear H; have H := H1; clear H1
            replace H := Option.bind_eq_some_iff.mp H
            obtain ⟨t885, A560, H⟩ := H
            replace H : (laws_FnMarkovMoves.j3 kj17 l1 t864 t867 t868 t875 t876 (t868 != t885)) = some r := H
            have A56 := Aside0.mk A560
            clear A560
            have H' := Aside0.mk H
            clear H
            obtain ⟨Ao57, co57, eo57⟩ := Kd.S_slice HO870.out
            subst eo57
            obtain ⟨Ao58, co58, eo58⟩ := Kd.S_slice HO874.out
            subst eo58
            go_wp2_with (first | (go_at_call 43; (with_reducible refine (laws_dLists.calls kj17 _ _ t867 _ _ t871 true _ ?side1 ?side2 ?side3 ?side4 A49.out).mono ?_); (case side1 => repeat (first | exact (Kd.S_reads' HO870.out).2.2 | (with_reducible refine Kd.C_alloc ?_ _) | (with_reducible refine Kd.C_drewN ?_ _) | (with_reducible refine Kd.C_drew ?_))); (case side2 => exact (Kd.S_reads' HO870.out).2.1); (case side3 => repeat (first | exact (Kd.S_reads' HO874.out).2.2 | (with_reducible refine Kd.C_alloc ?_ _) | (with_reducible refine Kd.C_drewN ?_ _) | (with_reducible refine Kd.C_drew ?_))); (case side4 => exact (Kd.S_reads' HO874.out).2.1); rintro e w' ⟨rfl, ⟨nd, rfl⟩⟩; obtain ⟨Ao59, co59, eo59⟩ := Kd.R_slice HO878.out; subst eo59; obtain ⟨Ao60, co60, eo60⟩ := Kd.R_slice HO882.out; subst eo60) | (go_at_call 40; (with_reducible refine (laws_dSame.calls kj17 _ _ t875 _ _ t879 true _ ?side1 ?side2 ?side3 ?side4 A54.out).mono ?_); (case side1 => repeat (first | exact (Kd.R_reads' HO878.out).2.2 | (with_reducible refine Kd.C_alloc ?_ _) | (with_reducible refine Kd.C_drewN ?_ _) | (with_reducible refine Kd.C_drew ?_))); (case side2 => exact (Kd.R_reads' HO878.out).2.1); (case side3 => repeat (first | exact (Kd.R_reads' HO882.out).2.2 | (with_reducible refine Kd.C_alloc ?_ _) | (with_reducible refine Kd.C_drewN ?_ _) | (with_reducible refine Kd.C_drew ?_))); (case side4 => exact (Kd.R_reads' HO882.out).2.1); rintro e w' ⟨rfl, ⟨nd, rfl⟩⟩) | (go_at_call 48; (with_reducible refine (impl_IsMarkov.calls kj17 _ _ t864 t885 _ ?side1 ?side2 A56.out).mono ?_); (case side1 => repeat (first | exact (Kd.R_reads' HO866.out).2.2 | (with_reducible refine Kd.C_alloc ?_ _) | (with_reducible refine Kd.C_drewN ?_ _) | (with_reducible refine Kd.C_drew ?_))); (case side2 => exact (Kd.R_reads' HO866.out).2.1); rintro e w61 ⟨rfl, hb⟩; have n0_ := Aside0.mk (Kd.R_below (by (with_reducible repeat (first | apply Kd.R_alloc | apply Kd.R_drewN | apply Kd.R_drew)); exact HO866.out) hb); have n1_ := Aside0.mk (Kd.S_below (by (with_reducible repeat (first | apply Kd.S_alloc | apply Kd.S_drewN | apply Kd.S_drew)); exact HO870.out) hb); have n2_ := Aside0.mk (Kd.S_below (by (with_reducible repeat (first | apply Kd.S_alloc | apply Kd.S_drewN | apply Kd.S_drew)); exact HO874.out) hb); have n3_ := Aside0.mk (Kd.R_below (by (with_reducible repeat (first | apply Kd.R_alloc | apply Kd.R_drewN | apply Kd.R_drew)); exact HO878.out) hb); have n4_ := Aside0.mk (Kd.R_below (by (with_reducible repeat (first | apply Kd.R_alloc | apply Kd.R_drewN | apply Kd.R_drew)); exact HO882.out) hb); have n5_ := Aside0.mk (below_step (by repeat (first | (with_reducible first | exact HB.out | apply below_alloc | apply pw_below_drewN | apply below_drew1) | exact HB.out)) hb); clear HO866; clear HO870; clear HO874; clear HO878; clear HO882; clear HB; have HO866 := n0_; have HO870 := n1_; have HO874 := n2_; have HO878 := n3_; have HO882 := n4_; have HB := n5_; clear n0_ n1_ n2_ n3_ n4_ n5_; (try clear hb); (try clear hb2); (try clear hk); (try clear hi)))
            go_meet
            case rel => exact ⟨_, ((t868 != t885)), (by first | rfl | (simp; done) | (simp [*]; done)), H', ⟨by have := HJ7.out; have := HJ17.out; first | omega | exact Nat.le_refl _⟩, ⟨by (with_reducible repeat (first | apply Kd.R_alloc | apply Kd.R_drewN | apply Kd.R_drew)); exact Kd.R_mono HO866.out (fun _ hk => hk.1.2)⟩, ⟨by (with_reducible repeat (first | apply Kd.S_alloc | apply Kd.S_drewN | apply Kd.S_drew)); exact Kd.S_mono HO870.out (fun _ hk => ⟨hk.1.1.1.2, hk.1.2⟩)⟩, ⟨by (with_reducible repeat (first | apply Kd.R_alloc | apply Kd.R_drewN | apply Kd.R_drew)); exact Kd.R_mono HO878.out (fun _ hk => hk.1.2)⟩, ⟨by repeat (first | (with_reducible first | exact HB.out | apply below_alloc | apply pw_below_drewN | apply below_drew1) | exact HB.out)⟩⟩
           ·as_aux_lemma =>
            replace c55 := Bool.eq_false_iff.mpr c55
            subst c55
            have H1 : (laws_FnMarkovMoves.j3 kj17 l1 t864 t867 t868 t875 t876 true) = some r := by rw [if_neg (show ¬ (false = true) by decide)] at H; exact H
            clear H; have H := H1; clear H1
            have H' := Aside0.mk H
            clear H
            obtain ⟨Ao62, co62, eo62⟩ := Kd.S_slice HO870.out
            subst eo62
            obtain ⟨Ao63, co63, eo63⟩ := Kd.S_slice HO874.out
            subst eo63
            go_wp2_with (first | (go_at_call 43; (with_reducible refine (laws_dLists.calls kj17 _ _ t867 _ _ t871 true _ ?side1 ?side2 ?side3 ?side4 A49.out).mono ?_); (case side1 => repeat (first | exact (Kd.S_reads' HO870.out).2.2 | (with_reducible refine Kd.C_alloc ?_ _) | (with_reducible refine Kd.C_drewN ?_ _) | (with_reducible refine Kd.C_drew ?_))); (case side2 => exact (Kd.S_reads' HO870.out).2.1); (case side3 => repeat (first | exact (Kd.S_reads' HO874.out).2.2 | (with_reducible refine Kd.C_alloc ?_ _) | (with_reducible refine Kd.C_drewN ?_ _) | (with_reducible refine Kd.C_drew ?_))); (case side4 => exact (Kd.S_reads' HO874.out).2.1); rintro e w' ⟨rfl, ⟨nd, rfl⟩⟩; obtain ⟨Ao64, co64, eo64⟩ := Kd.R_slice HO878.out; subst eo64; obtain ⟨Ao65, co65, eo65⟩ := Kd.R_slice HO882.out; subst eo65) | (go_at_call 40; (with_reducible refine (laws_dSame.calls kj17 _ _ t875 _ _ t879 false _ ?side1 ?side2 ?side3 ?side4 A54.out).mono ?_); (case side1 => repeat (first | exact (Kd.R_reads' HO878.out).2.2 | (with_reducible refine Kd.C_alloc ?_ _) | (with_reducible refine Kd.C_drewN ?_ _) | (with_reducible refine Kd.C_drew ?_))); (case side2 => exact (Kd.R_reads' HO878.out).2.1); (case side3 => repeat (first | exact (Kd.R_reads' HO882.out).2.2 | (with_reducible refine Kd.C_alloc ?_ _) | (with_reducible refine Kd.C_drewN ?_ _) | (with_reducible refine Kd.C_drew ?_))); (case side4 => exact (Kd.R_reads' HO882.out).2.1); rintro e w' ⟨rfl, ⟨nd, rfl⟩⟩))
            go_meet
            case rel => exact ⟨_, (true), (by first | rfl | (simp; done) | (simp [*]; done)), H', ⟨by have := HJ7.out; have := HJ17.out; first | omega | exact Nat.le_refl _⟩, ⟨by (with_reducible repeat (first | apply Kd.R_alloc | apply Kd.R_drewN | apply Kd.R_drew)); exact Kd.R_mono HO866.out (fun _ hk => hk.1.2)⟩, ⟨by (with_reducible repeat (first | apply Kd.S_alloc | apply Kd.S_drewN | apply Kd.S_drew)); exact Kd.S_mono HO870.out (fun _ hk => ⟨hk.1.1.1.2, hk.1.2⟩)⟩, ⟨by (with_reducible repeat (first | apply Kd.R_alloc | apply Kd.R_drewN | apply Kd.R_drew)); exact Kd.R_mono HO878.out (fun _ hk => hk.1.2)⟩, ⟨by repeat (first | (with_reducible first | exact HB.out | apply below_alloc | apply pw_below_drewN | apply below_drew1) | exact HB.out)⟩⟩
         ·as_aux_lemma =>
          replace c50 := Bool.eq_false_iff.mpr c50
          subst c50
          have H1 : (laws_FnMarkovMoves.j3 kj17 l1 t864 t867 t868 t875 t876 true) = some r := by rw [if_neg (show ¬ (false = true) by decide)] at H; exact H
          clear H; have H := H1; clear H1
          have H' := Aside0.mk H
          clear H
          obtain ⟨Ao66, co66, eo66⟩ := Kd.S_slice HO870.out
          subst eo66
          obtain ⟨Ao67, co67, eo67⟩ := Kd.S_slice HO874.out
          subst eo67
          go_wp2_with (first | (go_at_call 43; (with_reducible refine (laws_dLists.calls kj17 _ _ t867 _ _ t871 false _ ?side1 ?side2 ?side3 ?side4 A49.out).mono ?_); (case side1 => repeat (first | exact (Kd.S_reads' HO870.out).2.2 | (with_reducible refine Kd.C_alloc ?_ _) | (with_reducible refine Kd.C_drewN ?_ _) | (with_reducible refine Kd.C_drew ?_))); (case side2 => exact (Kd.S_reads' HO870.out).2.1); (case side3 => repeat (first | exact (Kd.S_reads' HO874.out).2.2 | (with_reducible refine Kd.C_alloc ?_ _) | (with_reducible refine Kd.C_drewN ?_ _) | (with_reducible refine Kd.C_drew ?_))); (case side4 => exact (Kd.S_reads' HO874.out).2.1); rintro e w' ⟨rfl, ⟨nd, rfl⟩⟩))
          go_meet
          case rel => exact ⟨_, (true), (by first | rfl | (simp; done) | (simp [*]; done)), H', ⟨by have := HJ7.out; have := HJ17.out; first | omega | exact Nat.le_refl _⟩, ⟨by (with_reducible repeat (first | apply Kd.R_alloc | apply Kd.R_drewN | apply Kd.R_drew)); exact Kd.R_mono HO866.out (fun _ hk => hk.1.2)⟩, ⟨by (with_reducible repeat (first | apply Kd.S_alloc | apply Kd.S_drewN | apply Kd.S_drew)); exact Kd.S_mono HO870.out (fun _ hk => ⟨hk.1.1.1.2, hk.1.2⟩)⟩, ⟨by (with_reducible repeat (first | apply Kd.R_alloc | apply Kd.R_drewN | apply Kd.R_drew)); exact Kd.R_mono HO878.out (fun _ hk => hk.1.2)⟩, ⟨by repeat (first | (with_reducible first | exact HB.out | apply below_alloc | apply pw_below_drewN | apply below_drew1) | exact HB.out)⟩⟩
       case rest => as_aux_lemma =>
        clear HC41
        try clear c1
        try clear c2
        try clear p2
        try clear c3
        try clear c4
        try clear c5
        try clear p6
        try clear c13
        try clear c13b0
        try clear c13b1
        try clear c13b2
        try clear c14
        try clear c17
        try clear c19
        try clear c21
        try clear c23
        try clear c24
        try clear c24b0
        try clear c26
        try clear c27
        try clear c28
        try clear c33
        try clear c38
        try clear c48
        try clear c48b0
        try clear c48b1
        try clear c48b2
        try clear c50
        try clear c51
        try clear c51b0
        try clear c51b1
        try clear c51b2
        try clear c52
        try clear c53
        try clear c55
        try clear p64
        try clear p2
        try clear p6
        obtain ⟨kq, x136_40, rfl, HA, HJ40, HO_15, HO_16, HO_20, HB⟩ := hcut
        cases kq with
        | zero => exact absurd HA.out (by simp [laws_FnMarkovMoves.j3])
        | succ kj40 =>
         have H := HA.out; clear HA
         simp only [laws_FnMarkovMoves.j3] at H
         by_cases c68 : x136_40 = true
         ·subst c68
          have H1 : (some false) = some r := by rw [if_pos rfl] at H; exact H
          clear H; have H := H1; clear H1
          obtain rfl := Option.some.inj H
          go_wp2
          go_ret
          exact ⟨by first | rfl | (simp [errW_none, errW_some] <;> rfl) | (simp [*, errW_none, errW_some] <;> rfl), by repeat (first | (with_reducible first | exact HB.out | apply below_alloc | apply pw_below_drewN | apply below_drew1) | exact HB.out)⟩
         ·as_aux_lemma =>
          replace c68 := Bool.eq_false_iff.mpr c68
          subst c68
          have H1 : (if t868 = true then (if 2 < (t864.length : Int) then (if (t876 != (decide ((rd t864 2) > 1))) = true then (some false) else (laws_FnMarkovMoves.l1 kj40 l1 t864 t875 t876 t867 (t867.length : Int) 0)) else (none)) else (laws_FnMarkovMoves.j7 kj40 l1)) = some r := by rw [if_neg (show ¬ (false = true) by decide)] at H; exact H
          clear H; have H := H1; clear H1
          have HC69 := Aside0.mk H
          clear H
          go_upto_if 137 with (fail)
          go_cut [] (fun wc => ∃ (kq : Nat), Aside0 (laws_FnMarkovMoves.j7 kq l1 = some r) ∧ Aside0 (kq ≤ kj40) ∧ Aside0 (Below w.heap.size w wc))
          case first => as_aux_lemma =>
           have H := HC69.out; clear HC69
           by_cases c70 : t868 = true
           ·as_aux_lemma =>
            subst c70
            have H1 : (if 2 < (t864.length : Int) then (if (t876 != (decide ((rd t864 2) > 1))) = true then (some false) else (laws_FnMarkovMoves.l1 kj40 l1 t864 t875 t876 t867 (t867.length : Int) 0)) else (none)) = some r := by rw [if_pos rfl] at H; exact H
            clear H; have H := H1; clear H1
            by_cases c71 : 2 < (t864.length : Int)
            rotate_left
            ·rw [if_neg c71] at H
             exact absurd H (by simp)
            as_aux_lemma =>
            rw [if_pos c71] at H
            have c71b0 : decide (2 < (t864.length : Int)) = true := decide_eq_true c71
            have c71b1 : decide (2 < t864.length) = true := decide_eq_true (by omega)
            clear c71
            (first | rw [c71b0] | (simp only [i64_w, i32_w]; rw [c71b0]) | skip)
            by_cases c72 : (t876 != (decide ((rd t864 2) > 1))) = true
            ·as_aux_lemma =>
             rw [if_pos c72] at H
             have c72b0 : (t876 != (decide ((rd t864 2) > 1))) = true := c72
             (try (have c72b1 : decide (t876 = (decide ((rd t864 2) > 1))) = false := by simpa using c72))
             (try (have c72b2 : (t876 == (decide ((rd t864 2) > 1))) = false := by simpa using c72))
             (try (have c72b3 : ¬ (t876 = (decide ((rd t864 2) > 1))) := by simpa using c72))
             clear c72
             obtain rfl := Option.some.inj H
             have p886 : 0 ≤ (2 : Int) := (by omega)
             have q886 : 2 < (t864.length : Int) := of_decide_eq_true (by first | (with_reducible assumption) | assumption)
             obtain ⟨ad886, e886, hx886_0⟩ := Kd.at_int (Kd.R_reads' HO_15.out).2.2 2 p886 q886
             cases e886
             (try simp only [show (2 : Int).toNat = 2 from rfl, Nat.reduceMul, Nat.reduceEqDiff, Go.Addr.add, ↓reduceIte] at hx886_0)
             have qi886 : (2 < t864.length) = True := eq_true (by omega)
             (try rw [show ((2 : Int)).toNat = 2 from rfl] at hx886_0)
             replace p886 := eq_true p886; replace q886 := eq_true q886
             go_wp2
             go_ret
             exact ⟨by first | rfl | (simp [errW_none, errW_some] <;> rfl) | (simp [*, errW_none, errW_some] <;> rfl), by repeat (first | (with_reducible first | exact HB.out | apply below_alloc | apply pw_below_drewN | apply below_drew1) | exact HB.out)⟩
            ·as_aux_lemma =>
             rw [if_neg c72] at H
             have c72b0 : (t876 != (decide ((rd t864 2) > 1))) = false := by simpa using c72
             (try (have c72b1 : decide (t876 = (decide ((rd t864 2) > 1))) = true := by simpa using c72))
             (try (have c72b2 : (t876 == (decide ((rd t864 2) > 1))) = true := by simpa using c72))
             clear c72
             have H' := Aside0.mk H
             clear H
             have p886 : 0 ≤ (2 : Int) := (by omega)
             have q886 : 2 < (t864.length : Int) := of_decide_eq_true (by first | (with_reducible assumption) | assumption)
             obtain ⟨ad886, e886, hx886_0⟩ := Kd.at_int (Kd.R_reads' HO_15.out).2.2 2 p886 q886
             cases e886
             (try simp only [show (2 : Int).toNat = 2 from rfl, Nat.reduceMul, Nat.reduceEqDiff, Go.Addr.add, ↓reduceIte] at hx886_0)
             have qi886 : (2 < t864.length) = True := eq_true (by omega)
             (try rw [show ((2 : Int)).toNat = 2 from rfl] at hx886_0)
             replace p886 := eq_true p886; replace q886 := eq_true q886
             obtain ⟨Ao73, co73, eo73⟩ := Kd.S_slice HO_16.out
             subst eo73
             go_wp2
             go_loopg [146] kj40 (fun kq v146 w' => ∃ (x146_4 : Int), v146 = .int .i64 x146_4 ∧ Aside0 (laws_FnMarkovMoves.l1 kq l1 t864 t875 t876 t867 (t867.length : Int) x146_4 = some r) ∧ Aside0 (kq ≤ kj40) ∧ Aside0 (Kd.R (Kd.int .i64) 3 w' w.heap.size (fun k_ => some k_ ≠ (v877 : Value).ownBlock) (.slice (some ad886) t864.length co43) t864) ∧ Aside0 (Kd.R (Kd.int .i64) 3 w' w.heap.size (fun k_ => some k_ ≠ ((.slice (some ad886) t864.length co43) : Value).ownBlock) v877 t875) ∧ Aside0 (Kd.S (Kd.slice 3 (Kd.int .i64)) 22 w' w.heap.size (fun k_ => some k_ ≠ ((.slice (some ad886) t864.length co43) : Value).ownBlock ∧ some k_ ≠ (v877 : Value).ownBlock) (.slice Ao73 t867.length co73) t867) ∧ Aside0 (Below w.heap.size w w'))
             case atStart => exact ⟨(0), (by first | rfl | (simp; done) | (simp [*]; done)), H', ⟨Nat.le_refl _⟩, ⟨by (with_reducible repeat (first | apply Kd.R_alloc | apply Kd.R_drewN | apply Kd.R_drew)); exact HO_15.out⟩, ⟨by (with_reducible repeat (first | apply Kd.R_alloc | apply Kd.R_drewN | apply Kd.R_drew)); exact HO_20.out⟩, ⟨by (with_reducible repeat (first | apply Kd.S_alloc | apply Kd.S_drewN | apply Kd.S_drew)); exact HO_16.out⟩, ⟨by repeat (first | (with_reducible first | exact HB.out | apply below_alloc | apply pw_below_drewN | apply below_drew1) | exact HB.out)⟩⟩
             case round => as_aux_lemma =>
              clear H'
              try clear c1
              try clear c2
              try clear p2
              try clear c3
              try clear c4
              try clear c5
              try clear c6
              try clear p6
              try clear c7
              try clear p8
              try clear q8
              try clear hx8
              try clear qi8
              try clear c13
              try clear c13b0
              try clear c13b1
              try clear c13b2
              try clear c14
              try clear c17
              try clear c19
              try clear c21
              try clear c23
              try clear c24
              try clear c24b0
              try clear c26
              try clear c27
              try clear c28
              try clear c33
              try clear c38
              try clear c48
              try clear c48b0
              try clear c48b1
              try clear c48b2
              try clear c50
              try clear c51
              try clear c51b0
              try clear c51b1
              try clear c51b2
              try clear c52
              try clear c53
              try clear c55
              try clear p64
              try clear c68
              try clear c70
              try clear c71
              try clear c71b0
              try clear c71b1
              try clear c72
              try clear c72b0
              try clear c72b1
              try clear c72b2
              try clear hx886_0
              try clear p2
              try clear p6
              try clear p64
              try clear p886
              try clear q886
              obtain ⟨x146_4, rfl, HA, HK4, HO_15, HO_20, HO_144, HB⟩ := hrel
              cases gk with
              | zero => exact absurd HA.out (by simp [laws_FnMarkovMoves.l1])
              | succ k4 =>
               have H := HA.out; clear HA
               simp only [laws_FnMarkovMoves.l1] at H
               by_cases c74 : x146_4 < (t867.length : Int)
               ·as_aux_lemma =>
                rw [if_pos c74] at H
                have c74b0 : decide (x146_4 < (t867.length : Int)) = true := decide_eq_true c74
                clear c74
                by_cases c75 : 0 ≤ x146_4
                rotate_left
                ·rw [if_neg c75] at H
                 exact absurd H (by simp)
                as_aux_lemma =>
                rw [if_pos c75] at H
                have c75b0 : decide (0 ≤ x146_4) = true := decide_eq_true c75
                clear c75
                by_cases c76 : x146_4 < (t867.length : Int)
                rotate_left
                ·rw [if_neg c76] at H
                 exact absurd H (by simp)
                as_aux_lemma =>
                rw [if_pos c76] at H
                have c76b0 : decide (x146_4 < (t867.length : Int)) = true := decide_eq_true c76
                clear c76
                replace H := Option.bind_eq_some_iff.mp H
                obtain ⟨⟨t888, t889⟩, A770, H⟩ := H
                replace H : (if t889 = true then ((laws_dSame.f k4 t888 t864).bind fun t892 => (if t892 = true then (if 2 < ((rd_L1 t867 x146_4).length : Int) then (if 2 < (t864.length : Int) then (laws_FnMarkovMoves.j5 k4 l1 t864 t875 t876 t867 (t867.length : Int) x146_4 (decide ((rd (rd_L1 t867 x146_4) 2) ≤ (rd t864 2)))) else (none)) else (none)) else (laws_FnMarkovMoves.j5 k4 l1 t864 t875 t876 t867 (t867.length : Int) x146_4 true))) else (laws_FnMarkovMoves.j5 k4 l1 t864 t875 t876 t867 (t867.length : Int) x146_4 true)) = some r := H
                have A77 := Aside0.mk A770
                clear A770
                have HC78 := Aside0.mk H
                clear H
                have p887 : 0 ≤ (x146_4 : Int) := of_decide_eq_true (by first | (with_reducible assumption) | assumption)
                have q887 : x146_4 < (t867.length : Int) := of_decide_eq_true (by first | (with_reducible assumption) | assumption)
                obtain ⟨ad887, A887_0, c887_0, e887, hx887_0, hl887_0, hi887_0⟩ := at_L1 (Kd.S_reads' HO_144.out).2.2 x146_4 p887 q887
                cases e887
                obtain ⟨ce887, hce887, hMe887, hcc887⟩ := Kd.S_get HO_144.out [] x146_4 p887 (by first | exact q887 | exact of_decide_eq_true (by first | (with_reducible assumption) | assumption) | (have e_ := (Kd.S_reads' HO_144.out).1; omega))
                obtain ⟨ve887_0, rfl, ge887_0⟩ := hMe887
                have hv887_0 := hcc887 0 _ rfl
                rw [Nat.add_zero, show ((Kd.slice 3 (Kd.int .i64))).sz = 1 from rfl, Nat.mul_one] at hv887_0
                replace hv887_0 := Option.some.inj (hv887_0.symm.trans hx887_0)
                rw [hv887_0] at ge887_0
                have HL887_0 := Aside0.mk (show Kd.R (Kd.int .i64) 3 _ _ _ _ (rd_L1 t867 x146_4) from ge887_0)
                clear hv887_0 ge887_0; clear hcc887 hce887
                have HR887_0 := Aside0.mk hi887_0
                have HC887_0 := Aside0.mk hl887_0
                clear hi887_0 hl887_0; replace p887 := eq_true p887; replace q887 := eq_true q887
                go_upto_region 33 with (first | ((with_reducible refine gate_callee (f := 24) rfl ?_); refine goesL_ (some 152) rfl rfl Try.func24 (by kernel_rfl) rfl #[.slice A887_0 (rd_L1 t867 x146_4).length c887_0] rfl (by (try simp only [List.map_toArray, List.map_cons, List.map_nil]); first | done | rfl) ?_; (with_reducible refine (impl_MarkovDown.calls k4 _ _ (rd_L1 t867 x146_4) t888 t889 _ ?side1 ?side2 A77.out).mono ?_); (case side1 => repeat (first | exact (by repeat (first | (with_reducible exact HR887_0.out) | (with_reducible refine Kd.C_alloc ?_ _) | (with_reducible refine Kd.C_drewN ?_ _) | (with_reducible refine Kd.C_drew ?_) | exact HR887_0.out)) | (with_reducible refine Kd.C_alloc ?_ _) | (with_reducible refine Kd.C_drewN ?_ _) | (with_reducible refine Kd.C_drew ?_))); (case side2 => exact HC887_0.out); rintro e w79 ⟨v890, rfl, ho0, hb⟩; refine ⟨_, rfl, ?_⟩; have n0_ := Aside0.mk (Kd.R_elder' (by (with_reducible repeat (first | apply Kd.R_alloc | apply Kd.R_drewN | apply Kd.R_drew)); exact HO_15.out) (Kd.R_base ho0) hb); have n1_ := Aside0.mk (Kd.R_elder' (by (with_reducible repeat (first | apply Kd.R_alloc | apply Kd.R_drewN | apply Kd.R_drew)); exact HO_20.out) (Kd.R_base ho0) hb); have n2_ := Aside0.mk (Kd.S_elder' (by (with_reducible repeat (first | apply Kd.S_alloc | apply Kd.S_drewN | apply Kd.S_drew)); exact HO_144.out) (Kd.R_base ho0) hb); have n3_ := Aside0.mk (Kd.R_elder' (by (with_reducible repeat (first | apply Kd.R_alloc | apply Kd.R_drewN | apply Kd.R_drew)); exact HL887_0.out) (Kd.R_base ho0) hb); have n4_ := Aside0.mk (Kd.R_lower (Kd.R_new' (Kd.R_new' (Kd.R_new' ho0 (Kd.R_lt (by (with_reducible repeat (first | apply Kd.R_alloc | apply Kd.R_drewN | apply Kd.R_drew)); exact HO_15.out))) (Kd.R_lt (by (with_reducible repeat (first | apply Kd.R_alloc | apply Kd.R_drewN | apply Kd.R_drew)); exact HO_20.out))) (Kd.R_lt (by (with_reducible repeat (first | apply Kd.R_alloc | apply Kd.R_drewN | apply Kd.R_drew)); exact HL887_0.out))) (below_size (by repeat (first | (with_reducible first | exact HB.out | apply below_alloc | apply pw_below_drewN | apply below_drew1) | exact HB.out)))); have n5_ := Aside0.mk (Kd.C_below (by repeat (first | (with_reducible exact HR887_0.out) | (with_reducible refine Kd.C_alloc ?_ _) | (with_reducible refine Kd.C_drewN ?_ _) | (with_reducible refine Kd.C_drew ?_) | exact HR887_0.out)) hb); have n6_ := Aside0.mk (below_step (by repeat (first | (with_reducible first | exact HB.out | apply below_alloc | apply pw_below_drewN | apply below_drew1) | exact HB.out)) hb); clear HO_15; clear HO_20; clear HO_144; clear HL887_0; clear HR887_0; clear HB; have HO_15 := n0_; have HO_20 := n1_; have HO_144 := n2_; have HL887_0 := n3_; have HO891 := n4_; have HR887_0 := n5_; have HB := n6_; clear n0_ n1_ n2_ n3_ n4_ n5_ n6_; (try clear hb); (try clear hb2); (try clear hk); (try clear hi); (try clear ho0)))
                (try simp only [Act.put, List.setIfInBounds_toArray, List.set_cons_zero, List.set_cons_succ])
                go_cut [171] (fun v171 wc => ∃ (kq : Nat) (x171_77 : Bool), v171 = .bool x171_77 ∧ Aside0 (laws_FnMarkovMoves.j5 kq l1 t864 t875 t876 t867 (t867.length : Int) x146_4 x171_77 = some r) ∧ Aside0 (kq ≤ k4) ∧ Aside0 (Kd.R (Kd.int .i64) 3 wc w.heap.size (fun k_ => some k_ ≠ (v877 : Value).ownBlock) (.slice (some ad886) t864.length co43) t864) ∧ Aside0 (Kd.R (Kd.int .i64) 3 wc w.heap.size (fun k_ => some k_ ≠ ((.slice (some ad886) t864.length co43) : Value).ownBlock) v877 t875) ∧ Aside0 (Kd.S (Kd.slice 3 (Kd.int .i64)) 22 wc w.heap.size (fun k_ => some k_ ≠ ((.slice (some ad886) t864.length co43) : Value).ownBlock ∧ some k_ ≠ (v877 : Value).ownBlock) (.slice (some ad887) t867.length co73) t867) ∧ Aside0 (Kd.C (Kd.int .i64) wc A887_0 (rd_L1 t867 x146_4).length (rd_L1 t867 x146_4)) ∧ Aside0 (Below w.heap.size w wc))
                case first => as_aux_lemma =>
                 have H := HC78.out; clear HC78
                 by_cases c80 : t889 = true
                 ·as_aux_lemma =>
                  subst c80
                  have H1 : ((laws_dSame.f k4 t888 t864).bind fun t892 => (if t892 = true then (if 2 < ((rd_L1 t867 x146_4).length : Int) then (if 2 < (t864.length : Int) then (laws_FnMarkovMoves.j5 k4 l1 t864 t875 t876 t867 (t867.length : Int) x146_4 (decide ((rd (rd_L1 t867 x146_4) 2) ≤ (rd t864 2)))) else (none)) else (none)) else (laws_FnMarkovMoves.j5 k4 l1 t864 t875 t876 t867 (t867.length : Int) x146_4 true))) = some r := by rw [if_pos rfl] at H; exact H
                  clear H; have H := H1; clear H1
                  replace H := Option.bind_eq_some_iff.mp H
                  obtain ⟨t892, A810, H⟩ := H
                  replace H : (if t892 = true then (if 2 < ((rd_L1 t867 x146_4).length : Int) then (if 2 < (t864.length : Int) then (laws_FnMarkovMoves.j5 k4 l1 t864 t875 t876 t867 (t867.length : Int) x146_4 (decide ((rd (rd_L1 t867 x146_4) 2) ≤ (rd t864 2)))) else (none)) else (none)) else (laws_FnMarkovMoves.j5 k4 l1 t864 t875 t876 t867 (t867.length : Int) x146_4 true)) = some r := H
                  have A81 := Aside0.mk A810
                  clear A810
                  by_cases c82 : t892 = true
                  ·as_aux_lemma =>
                   subst c82
                   have H1 : (if 2 < ((rd_L1 t867 x146_4).length : Int) then (if 2 < (t864.length : Int) then (laws_FnMarkovMoves.j5 k4 l1 t864 t875 t876 t867 (t867.length : Int) x146_4 (decide ((rd (rd_L1 t867 x146_4) 2) ≤ (rd t864 2)))) else (none)) else (none)) = some r := by rw [if_pos rfl] at H; exact H
                   clear H; have H := H1; clear H1
                   by_cases c83 : 2 < ((rd_L1 t867 x146_4).length : Int)
                   rotate_left
                   ·rw [if_neg c83] at H
                    exact absurd H (by simp)
                   as_aux_lemma =>
                   rw [if_pos c83] at H
                   have c83b0 : decide (2 < ((rd_L1 t867 x146_4).length : Int)) = true := decide_eq_true c83
                   have c83b1 : decide (2 < (rd_L1 t867 x146_4).length) = true := decide_eq_true (by omega)
                   clear c83
                   (first | rw [c83b0] | (simp only [i64_w, i32_w]; rw [c83b0]) | skip)
                   by_cases c84 : 2 < (t864.length : Int)
                   rotate_left
                   ·rw [if_neg c84] at H
                    exact absurd H (by simp)
                   as_aux_lemma =>
                   rw [if_pos c84] at H
                   have c84b0 : decide (2 < (t864.length : Int)) = true := decide_eq_true c84
                   have c84b1 : decide (2 < t864.length) = true := decide_eq_true (by omega)
                   clear c84
                   have H' := Aside0.mk H
                   clear H
                   try go_wp2
                   have n0_ := Aside0.mk (Kd.R_drew HO_15.out)
                   have n1_ := Aside0.mk (Kd.R_drew HO_20.out)
                   have n2_ := Aside0.mk (Kd.S_drew HO_144.out)
                   have n3_ := Aside0.mk (Kd.R_drew HL887_0.out)
                   have n4_ := Aside0.mk (Kd.R_drew HO891.out)
                   have n5_ := Aside0.mk (Kd.C_drew HR887_0.out)
                   have n6_ := Aside0.mk (below_drew1 HB.out)
                   clear HO_15; clear HO_20; clear HO_144; clear HL887_0; clear HO891; clear HR887_0; clear HB; have HO_15 := n0_; have HO_20 := n1_; have HO_144 := n2_; have HL887_0 := n3_; have HO891 := n4_; have HR887_0 := n5_; have HB := n6_; clear n0_ n1_ n2_ n3_ n4_ n5_ n6_
                   obtain ⟨Ao86, co86, eo86⟩ := Kd.R_slice HO891.out
                   (first | subst eo86 | (injection eo86 with f1_ f2_ f3_; have f4_ := f1_.symm; have f5_ := f3_.symm; clear f1_ f2_ f3_; subst f4_; subst f5_))
                   have p894 : 0 ≤ (2 : Int) := (by omega)
                   have q894 : 2 < (t864.length : Int) := of_decide_eq_true (by first | (with_reducible assumption) | assumption)
                   obtain ⟨ad894, e894, hx894_0⟩ := Kd.at_int (Kd.R_reads' HO_15.out).2.2 2 p894 q894
                   obtain rfl : ad886 = ad894 := (by injection e894)
                   (try simp only [show (2 : Int).toNat = 2 from rfl, Nat.reduceMul, Nat.reduceEqDiff, Go.Addr.add, ↓reduceIte] at hx894_0)
                   have qi894 : (2 < t864.length) = True := eq_true (by omega)
                   (try rw [show ((2 : Int)).toNat = 2 from rfl] at hx894_0)
                   replace p894 := eq_true p894; replace q894 := eq_true q894
                   have p893 : 0 ≤ (2 : Int) := (by omega)
                   have q893 : 2 < ((rd_L1 t867 x146_4).length : Int) := of_decide_eq_true (by first | (with_reducible assumption) | assumption)
                   obtain ⟨ad893, e893, hx893_0⟩ := Kd.at_int (by repeat (first | (with_reducible exact HR887_0.out) | (with_reducible refine Kd.C_alloc ?_ _) | (with_reducible refine Kd.C_drewN ?_ _) | (with_reducible refine Kd.C_drew ?_) | exact HR887_0.out)) 2 p893 q893
                   cases e893
                   (try simp only [show (2 : Int).toNat = 2 from rfl, Nat.reduceMul, Nat.reduceEqDiff, Go.Addr.add, ↓reduceIte] at hx893_0)
                   have qi893 : (2 < (rd_L1 t867 x146_4).length) = True := eq_true (by omega)
                   (try rw [show ((2 : Int)).toNat = 2 from rfl] at hx893_0)
                   replace p893 := eq_true p893; replace q893 := eq_true q893
                   refine start_ (n := 17) (S := fun w' => w'.cell? ⟨ad893.block, ad893.off + 2, none⟩ = some (.int .i64 (rd (rd_L1 t867 x146_4) 2)) ∧ w'.cell? ⟨ad886.block, ad886.off + 2, none⟩ = some (.int .i64 (rd t864 2))) (ds := []) b0MM (by kernel_rfl) rfl rfl ⟨hx893_0, hx894_0⟩ (fun hHeld => ?_); refine with_tabW laws_FnMarkovMoves.tab33 laws_FnMarkovMoves.bits33 (fun HT_ HW_ => ?_)
                   generalize w79.drew = w85 at HO_15 HO_20 HO_144 HL887_0 HO891 HR887_0 HB hx894_0 hHeld ⊢
                   refine pure_ (i := 0) (N := some 155) (v := ?_) (a' := ?_) b1MM rfl rfl (any_of HT_.out (by kernel_rfl)) (fun _ _ _ h => h) (Or.inl ⟨by rfl, ?_⟩) ?_ ?_
                   rotate_left
                   ·intro w'
                    go_simp
                    with_reducible rfl
                   rotate_left
                   ·simp only [Act.put, List.setIfInBounds_toArray, List.set_cons_zero, List.set_cons_succ, i64_w]
                    rfl
                   refine pure_ (i := 1) (N := some 156) (v := ?_) (a' := ?_) b2MM rfl rfl (any_of HT_.out (by kernel_rfl)) (fun _ _ _ h => h) (Or.inl ⟨by rfl, ?_⟩) ?_ ?_
                   rotate_left
                   ·intro w'
                    go_simp
                    with_reducible rfl
                   rotate_left
                   ·simp only [Act.put, List.setIfInBounds_toArray, List.set_cons_zero, List.set_cons_succ, i64_w]
                    rfl
                   refine pure_ (i := 2) (N := some 157) (v := ?_) (a' := ?_) b3MM rfl rfl (any_of HT_.out (by kernel_rfl)) (fun _ _ _ h => h) (Or.inl ⟨by rfl, ?_⟩) ?_ ?_
                   rotate_left
                   ·intro w'
                    go_simp
                    with_reducible rfl
                   rotate_left
                   ·simp only [Act.put, List.setIfInBounds_toArray, List.set_cons_zero, List.set_cons_succ, i64_w]
                    rfl
                   refine pure_ (i := 3) (N := some 158) (v := ?_) (a' := ?_) b4MM rfl rfl (any_of HT_.out (by kernel_rfl)) (fun _ _ _ h => h) (Or.inl ⟨by rfl, ?_⟩) ?_ ?_
                   rotate_left
                   ·intro w'
                    go_simp
                    with_reducible rfl
                   rotate_left
                   ·simp only [Act.put, List.setIfInBounds_toArray, List.set_cons_zero, List.set_cons_succ, i64_w]
                    rfl
                   refine pure_ (i := 4) (N := some 159) (v := ?_) (a' := ?_) b5MM rfl rfl (any_of HT_.out (by kernel_rfl)) (fun _ _ _ h => h) (Or.inl ⟨by rfl, ?_⟩) ?_ ?_
                   rotate_left
                   ·intro w'
                    go_simp
                    with_reducible rfl
                   rotate_left
                   ·simp only [Act.put, List.setIfInBounds_toArray, List.set_cons_zero, List.set_cons_succ, i64_w]
                    rfl
                   refine one_ (i := 5) (N := some 160) b6MM rfl rfl (one_of HT_.out (by kernel_rfl)) (by decide) (fun K hK => ?_)
                   refine goes_ Try.func40 (by kernel_rfl) rfl #[.slice Ao86 t888.length co86, .slice (some ad886) t864.length co43] (by rfl) rfl rfl (by (try simp only [List.map_toArray, List.map_cons, List.map_nil]); first | done | rfl) ?_
                   with_reducible refine (laws_dSame.calls k4 _ _ t888 _ _ t864 true _ ?side1 ?side2 ?side3 ?side4 A81.out).mono ?_
                   (case side1 => repeat (first | exact (Kd.R_reads' HO891.out).2.2 | (with_reducible refine Kd.C_alloc ?_ _) | (with_reducible refine Kd.C_drewN ?_ _) | (with_reducible refine Kd.C_drew ?_)))
                   (case side2 => exact (Kd.R_reads' HO891.out).2.1)
                   (case side3 => repeat (first | exact (Kd.R_reads' HO_15.out).2.2 | (with_reducible refine Kd.C_alloc ?_ _) | (with_reducible refine Kd.C_drewN ?_ _) | (with_reducible refine Kd.C_drew ?_)))
                   (case side4 => exact (Kd.R_reads' HO_15.out).2.1)
                   rintro e w' ⟨rfl, ⟨nd, rfl⟩⟩
                   refine ⟨_, rfl, ?_⟩
                   have p893 : 0 ≤ (2 : Int) := (by omega)
                   have q893 : 2 < ((rd_L1 t867 x146_4).length : Int) := of_decide_eq_true (by first | (with_reducible assumption) | assumption)
                   obtain ⟨ad893x, e893, hx893_0⟩ := Kd.at_int (by repeat (first | (with_reducible exact HR887_0.out) | (with_reducible refine Kd.C_alloc ?_ _) | (with_reducible refine Kd.C_drewN ?_ _) | (with_reducible refine Kd.C_drew ?_) | exact HR887_0.out)) 2 p893 q893
                   obtain rfl : ad893 = ad893x := (by injection e893)
                   (try simp only [show (2 : Int).toNat = 2 from rfl, Nat.reduceMul, Nat.reduceEqDiff, Go.Addr.add, ↓reduceIte] at hx893_0)
                   have qi893 : (2 < (rd_L1 t867 x146_4).length) = True := eq_true (by omega)
                   (try rw [show ((2 : Int)).toNat = 2 from rfl] at hx893_0)
                   replace p893 := eq_true p893; replace q893 := eq_true q893
                   refine hK.out _ _ ⟨hHeld.1, hHeld.2⟩ (fun hHeld => ?_)
                   clear hK K
                   refine norm_ (a' := ?_) ?_ ?_
                   rotate_left
                   ·show Act.put _ (some 160) _ = _
                    simp only [Act.put, List.setIfInBounds_toArray, List.set_cons_zero, List.set_cons_succ, i64_w]
                    rfl
                   refine pure_ (i := 6) (N := some 161) (v := ?_) (a' := ?_) b7MM rfl rfl (any_of HT_.out (by kernel_rfl)) (fun _ _ _ h => h) (Or.inl ⟨by rfl, ?_⟩) ?_ ?_
                   rotate_left
                   ·intro w'
                    go_simp
                    with_reducible rfl
                   rotate_left
                   ·simp only [Act.put, List.setIfInBounds_toArray, List.set_cons_zero, List.set_cons_succ, i64_w]
                    rfl
                   refine pure_ (i := 7) (N := some 162) (v := ?_) (a' := ?_) b8MM rfl rfl (any_of HT_.out (by kernel_rfl)) (fun _ _ _ h => h) (Or.inl ⟨by rfl, ?_⟩) ?_ ?_
                   rotate_left
                   ·intro w'
                    go_simp
                    with_reducible rfl
                   rotate_left
                   ·simp only [Act.put, List.setIfInBounds_toArray, List.set_cons_zero, List.set_cons_succ, i64_w]
                    rfl
                   refine pure_ (i := 8) (N := some 163) (v := ?_) (a' := ?_) b9MM rfl rfl (any_of HT_.out (by kernel_rfl)) (fun _ _ _ h => h) (Or.inl ⟨by rfl, ?_⟩) ?_ ?_
                   rotate_left
                   ·intro w'
                    go_simp
                    with_reducible rfl
                   rotate_left
                   ·simp only [Act.put, List.setIfInBounds_toArray, List.set_cons_zero, List.set_cons_succ, i64_w]
                    rfl
                   refine pure_ (i := 9) (N := some 164) (v := ?_) (a' := ?_) b10MM rfl rfl (any_of HT_.out (by kernel_rfl)) (fun _ _ _ h => h) (Or.inl ⟨by rfl, ?_⟩) ?_ ?_
                   rotate_left
                   ·intro w'
                    go_simp
                    with_reducible rfl
                   rotate_left
                   ·simp only [Act.put, List.setIfInBounds_toArray, List.set_cons_zero, List.set_cons_succ, i64_w]
                    rfl
                   refine pure_ (i := 10) (N := some 165) (v := ?_) (a' := ?_) b11MM rfl rfl (any_of HT_.out (by kernel_rfl)) (fun _ _ _ h => h) (Or.inl ⟨by rfl, ?_⟩) ?_ ?_
                   rotate_left
                   ·intro w'
                    go_simp
                    with_reducible rfl
                   rotate_left
                   ·simp only [Act.put, List.setIfInBounds_toArray, List.set_cons_zero, List.set_cons_succ, i64_w]
                    rfl
                   refine pure_ (i := 12) (N := some 167) (v := ?_) (a' := ?_) b12MM rfl rfl (any_of HT_.out (by kernel_rfl)) (fun _ _ _ h => h) (Or.inl ⟨by rfl, ?_⟩) ?_ ?_
                   rotate_left
                   ·intro w'
                    go_simp
                    with_reducible rfl
                   rotate_left
                   ·simp only [Act.put, List.setIfInBounds_toArray, List.set_cons_zero, List.set_cons_succ, i64_w]
                    rfl
                   refine pure_ (i := 13) (N := some 168) (v := ?_) (a' := ?_) b13MM rfl rfl (any_of HT_.out (by kernel_rfl)) (fun _ _ _ h => h) (Or.inl ⟨by rfl, ?_⟩) ?_ ?_
                   rotate_left
                   ·intro w'
                    go_simp
                    with_reducible rfl
                   rotate_left
                   ·simp only [Act.put, List.setIfInBounds_toArray, List.set_cons_zero, List.set_cons_succ, i64_w]
                    rfl
                   refine take_ (i := 11) (N := some 166) (v := ?_) (a' := ?_) b14MM rfl rfl (take_ofW HT_.out HW_.out (by kernel_rfl)) (fun _ _ _ h => h) (Or.inl ⟨by rfl, ?_⟩) hHeld ?_ ?_
                   rotate_left
                   ·rintro w' ⟨s0, s1⟩
                    go_simp
                    with_reducible rfl
                   rotate_left
                   ·simp only [Act.put, List.setIfInBounds_toArray, List.set_cons_zero, List.set_cons_succ, i64_w]
                    rfl
                   refine take_ (i := 14) (N := some 169) (v := ?_) (a' := ?_) b15MM rfl rfl (take_ofW HT_.out HW_.out (by kernel_rfl)) (fun _ _ _ h => h) (Or.inl ⟨by rfl, ?_⟩) hHeld ?_ ?_
                   rotate_left
                   ·rintro w' ⟨s0, s1⟩
                    go_simp
                    with_reducible rfl
                   rotate_left
                   ·simp only [Act.put, List.setIfInBounds_toArray, List.set_cons_zero, List.set_cons_succ, i64_w]
                    rfl
                   refine pure_ (i := 15) (N := some 170) (v := ?_) (a' := ?_) b16MM rfl rfl (any_of HT_.out (by kernel_rfl)) (fun _ _ _ h => h) (Or.inl ⟨by rfl, ?_⟩) ?_ ?_
                   rotate_left
                   ·intro w'
                    go_simp
                    with_reducible rfl
                   rotate_left
                   ·simp only [Act.put, List.setIfInBounds_toArray, List.set_cons_zero, List.set_cons_succ, i64_w]
                    rfl
                   refine pure_ (i := 16) (N := some 171) (v := ?_) (a' := ?_) b17MM rfl rfl (any_of HT_.out (by kernel_rfl)) (fun _ _ _ h => h) (Or.inl ⟨by rfl, ?_⟩) ?_ ?_
                   rotate_left
                   ·intro w'
                    go_simp
                    with_reducible rfl
                   rotate_left
                   ·simp only [Act.put, List.setIfInBounds_toArray, List.set_cons_zero, List.set_cons_succ, i64_w]
                    rfl
                   refine done_ (done_of HT_.out (by kernel_rfl)) ?_
                   try go_wp2
                   go_meet
                   case rel => exact ⟨_, (decide ((rd (rd_L1 t867 x146_4) 2) ≤ (rd t864 2))), (by first | rfl | (simp; done) | (simp [*]; done)), H', ⟨by have := HJ7.out; have := HJ17.out; have := HJ40.out; have := HK4.out; first | omega | exact Nat.le_refl _⟩, ⟨by (with_reducible repeat (first | apply Kd.R_alloc | apply Kd.R_drewN | apply Kd.R_drew)); exact Kd.R_mono HO_15.out (fun _ hk => hk.1)⟩, ⟨by (with_reducible repeat (first | apply Kd.R_alloc | apply Kd.R_drewN | apply Kd.R_drew)); exact Kd.R_mono HO_20.out (fun _ hk => hk.1)⟩, ⟨by (with_reducible repeat (first | apply Kd.S_alloc | apply Kd.S_drewN | apply Kd.S_drew)); exact Kd.S_mono HO_144.out (fun _ hk => ⟨hk.1.1, hk.1.2⟩)⟩, ⟨by repeat (first | (with_reducible exact HR887_0.out) | (with_reducible refine Kd.C_alloc ?_ _) | (with_reducible refine Kd.C_drewN ?_ _) | (with_reducible refine Kd.C_drew ?_) | exact HR887_0.out)⟩, ⟨by repeat (first | (with_reducible first | exact HB.out | apply below_alloc | apply pw_below_drewN | apply below_drew1) | exact HB.out)⟩⟩
                  ·as_aux_lemma =>
                   replace c82 := Bool.eq_false_iff.mpr c82
                   subst c82
                   have H1 : (laws_FnMarkovMoves.j5 k4 l1 t864 t875 t876 t867 (t867.length : Int) x146_4 true) = some r := by rw [if_neg (show ¬ (false = true) by decide)] at H; exact H
                   clear H; have H := H1; clear H1
                   have H' := Aside0.mk H
                   clear H
                   try go_wp2
                   have n0_ := Aside0.mk (Kd.R_drew HO_15.out)
                   have n1_ := Aside0.mk (Kd.R_drew HO_20.out)
                   have n2_ := Aside0.mk (Kd.S_drew HO_144.out)
                   have n3_ := Aside0.mk (Kd.R_drew HL887_0.out)
                   have n4_ := Aside0.mk (Kd.R_drew HO891.out)
                   have n5_ := Aside0.mk (Kd.C_drew HR887_0.out)
                   have n6_ := Aside0.mk (below_drew1 HB.out)
                   clear HO_15; clear HO_20; clear HO_144; clear HL887_0; clear HO891; clear HR887_0; clear HB; have HO_15 := n0_; have HO_20 := n1_; have HO_144 := n2_; have HL887_0 := n3_; have HO891 := n4_; have HR887_0 := n5_; have HB := n6_; clear n0_ n1_ n2_ n3_ n4_ n5_ n6_
                   obtain ⟨Ao88, co88, eo88⟩ := Kd.R_slice HO891.out
                   (first | subst eo88 | (injection eo88 with f1_ f2_ f3_; have f4_ := f1_.symm; have f5_ := f3_.symm; clear f1_ f2_ f3_; subst f4_; subst f5_))
                   refine start_ (n := 17) (S := fun w' => True) (ds := []) b0MM (by kernel_rfl) rfl rfl trivial (fun hHeld => ?_); refine with_tabW laws_FnMarkovMoves.tab33 laws_FnMarkovMoves.bits33 (fun HT_ HW_ => ?_)
                   generalize w79.drew = w87 at HO_15 HO_20 HO_144 HL887_0 HO891 HR887_0 HB hHeld ⊢
                   refine pure_ (i := 0) (N := some 155) (v := ?_) (a' := ?_) b1MM rfl rfl (any_of HT_.out (by kernel_rfl)) (fun _ _ _ h => h) (Or.inl ⟨by rfl, ?_⟩) ?_ ?_
                   rotate_left
                   ·intro w'
                    go_simp
                    with_reducible rfl
                   rotate_left
                   ·simp only [Act.put, List.setIfInBounds_toArray, List.set_cons_zero, List.set_cons_succ, i64_w]
                    rfl
                   refine pure_ (i := 1) (N := some 156) (v := ?_) (a' := ?_) b2MM rfl rfl (any_of HT_.out (by kernel_rfl)) (fun _ _ _ h => h) (Or.inl ⟨by rfl, ?_⟩) ?_ ?_
                   rotate_left
                   ·intro w'
                    go_simp
                    with_reducible rfl
                   rotate_left
                   ·simp only [Act.put, List.setIfInBounds_toArray, List.set_cons_zero, List.set_cons_succ, i64_w]
                    rfl
                   refine pure_ (i := 2) (N := some 157) (v := ?_) (a' := ?_) b3MM rfl rfl (any_of HT_.out (by kernel_rfl)) (fun _ _ _ h => h) (Or.inl ⟨by rfl, ?_⟩) ?_ ?_
                   rotate_left
                   ·intro w'
                    go_simp
                    with_reducible rfl
                   rotate_left
                   ·simp only [Act.put, List.setIfInBounds_toArray, List.set_cons_zero, List.set_cons_succ, i64_w]
                    rfl
                   refine pure_ (i := 3) (N := some 158) (v := ?_) (a' := ?_) b4MM rfl rfl (any_of HT_.out (by kernel_rfl)) (fun _ _ _ h => h) (Or.inl ⟨by rfl, ?_⟩) ?_ ?_
                   rotate_left
                   ·intro w'
                    go_simp
                    with_reducible rfl
                   rotate_left
                   ·simp only [Act.put, List.setIfInBounds_toArray, List.set_cons_zero, List.set_cons_succ, i64_w]
                    rfl
                   refine pure_ (i := 4) (N := some 159) (v := ?_) (a' := ?_) b5MM rfl rfl (any_of HT_.out (by kernel_rfl)) (fun _ _ _ h => h) (Or.inl ⟨by rfl, ?_⟩) ?_ ?_
                   rotate_left
                   ·intro w'
                    go_simp
                    with_reducible rfl
                   rotate_left
                   ·simp only [Act.put, List.setIfInBounds_toArray, List.set_cons_zero, List.set_cons_succ, i64_w]
                    rfl
                   refine one_ (i := 5) (N := some 160) b6MM rfl rfl (one_of HT_.out (by kernel_rfl)) (by decide) (fun K hK => ?_)
                   refine goes_ Try.func40 (by kernel_rfl) rfl #[.slice Ao88 t888.length co88, .slice (some ad886) t864.length co43] (by rfl) rfl rfl (by (try simp only [List.map_toArray, List.map_cons, List.map_nil]); first | done | rfl) ?_
                   with_reducible refine (laws_dSame.calls k4 _ _ t888 _ _ t864 false _ ?side1 ?side2 ?side3 ?side4 A81.out).mono ?_
                   (case side1 => repeat (first | exact (Kd.R_reads' HO891.out).2.2 | (with_reducible refine Kd.C_alloc ?_ _) | (with_reducible refine Kd.C_drewN ?_ _) | (with_reducible refine Kd.C_drew ?_)))
                   (case side2 => exact (Kd.R_reads' HO891.out).2.1)
                   (case side3 => repeat (first | exact (Kd.R_reads' HO_15.out).2.2 | (with_reducible refine Kd.C_alloc ?_ _) | (with_reducible refine Kd.C_drewN ?_ _) | (with_reducible refine Kd.C_drew ?_)))
                   (case side4 => exact (Kd.R_reads' HO_15.out).2.1)
                   rintro e w' ⟨rfl, ⟨nd, rfl⟩⟩
                   refine ⟨_, rfl, ?_⟩
                   refine hK.out _ _ trivial (fun hHeld => ?_)
                   clear hK K
                   refine norm_ (a' := ?_) ?_ ?_
                   rotate_left
                   ·show Act.put _ (some 160) _ = _
                    simp only [Act.put, List.setIfInBounds_toArray, List.set_cons_zero, List.set_cons_succ, i64_w]
                    rfl
                   refine pure_ (i := 6) (N := some 161) (v := ?_) (a' := ?_) b7MM rfl rfl (any_of HT_.out (by kernel_rfl)) (fun _ _ _ h => h) (Or.inl ⟨by rfl, ?_⟩) ?_ ?_
                   rotate_left
                   ·intro w'
                    go_simp
                    with_reducible rfl
                   rotate_left
                   ·simp only [Act.put, List.setIfInBounds_toArray, List.set_cons_zero, List.set_cons_succ, i64_w]
                    rfl
                   refine pure_ (i := 7) (N := some 162) (v := ?_) (a' := ?_) b8MM rfl rfl (any_of HT_.out (by kernel_rfl)) (fun _ _ _ h => h) (Or.inl ⟨by rfl, ?_⟩) ?_ ?_
                   rotate_left
                   ·intro w'
                    go_simp
                    with_reducible rfl
                   rotate_left
                   ·simp only [Act.put, List.setIfInBounds_toArray, List.set_cons_zero, List.set_cons_succ, i64_w]
                    rfl
                   refine pure_ (i := 8) (N := some 163) (v := ?_) (a' := ?_) b9MM rfl rfl (any_of HT_.out (by kernel_rfl)) (fun _ _ _ h => h) (Or.inl ⟨by rfl, ?_⟩) ?_ ?_
                   rotate_left
                   ·intro w'
                    go_simp
                    with_reducible rfl
                   rotate_left
                   ·simp only [Act.put, List.setIfInBounds_toArray, List.set_cons_zero, List.set_cons_succ, i64_w]
                    rfl
                   refine pure_ (i := 9) (N := some 164) (v := undef) (a' := ?_) b10MM rfl rfl (any_of HT_.out (by kernel_rfl)) (fun _ _ _ h => h) (Or.inr ⟨by rfl, rfl⟩) ?_ ?_
                   rotate_left
                   ·simp only [Act.put, List.setIfInBounds_toArray, List.set_cons_zero, List.set_cons_succ, i64_w]
                    rfl
                   refine pure_ (i := 10) (N := some 165) (v := undef) (a' := ?_) b11MM rfl rfl (any_of HT_.out (by kernel_rfl)) (fun _ _ _ h => h) (Or.inr ⟨by rfl, rfl⟩) ?_ ?_
                   rotate_left
                   ·simp only [Act.put, List.setIfInBounds_toArray, List.set_cons_zero, List.set_cons_succ, i64_w]
                    rfl
                   refine pure_ (i := 11) (N := some 166) (v := undef) (a' := ?_) b18MM rfl rfl (any_of HT_.out (by kernel_rfl)) (fun _ _ _ h => h) (Or.inr ⟨by rfl, rfl⟩) ?_ ?_
                   rotate_left
                   ·simp only [Act.put, List.setIfInBounds_toArray, List.set_cons_zero, List.set_cons_succ, i64_w]
                    rfl
                   refine pure_ (i := 12) (N := some 167) (v := undef) (a' := ?_) b19MM rfl rfl (any_of HT_.out (by kernel_rfl)) (fun _ _ _ h => h) (Or.inr ⟨by rfl, rfl⟩) ?_ ?_
                   rotate_left
                   ·simp only [Act.put, List.setIfInBounds_toArray, List.set_cons_zero, List.set_cons_succ, i64_w]
                    rfl
                   refine pure_ (i := 13) (N := some 168) (v := undef) (a' := ?_) b14MM rfl rfl (any_of HT_.out (by kernel_rfl)) (fun _ _ _ h => h) (Or.inr ⟨by rfl, rfl⟩) ?_ ?_
                   rotate_left
                   ·simp only [Act.put, List.setIfInBounds_toArray, List.set_cons_zero, List.set_cons_succ, i64_w]
                    rfl
                   refine pure_ (i := 14) (N := some 169) (v := undef) (a' := ?_) b15MM rfl rfl (any_of HT_.out (by kernel_rfl)) (fun _ _ _ h => h) (Or.inr ⟨by rfl, rfl⟩) ?_ ?_
                   rotate_left
                   ·simp only [Act.put, List.setIfInBounds_toArray, List.set_cons_zero, List.set_cons_succ, i64_w]
                    rfl
                   refine pure_ (i := 15) (N := some 170) (v := undef) (a' := ?_) b16MM rfl rfl (any_of HT_.out (by kernel_rfl)) (fun _ _ _ h => h) (Or.inr ⟨by rfl, rfl⟩) ?_ ?_
                   rotate_left
                   ·simp only [Act.put, List.setIfInBounds_toArray, List.set_cons_zero, List.set_cons_succ, i64_w]
                    rfl
                   refine pure_ (i := 16) (N := some 171) (v := ?_) (a' := ?_) b17MM rfl rfl (any_of HT_.out (by kernel_rfl)) (fun _ _ _ h => h) (Or.inl ⟨by rfl, ?_⟩) ?_ ?_
                   rotate_left
                   ·intro w'
                    go_simp
                    with_reducible rfl
                   rotate_left
                   ·simp only [Act.put, List.setIfInBounds_toArray, List.set_cons_zero, List.set_cons_succ, i64_w]
                    rfl
                   refine done_ (done_of HT_.out (by kernel_rfl)) ?_
                   try go_wp2
                   go_meet
                   case rel => exact ⟨_, (true), (by first | rfl | (simp; done) | (simp [*]; done)), H', ⟨by have := HJ7.out; have := HJ17.out; have := HJ40.out; have := HK4.out; first | omega | exact Nat.le_refl _⟩, ⟨by (with_reducible repeat (first | apply Kd.R_alloc | apply Kd.R_drewN | apply Kd.R_drew)); exact Kd.R_mono HO_15.out (fun _ hk => hk.1)⟩, ⟨by (with_reducible repeat (first | apply Kd.R_alloc | apply Kd.R_drewN | apply Kd.R_drew)); exact Kd.R_mono HO_20.out (fun _ hk => hk.1)⟩, ⟨by (with_reducible repeat (first | apply Kd.S_alloc | apply Kd.S_drewN | apply Kd.S_drew)); exact Kd.S_mono HO_144.out (fun _ hk => ⟨hk.1.1, hk.1.2⟩)⟩, ⟨by repeat (first | (with_reducible exact HR887_0.out) | (with_reducible refine Kd.C_alloc ?_ _) | (with_reducible refine Kd.C_drewN ?_ _) | (with_reducible refine Kd.C_drew ?_) | exact HR887_0.out)⟩, ⟨by repeat (first | (with_reducible first | exact HB.out | apply below_alloc | apply pw_below_drewN | apply below_drew1) | exact HB.out)⟩⟩
                 ·as_aux_lemma =>
                  replace c80 := Bool.eq_false_iff.mpr c80
                  subst c80
                  have H1 : (laws_FnMarkovMoves.j5 k4 l1 t864 t875 t876 t867 (t867.length : Int) x146_4 true) = some r := by rw [if_neg (show ¬ (false = true) by decide)] at H; exact H
                  clear H; have H := H1; clear H1
                  have H' := Aside0.mk H
                  clear H
                  try go_wp2
                  have n0_ := Aside0.mk (Kd.R_drew HO_15.out)
                  have n1_ := Aside0.mk (Kd.R_drew HO_20.out)
                  have n2_ := Aside0.mk (Kd.S_drew HO_144.out)
                  have n3_ := Aside0.mk (Kd.R_drew HL887_0.out)
                  have n4_ := Aside0.mk (Kd.R_drew HO891.out)
                  have n5_ := Aside0.mk (Kd.C_drew HR887_0.out)
                  have n6_ := Aside0.mk (below_drew1 HB.out)
                  clear HO_15; clear HO_20; clear HO_144; clear HL887_0; clear HO891; clear HR887_0; clear HB; have HO_15 := n0_; have HO_20 := n1_; have HO_144 := n2_; have HL887_0 := n3_; have HO891 := n4_; have HR887_0 := n5_; have HB := n6_; clear n0_ n1_ n2_ n3_ n4_ n5_ n6_
                  refine start_ (n := 17) (S := fun w' => True) (ds := []) b0MM (by kernel_rfl) rfl rfl trivial (fun hHeld => ?_); refine with_tabW laws_FnMarkovMoves.tab33 laws_FnMarkovMoves.bits33 (fun HT_ HW_ => ?_)
                  generalize w79.drew = w89 at HO_15 HO_20 HO_144 HL887_0 HO891 HR887_0 HB hHeld ⊢
                  refine pure_ (i := 0) (N := some 155) (v := ?_) (a' := ?_) b1MM rfl rfl (any_of HT_.out (by kernel_rfl)) (fun _ _ _ h => h) (Or.inl ⟨by rfl, ?_⟩) ?_ ?_
                  rotate_left
                  ·intro w'
                   go_simp
                   with_reducible rfl
                  rotate_left
                  ·simp only [Act.put, List.setIfInBounds_toArray, List.set_cons_zero, List.set_cons_succ, i64_w]
                   rfl
                  refine pure_ (i := 1) (N := some 156) (v := ?_) (a' := ?_) b2MM rfl rfl (any_of HT_.out (by kernel_rfl)) (fun _ _ _ h => h) (Or.inl ⟨by rfl, ?_⟩) ?_ ?_
                  rotate_left
                  ·intro w'
                   go_simp
                   with_reducible rfl
                  rotate_left
                  ·simp only [Act.put, List.setIfInBounds_toArray, List.set_cons_zero, List.set_cons_succ, i64_w]
                   rfl
                  refine pure_ (i := 2) (N := some 157) (v := ?_) (a' := ?_) b3MM rfl rfl (any_of HT_.out (by kernel_rfl)) (fun _ _ _ h => h) (Or.inl ⟨by rfl, ?_⟩) ?_ ?_
                  rotate_left
                  ·intro w'
                   go_simp
                   with_reducible rfl
                  rotate_left
                  ·simp only [Act.put, List.setIfInBounds_toArray, List.set_cons_zero, List.set_cons_succ, i64_w]
                   rfl
                  refine pure_ (i := 3) (N := some 158) (v := undef) (a' := ?_) b4MM rfl rfl (any_of HT_.out (by kernel_rfl)) (fun _ _ _ h => h) (Or.inr ⟨by rfl, rfl⟩) ?_ ?_
                  rotate_left
                  ·simp only [Act.put, List.setIfInBounds_toArray, List.set_cons_zero, List.set_cons_succ, i64_w]
                   rfl
                  refine pure_ (i := 4) (N := some 159) (v := undef) (a' := ?_) b5MM rfl rfl (any_of HT_.out (by kernel_rfl)) (fun _ _ _ h => h) (Or.inr ⟨by rfl, rfl⟩) ?_ ?_
                  rotate_left
                  ·simp only [Act.put, List.setIfInBounds_toArray, List.set_cons_zero, List.set_cons_succ, i64_w]
                   rfl
                  refine pure_ (i := 5) (N := some 160) (v := undef) (a' := ?_) b6MM rfl rfl (any_of HT_.out (by kernel_rfl)) (fun _ _ _ h => h) (Or.inr ⟨by rfl, rfl⟩) ?_ ?_
                  rotate_left
                  ·simp only [Act.put, List.setIfInBounds_toArray, List.set_cons_zero, List.set_cons_succ, i64_w]
                   rfl
                  refine pure_ (i := 6) (N := some 161) (v := undef) (a' := ?_) b7MM rfl rfl (any_of HT_.out (by kernel_rfl)) (fun _ _ _ h => h) (Or.inr ⟨by rfl, rfl⟩) ?_ ?_
                  rotate_left
                  ·simp only [Act.put, List.setIfInBounds_toArray, List.set_cons_zero, List.set_cons_succ, i64_w]
                   rfl
                  refine pure_ (i := 7) (N := some 162) (v := ?_) (a' := ?_) b8MM rfl rfl (any_of HT_.out (by kernel_rfl)) (fun _ _ _ h => h) (Or.inl ⟨by rfl, ?_⟩) ?_ ?_
                  rotate_left
                  ·intro w'
                   go_simp
                   with_reducible rfl
                  rotate_left
                  ·simp only [Act.put, List.setIfInBounds_toArray, List.set_cons_zero, List.set_cons_succ, i64_w]
                   rfl
                  refine pure_ (i := 8) (N := some 163) (v := ?_) (a' := ?_) b9MM rfl rfl (any_of HT_.out (by kernel_rfl)) (fun _ _ _ h => h) (Or.inl ⟨by rfl, ?_⟩) ?_ ?_
                  rotate_left
                  ·intro w'
                   go_simp
                   with_reducible rfl
                  rotate_left
                  ·simp only [Act.put, List.setIfInBounds_toArray, List.set_cons_zero, List.set_cons_succ, i64_w]
                   rfl
                  refine pure_ (i := 9) (N := some 164) (v := undef) (a' := ?_) b10MM rfl rfl (any_of HT_.out (by kernel_rfl)) (fun _ _ _ h => h) (Or.inr ⟨by rfl, rfl⟩) ?_ ?_
                  rotate_left
                  ·simp only [Act.put, List.setIfInBounds_toArray, List.set_cons_zero, List.set_cons_succ, i64_w]
                   rfl
                  refine pure_ (i := 10) (N := some 165) (v := undef) (a' := ?_) b11MM rfl rfl (any_of HT_.out (by kernel_rfl)) (fun _ _ _ h => h) (Or.inr ⟨by rfl, rfl⟩) ?_ ?_
                  rotate_left
                  ·simp only [Act.put, List.setIfInBounds_toArray, List.set_cons_zero, List.set_cons_succ, i64_w]
                   rfl
                  refine pure_ (i := 11) (N := some 166) (v := undef) (a' := ?_) b18MM rfl rfl (any_of HT_.out (by kernel_rfl)) (fun _ _ _ h => h) (Or.inr ⟨by rfl, rfl⟩) ?_ ?_
                  rotate_left
                  ·simp only [Act.put, List.setIfInBounds_toArray, List.set_cons_zero, List.set_cons_succ, i64_w]
                   rfl
                  refine pure_ (i := 12) (N := some 167) (v := undef) (a' := ?_) b19MM rfl rfl (any_of HT_.out (by kernel_rfl)) (fun _ _ _ h => h) (Or.inr ⟨by rfl, rfl⟩) ?_ ?_
                  rotate_left
                  ·simp only [Act.put, List.setIfInBounds_toArray, List.set_cons_zero, List.set_cons_succ, i64_w]
                   rfl
                  refine pure_ (i := 13) (N := some 168) (v := undef) (a' := ?_) b14MM rfl rfl (any_of HT_.out (by kernel_rfl)) (fun _ _ _ h => h) (Or.inr ⟨by rfl, rfl⟩) ?_ ?_
                  rotate_left
                  ·simp only [Act.put, List.setIfInBounds_toArray, List.set_cons_zero, List.set_cons_succ, i64_w]
                   rfl
                  refine pure_ (i := 14) (N := some 169) (v := undef) (a' := ?_) b15MM rfl rfl (any_of HT_.out (by kernel_rfl)) (fun _ _ _ h => h) (Or.inr ⟨by rfl, rfl⟩) ?_ ?_
                  rotate_left
                  ·simp only [Act.put, List.setIfInBounds_toArray, List.set_cons_zero, List.set_cons_succ, i64_w]
                   rfl
                  refine pure_ (i := 15) (N := some 170) (v := undef) (a' := ?_) b16MM rfl rfl (any_of HT_.out (by kernel_rfl)) (fun _ _ _ h => h) (Or.inr ⟨by rfl, rfl⟩) ?_ ?_
                  rotate_left
                  ·simp only [Act.put, List.setIfInBounds_toArray, List.set_cons_zero, List.set_cons_succ, i64_w]
                   rfl
                  refine pure_ (i := 16) (N := some 171) (v := ?_) (a' := ?_) b17MM rfl rfl (any_of HT_.out (by kernel_rfl)) (fun _ _ _ h => h) (Or.inl ⟨by rfl, ?_⟩) ?_ ?_
                  rotate_left
                  ·intro w'
                   go_simp
                   with_reducible rfl
                  rotate_left
                  ·simp only [Act.put, List.setIfInBounds_toArray, List.set_cons_zero, List.set_cons_succ, i64_w]
                   rfl
                  refine done_ (done_of HT_.out (by kernel_rfl)) ?_
                  try go_wp2
                  go_meet
                  case rel => exact ⟨_, (true), (by first | rfl | (simp; done) | (simp [*]; done)), H', ⟨by have := HJ7.out; have := HJ17.out; have := HJ40.out; have := HK4.out; first | omega | exact Nat.le_refl _⟩, ⟨by (with_reducible repeat (first | apply Kd.R_alloc | apply Kd.R_drewN | apply Kd.R_drew)); exact Kd.R_mono HO_15.out (fun _ hk => hk.1)⟩, ⟨by (with_reducible repeat (first | apply Kd.R_alloc | apply Kd.R_drewN | apply Kd.R_drew)); exact Kd.R_mono HO_20.out (fun _ hk => hk.1)⟩, ⟨by (with_reducible repeat (first | apply Kd.S_alloc | apply Kd.S_drewN | apply Kd.S_drew)); exact Kd.S_mono HO_144.out (fun _ hk => ⟨hk.1.1, hk.1.2⟩)⟩, ⟨by repeat (first | (with_reducible exact HR887_0.out) | (with_reducible refine Kd.C_alloc ?_ _) | (with_reducible refine Kd.C_drewN ?_ _) | (with_reducible refine Kd.C_drew ?_) | exact HR887_0.out)⟩, ⟨by repeat (first | (with_reducible first | exact HB.out | apply below_alloc | apply pw_below_drewN | apply below_drew1) | exact HB.out)⟩⟩
                case rest => as_aux_lemma =>
                 clear HC78
                 try clear c2
                 try clear p2
                 try clear c3
                 try clear c4
                 try clear c5
                 try clear c6
                 try clear p6
                 try clear c7
                 try clear c8
                 try clear p8
                 try clear q8
                 try clear hx8
                 try clear qi8
                 try clear c21
                 try clear c23
                 try clear c24
                 try clear c24b0
                 try clear c26
                 try clear c27
                 try clear c28
                 try clear c33
                 try clear c38
                 try clear c40
                 try clear c48
                 try clear c48b0
                 try clear c48b1
                 try clear c48b2
                 try clear c50
                 try clear c51
                 try clear c51b0
                 try clear c51b1
                 try clear c51b2
                 try clear c52
                 try clear c53
                 try clear c55
                 try clear p64
                 try clear c68
                 try clear c70
                 try clear c71
                 try clear c71b0
                 try clear c71b1
                 try clear c72
                 try clear c72b0
                 try clear c72b1
                 try clear c72b2
                 try clear c74
                 try clear c74b0
                 try clear c75
                 try clear c75b0
                 try clear c76
                 try clear c76b0
                 try clear c80
                 try clear c82
                 try clear c83
                 try clear c83b0
                 try clear c83b1
                 try clear c84
                 try clear c84b0
                 try clear c84b1
                 try clear c88
                 try clear p88
                 try clear q88
                 try clear hx88
                 try clear p89
                 try clear q89
                 try clear hx89
                 try clear qi89
                 try clear hx886_0
                 try clear hx887_0
                 try clear hx893_0
                 try clear hx894_0
                 try clear p2
                 try clear p6
                 try clear p64
                 try clear p886
                 try clear p887
                 try clear p893
                 try clear p894
                 try clear q886
                 try clear q887
                 try clear q893
                 try clear q894
                 obtain ⟨kq, x171_77, rfl, HA, HJ77, HO_15, HO_20, HO_144, HR887_0, HB⟩ := hcut
                 cases kq with
                 | zero => exact absurd HA.out (by simp [laws_FnMarkovMoves.j5])
                 | succ kj77 =>
                  have H := HA.out; clear HA
                  simp only [laws_FnMarkovMoves.j5] at H
                  by_cases c90 : x171_77 = true
                  ·subst c90
                   have H1 : (some false) = some r := by rw [if_pos rfl] at H; exact H
                   clear H; have H := H1; clear H1
                   obtain rfl := Option.some.inj H
                   go_wp2
                   go_ret
                   exact ⟨by first | rfl | (simp [errW_none, errW_some] <;> rfl) | (simp [*, errW_none, errW_some] <;> rfl), by repeat (first | (with_reducible first | exact HB.out | apply below_alloc | apply pw_below_drewN | apply below_drew1) | exact HB.out)⟩
                  ·replace c90 := Bool.eq_false_iff.mpr c90
                   subst c90
                   have H1 : (laws_FnMarkovMoves.l1 kj77 l1 t864 t875 t876 t867 (t867.length : Int) (wrap64 (x146_4 + 1))) = some r := by rw [if_neg (show ¬ (false = true) by decide)] at H; exact H
                   clear H; have H := H1; clear H1
                   have H' := Aside0.mk H
                   clear H
                   go_wp2
                   go_roundg kj77
                   case measure => have := HJ7.out; have := HJ17.out; have := HJ40.out; have := HK4.out; have := HJ77.out; omega
                   case rel => exact ⟨(wrap64 (x146_4 + 1)), (by first | rfl | (simp; done) | (simp [*]; done)), H', ⟨by have := HJ7.out; have := HJ17.out; have := HJ40.out; have := HK4.out; have := HJ77.out; omega⟩, ⟨by (with_reducible repeat (first | apply Kd.R_alloc | apply Kd.R_drewN | apply Kd.R_drew)); exact HO_15.out⟩, ⟨by (with_reducible repeat (first | apply Kd.R_alloc | apply Kd.R_drewN | apply Kd.R_drew)); exact HO_20.out⟩, ⟨by (with_reducible repeat (first | apply Kd.S_alloc | apply Kd.S_drewN | apply Kd.S_drew)); exact HO_144.out⟩, ⟨by repeat (first | (with_reducible first | exact HB.out | apply below_alloc | apply pw_below_drewN | apply below_drew1) | exact HB.out)⟩⟩
               ·as_aux_lemma =>
                rw [if_neg c74] at H
                have c74b0 : decide (x146_4 < (t867.length : Int)) = false := decide_eq_false c74
                clear c74
                have HC91 := Aside0.mk H
                clear H
                go_upto_region 36 with (fail)
                go_cut [187] (fun v187 wc => ∃ (kq : Nat) (x187_90 : Bool), v187 = .bool x187_90 ∧ Aside0 (laws_FnMarkovMoves.j6 kq l1 x187_90 = some r) ∧ Aside0 (kq ≤ k4) ∧ Aside0 (Below w.heap.size w wc))
                case first => as_aux_lemma =>
                 have H := HC91.out; clear HC91
                 by_cases c92 : t876 = true
                 ·as_aux_lemma =>
                  subst c92
                  have H1 : (if 2 < (t875.length : Int) then (if 2 < (t864.length : Int) then (if (rd t875 2) ≥ (rd t864 2) then (laws_FnMarkovMoves.j6 k4 l1 true) else ((impl_IsMarkov.f k4 t875).bind fun t897 => (laws_FnMarkovMoves.j6 k4 l1 (!t897)))) else (none)) else (none)) = some r := by rw [if_pos rfl] at H; exact H
                  clear H; have H := H1; clear H1
                  by_cases c93 : 2 < (t875.length : Int)
                  rotate_left
                  ·rw [if_neg c93] at H
                   exact absurd H (by simp)
                  as_aux_lemma =>
                  rw [if_pos c93] at H
                  have c93b0 : decide (2 < (t875.length : Int)) = true := decide_eq_true c93
                  have c93b1 : decide (2 < t875.length) = true := decide_eq_true (by omega)
                  clear c93
                  (first | rw [c93b0] | (simp only [i64_w, i32_w]; rw [c93b0]) | skip)
                  by_cases c94 : 2 < (t864.length : Int)
                  rotate_left
                  ·rw [if_neg c94] at H
                   exact absurd H (by simp)
                  as_aux_lemma =>
                  rw [if_pos c94] at H
                  have c94b0 : decide (2 < (t864.length : Int)) = true := decide_eq_true c94
                  have c94b1 : decide (2 < t864.length) = true := decide_eq_true (by omega)
                  clear c94
                  by_cases c95 : (rd t875 2) ≥ (rd t864 2)
                  ·as_aux_lemma =>
                   rw [if_pos c95] at H
                   have c95b0 : decide ((rd t864 2) ≤ (rd t875 2)) = true := decide_eq_true c95
                   clear c95
                   have H' := Aside0.mk H
                   clear H
                   try go_wp2
                   have n0_ := Aside0.mk (Kd.R_drew HO_15.out)
                   have n1_ := Aside0.mk (Kd.R_drew HO_20.out)
                   have n2_ := Aside0.mk (Kd.S_drew HO_144.out)
                   have n3_ := Aside0.mk (below_drew1 HB.out)
                   clear HO_15; clear HO_20; clear HO_144; clear HB; have HO_15 := n0_; have HO_20 := n1_; have HO_144 := n2_; have HB := n3_; clear n0_ n1_ n2_ n3_
                   obtain ⟨Ao97, co97, eo97⟩ := Kd.R_slice HO_20.out
                   (first | subst eo97 | (injection eo97 with f1_ f2_ f3_; have f4_ := f1_.symm; have f5_ := f3_.symm; clear f1_ f2_ f3_; subst f4_; subst f5_))
                   have p895 : 0 ≤ (2 : Int) := (by omega)
                   have q895 : 2 < (t875.length : Int) := of_decide_eq_true (by first | (with_reducible assumption) | assumption)
                   obtain ⟨ad895, e895, hx895_0⟩ := Kd.at_int (Kd.R_reads' HO_20.out).2.2 2 p895 q895
                   cases e895
                   (try simp only [show (2 : Int).toNat = 2 from rfl, Nat.reduceMul, Nat.reduceEqDiff, Go.Addr.add, ↓reduceIte] at hx895_0)
                   have qi895 : (2 < t875.length) = True := eq_true (by omega)
                   (try rw [show ((2 : Int)).toNat = 2 from rfl] at hx895_0)
                   replace p895 := eq_true p895; replace q895 := eq_true q895
                   have p896 : 0 ≤ (2 : Int) := (by omega)
                   have q896 : 2 < (t864.length : Int) := of_decide_eq_true (by first | (with_reducible assumption) | assumption)
                   obtain ⟨ad896, e896, hx896_0⟩ := Kd.at_int (Kd.R_reads' HO_15.out).2.2 2 p896 q896
                   obtain rfl : ad886 = ad896 := (by injection e896)
                   (try simp only [show (2 : Int).toNat = 2 from rfl, Nat.reduceMul, Nat.reduceEqDiff, Go.Addr.add, ↓reduceIte] at hx896_0)
                   have qi896 : (2 < t864.length) = True := eq_true (by omega)
                   (try rw [show ((2 : Int)).toNat = 2 from rfl] at hx896_0)
                   replace p896 := eq_true p896; replace q896 := eq_true q896
                   refine start_ (n := 15) (S := fun w' => w'.cell? ⟨ad895.block, ad895.off + 2, none⟩ = some (.int .i64 (rd t875 2)) ∧ w'.cell? ⟨ad886.block, ad886.off + 2, none⟩ = some (.int .i64 (rd t864 2))) (ds := []) b20MM (by kernel_rfl) rfl rfl ⟨hx895_0, hx896_0⟩ (fun hHeld => ?_); refine with_tabW laws_FnMarkovMoves.tab36 laws_FnMarkovMoves.bits36 (fun HT_ HW_ => ?_)
                   generalize wr.drew = w96 at HO_15 HO_20 HO_144 HB hx895_0 hx896_0 hHeld ⊢
                   refine pure_ (i := 0) (N := some 173) (v := ?_) (a' := ?_) b21MM rfl rfl (any_of HT_.out (by kernel_rfl)) (fun _ _ _ h => h) (Or.inl ⟨by rfl, ?_⟩) ?_ ?_
                   rotate_left
                   ·intro w'
                    go_simp
                    with_reducible rfl
                   rotate_left
                   ·simp only [Act.put, List.setIfInBounds_toArray, List.set_cons_zero, List.set_cons_succ, i64_w]
                    rfl
                   refine pure_ (i := 1) (N := some 174) (v := ?_) (a' := ?_) b22MM rfl rfl (any_of HT_.out (by kernel_rfl)) (fun _ _ _ h => h) (Or.inl ⟨by rfl, ?_⟩) ?_ ?_
                   rotate_left
                   ·intro w'
                    go_simp
                    with_reducible rfl
                   rotate_left
                   ·simp only [Act.put, List.setIfInBounds_toArray, List.set_cons_zero, List.set_cons_succ, i64_w]
                    rfl
                   refine pure_ (i := 2) (N := some 175) (v := ?_) (a' := ?_) b23MM rfl rfl (any_of HT_.out (by kernel_rfl)) (fun _ _ _ h => h) (Or.inl ⟨by rfl, ?_⟩) ?_ ?_
                   rotate_left
                   ·intro w'
                    go_simp
                    with_reducible rfl
                   rotate_left
                   ·simp only [Act.put, List.setIfInBounds_toArray, List.set_cons_zero, List.set_cons_succ, i64_w]
                    rfl
                   refine pure_ (i := 3) (N := some 176) (v := ?_) (a' := ?_) b24MM rfl rfl (any_of HT_.out (by kernel_rfl)) (fun _ _ _ h => h) (Or.inl ⟨by rfl, ?_⟩) ?_ ?_
                   rotate_left
                   ·intro w'
                    go_simp
                    with_reducible rfl
                   rotate_left
                   ·simp only [Act.put, List.setIfInBounds_toArray, List.set_cons_zero, List.set_cons_succ, i64_w]
                    rfl
                   refine pure_ (i := 5) (N := some 178) (v := ?_) (a' := ?_) b25MM rfl rfl (any_of HT_.out (by kernel_rfl)) (fun _ _ _ h => h) (Or.inl ⟨by rfl, ?_⟩) ?_ ?_
                   rotate_left
                   ·intro w'
                    go_simp
                    with_reducible rfl
                   rotate_left
                   ·simp only [Act.put, List.setIfInBounds_toArray, List.set_cons_zero, List.set_cons_succ, i64_w]
                    rfl
                   refine pure_ (i := 6) (N := some 179) (v := ?_) (a' := ?_) b26MM rfl rfl (any_of HT_.out (by kernel_rfl)) (fun _ _ _ h => h) (Or.inl ⟨by rfl, ?_⟩) ?_ ?_
                   rotate_left
                   ·intro w'
                    go_simp
                    with_reducible rfl
                   rotate_left
                   ·simp only [Act.put, List.setIfInBounds_toArray, List.set_cons_zero, List.set_cons_succ, i64_w]
                    rfl
                   refine take_ (i := 4) (N := some 177) (v := ?_) (a' := ?_) b27MM rfl rfl (take_ofW HT_.out HW_.out (by kernel_rfl)) (fun _ _ _ h => h) (Or.inl ⟨by rfl, ?_⟩) hHeld ?_ ?_
                   rotate_left
                   ·rintro w' ⟨s0, s1⟩
                    go_simp
                    with_reducible rfl
                   rotate_left
                   ·simp only [Act.put, List.setIfInBounds_toArray, List.set_cons_zero, List.set_cons_succ, i64_w]
                    rfl
                   refine take_ (i := 7) (N := some 180) (v := ?_) (a' := ?_) b28MM rfl rfl (take_ofW HT_.out HW_.out (by kernel_rfl)) (fun _ _ _ h => h) (Or.inl ⟨by rfl, ?_⟩) hHeld ?_ ?_
                   rotate_left
                   ·rintro w' ⟨s0, s1⟩
                    go_simp
                    with_reducible rfl
                   rotate_left
                   ·simp only [Act.put, List.setIfInBounds_toArray, List.set_cons_zero, List.set_cons_succ, i64_w]
                    rfl
                   refine pure_ (i := 8) (N := some 181) (v := ?_) (a' := ?_) b29MM rfl rfl (any_of HT_.out (by kernel_rfl)) (fun _ _ _ h => h) (Or.inl ⟨by rfl, ?_⟩) ?_ ?_
                   rotate_left
                   ·intro w'
                    go_simp
                    with_reducible rfl
                   rotate_left
                   ·simp only [Act.put, List.setIfInBounds_toArray, List.set_cons_zero, List.set_cons_succ, i64_w]
                    rfl
                   refine pure_ (i := 9) (N := some 182) (v := ?_) (a' := ?_) b30MM rfl rfl (any_of HT_.out (by kernel_rfl)) (fun _ _ _ h => h) (Or.inl ⟨by rfl, ?_⟩) ?_ ?_
                   rotate_left
                   ·intro w'
                    go_simp
                    with_reducible rfl
                   rotate_left
                   ·simp only [Act.put, List.setIfInBounds_toArray, List.set_cons_zero, List.set_cons_succ, i64_w]
                    rfl
                   refine pure_ (i := 10) (N := some 183) (v := undef) (a' := ?_) b31MM rfl rfl (any_of HT_.out (by kernel_rfl)) (fun _ _ _ h => h) (Or.inr ⟨by rfl, rfl⟩) ?_ ?_
                   rotate_left
                   ·simp only [Act.put, List.setIfInBounds_toArray, List.set_cons_zero, List.set_cons_succ, i64_w]
                    rfl
                   refine pure_ (i := 11) (N := some 184) (v := undef) (a' := ?_) b32MM rfl rfl (any_of HT_.out (by kernel_rfl)) (fun _ _ _ h => h) (Or.inr ⟨by rfl, rfl⟩) ?_ ?_
                   rotate_left
                   ·simp only [Act.put, List.setIfInBounds_toArray, List.set_cons_zero, List.set_cons_succ, i64_w]
                    rfl
                   refine pure_ (i := 12) (N := some 185) (v := undef) (a' := ?_) b33MM rfl rfl (any_of HT_.out (by kernel_rfl)) (fun _ _ _ h => h) (Or.inr ⟨by rfl, rfl⟩) ?_ ?_
                   rotate_left
                   ·simp only [Act.put, List.setIfInBounds_toArray, List.set_cons_zero, List.set_cons_succ, i64_w]
                    rfl
                   refine pure_ (i := 13) (N := some 186) (v := ?_) (a' := ?_) b34MM rfl rfl (any_of HT_.out (by kernel_rfl)) (fun _ _ _ h => h) (Or.inl ⟨by rfl, ?_⟩) ?_ ?_
                   rotate_left
                   ·intro w'
                    go_simp
                    with_reducible rfl
                   rotate_left
                   ·simp only [Act.put, List.setIfInBounds_toArray, List.set_cons_zero, List.set_cons_succ, i64_w]
                    rfl
                   refine pure_ (i := 14) (N := some 187) (v := ?_) (a' := ?_) b35MM rfl rfl (any_of HT_.out (by kernel_rfl)) (fun _ _ _ h => h) (Or.inl ⟨by rfl, ?_⟩) ?_ ?_
                   rotate_left
                   ·intro w'
                    go_simp
                    with_reducible rfl
                   rotate_left
                   ·simp only [Act.put, List.setIfInBounds_toArray, List.set_cons_zero, List.set_cons_succ, i64_w]
                    rfl
                   refine done_ (done_of HT_.out (by kernel_rfl)) ?_
                   try go_wp2
                   go_meet
                   case rel => exact ⟨_, (true), (by first | rfl | (simp; done) | (simp [*]; done)), H', ⟨by have := HJ7.out; have := HJ17.out; have := HJ40.out; have := HK4.out; first | omega | exact Nat.le_refl _⟩, ⟨by repeat (first | (with_reducible first | exact HB.out | apply below_alloc | apply pw_below_drewN | apply below_drew1) | exact HB.out)⟩⟩
                  ·as_aux_lemma =>
                   rw [if_neg c95] at H
                   have c95b0 : decide ((rd t864 2) ≤ (rd t875 2)) = false := decide_eq_false c95
                   clear c95
                   replace H := Option.bind_eq_some_iff.mp H
                   obtain ⟨t897, A980, H⟩ := H
                   replace H : (laws_FnMarkovMoves.j6 k4 l1 (!t897)) = some r := H
                   have A98 := Aside0.mk A980
                   clear A980
                   have H' := Aside0.mk H
                   clear H
                   try go_wp2
                   have n0_ := Aside0.mk (Kd.R_drew HO_15.out)
                   have n1_ := Aside0.mk (Kd.R_drew HO_20.out)
                   have n2_ := Aside0.mk (Kd.S_drew HO_144.out)
                   have n3_ := Aside0.mk (below_drew1 HB.out)
                   clear HO_15; clear HO_20; clear HO_144; clear HB; have HO_15 := n0_; have HO_20 := n1_; have HO_144 := n2_; have HB := n3_; clear n0_ n1_ n2_ n3_
                   obtain ⟨Ao100, co100, eo100⟩ := Kd.R_slice HO_20.out
                   (first | subst eo100 | (injection eo100 with f1_ f2_ f3_; have f4_ := f1_.symm; have f5_ := f3_.symm; clear f1_ f2_ f3_; subst f4_; subst f5_))
                   have p895 : 0 ≤ (2 : Int) := (by omega)
                   have q895 : 2 < (t875.length : Int) := of_decide_eq_true (by first | (with_reducible assumption) | assumption)
                   obtain ⟨ad895, e895, hx895_0⟩ := Kd.at_int (Kd.R_reads' HO_20.out).2.2 2 p895 q895
                   cases e895
                   (try simp only [show (2 : Int).toNat = 2 from rfl, Nat.reduceMul, Nat.reduceEqDiff, Go.Addr.add, ↓reduceIte] at hx895_0)
                   have qi895 : (2 < t875.length) = True := eq_true (by omega)
                   (try rw [show ((2 : Int)).toNat = 2 from rfl] at hx895_0)
                   replace p895 := eq_true p895; replace q895 := eq_true q895
                   have p896 : 0 ≤ (2 : Int) := (by omega)
                   have q896 : 2 < (t864.length : Int) := of_decide_eq_true (by first | (with_reducible assumption) | assumption)
                   obtain ⟨ad896, e896, hx896_0⟩ := Kd.at_int (Kd.R_reads' HO_15.out).2.2 2 p896 q896
                   obtain rfl : ad886 = ad896 := (by injection e896)
                   (try simp only [show (2 : Int).toNat = 2 from rfl, Nat.reduceMul, Nat.reduceEqDiff, Go.Addr.add, ↓reduceIte] at hx896_0)
                   have qi896 : (2 < t864.length) = True := eq_true (by omega)
                   (try rw [show ((2 : Int)).toNat = 2 from rfl] at hx896_0)
                   replace p896 := eq_true p896; replace q896 := eq_true q896
                   refine start_ (n := 15) (S := fun w' => w'.cell? ⟨ad895.block, ad895.off + 2, none⟩ = some (.int .i64 (rd t875 2)) ∧ w'.cell? ⟨ad886.block, ad886.off + 2, none⟩ = some (.int .i64 (rd t864 2))) (ds := []) b20MM (by kernel_rfl) rfl rfl ⟨hx895_0, hx896_0⟩ (fun hHeld => ?_); refine with_tabW laws_FnMarkovMoves.tab36 laws_FnMarkovMoves.bits36 (fun HT_ HW_ => ?_)
                   generalize wr.drew = w99 at HO_15 HO_20 HO_144 HB hx895_0 hx896_0 hHeld ⊢
                   refine pure_ (i := 0) (N := some 173) (v := ?_) (a' := ?_) b21MM rfl rfl (any_of HT_.out (by kernel_rfl)) (fun _ _ _ h => h) (Or.inl ⟨by rfl, ?_⟩) ?_ ?_
                   rotate_left
                   ·intro w'
                    go_simp
                    with_reducible rfl
                   rotate_left
                   ·simp only [Act.put, List.setIfInBounds_toArray, List.set_cons_zero, List.set_cons_succ, i64_w]
                    rfl
                   refine pure_ (i := 1) (N := some 174) (v := ?_) (a' := ?_) b22MM rfl rfl (any_of HT_.out (by kernel_rfl)) (fun _ _ _ h => h) (Or.inl ⟨by rfl, ?_⟩) ?_ ?_
                   rotate_left
                   ·intro w'
                    go_simp
                    with_reducible rfl
                   rotate_left
                   ·simp only [Act.put, List.setIfInBounds_toArray, List.set_cons_zero, List.set_cons_succ, i64_w]
                    rfl
                   refine pure_ (i := 2) (N := some 175) (v := ?_) (a' := ?_) b23MM rfl rfl (any_of HT_.out (by kernel_rfl)) (fun _ _ _ h => h) (Or.inl ⟨by rfl, ?_⟩) ?_ ?_
                   rotate_left
                   ·intro w'
                    go_simp
                    with_reducible rfl
                   rotate_left
                   ·simp only [Act.put, List.setIfInBounds_toArray, List.set_cons_zero, List.set_cons_succ, i64_w]
                    rfl
                   refine pure_ (i := 3) (N := some 176) (v := ?_) (a' := ?_) b24MM rfl rfl (any_of HT_.out (by kernel_rfl)) (fun _ _ _ h => h) (Or.inl ⟨by rfl, ?_⟩) ?_ ?_
                   rotate_left
                   ·intro w'
                    go_simp
                    with_reducible rfl
                   rotate_left
                   ·simp only [Act.put, List.setIfInBounds_toArray, List.set_cons_zero, List.set_cons_succ, i64_w]
                    rfl
                   refine pure_ (i := 5) (N := some 178) (v := ?_) (a' := ?_) b25MM rfl rfl (any_of HT_.out (by kernel_rfl)) (fun _ _ _ h => h) (Or.inl ⟨by rfl, ?_⟩) ?_ ?_
                   rotate_left
                   ·intro w'
                    go_simp
                    with_reducible rfl
                   rotate_left
                   ·simp only [Act.put, List.setIfInBounds_toArray, List.set_cons_zero, List.set_cons_succ, i64_w]
                    rfl
                   refine pure_ (i := 6) (N := some 179) (v := ?_) (a' := ?_) b26MM rfl rfl (any_of HT_.out (by kernel_rfl)) (fun _ _ _ h => h) (Or.inl ⟨by rfl, ?_⟩) ?_ ?_
                   rotate_left
                   ·intro w'
                    go_simp
                    with_reducible rfl
                   rotate_left
                   ·simp only [Act.put, List.setIfInBounds_toArray, List.set_cons_zero, List.set_cons_succ, i64_w]
                    rfl
                   refine take_ (i := 4) (N := some 177) (v := ?_) (a' := ?_) b27MM rfl rfl (take_ofW HT_.out HW_.out (by kernel_rfl)) (fun _ _ _ h => h) (Or.inl ⟨by rfl, ?_⟩) hHeld ?_ ?_
                   rotate_left
                   ·rintro w' ⟨s0, s1⟩
                    go_simp
                    with_reducible rfl
                   rotate_left
                   ·simp only [Act.put, List.setIfInBounds_toArray, List.set_cons_zero, List.set_cons_succ, i64_w]
                    rfl
                   refine take_ (i := 7) (N := some 180) (v := ?_) (a' := ?_) b28MM rfl rfl (take_ofW HT_.out HW_.out (by kernel_rfl)) (fun _ _ _ h => h) (Or.inl ⟨by rfl, ?_⟩) hHeld ?_ ?_
                   rotate_left
                   ·rintro w' ⟨s0, s1⟩
                    go_simp
                    with_reducible rfl
                   rotate_left
                   ·simp only [Act.put, List.setIfInBounds_toArray, List.set_cons_zero, List.set_cons_succ, i64_w]
                    rfl
                   refine pure_ (i := 8) (N := some 181) (v := ?_) (a' := ?_) b29MM rfl rfl (any_of HT_.out (by kernel_rfl)) (fun _ _ _ h => h) (Or.inl ⟨by rfl, ?_⟩) ?_ ?_
                   rotate_left
                   ·intro w'
                    go_simp
                    with_reducible rfl
                   rotate_left
                   ·simp only [Act.put, List.setIfInBounds_toArray, List.set_cons_zero, List.set_cons_succ, i64_w]
                    rfl
                   refine pure_ (i := 9) (N := some 182) (v := ?_) (a' := ?_) b30MM rfl rfl (any_of HT_.out (by kernel_rfl)) (fun _ _ _ h => h) (Or.inl ⟨by rfl, ?_⟩) ?_ ?_
                   rotate_left
                   ·intro w'
                    go_simp
                    with_reducible rfl
                   rotate_left
                   ·simp only [Act.put, List.setIfInBounds_toArray, List.set_cons_zero, List.set_cons_succ, i64_w]
                    rfl
                   refine pure_ (i := 10) (N := some 183) (v := ?_) (a' := ?_) b31MM rfl rfl (any_of HT_.out (by kernel_rfl)) (fun _ _ _ h => h) (Or.inl ⟨by rfl, ?_⟩) ?_ ?_
                   rotate_left
                   ·intro w'
                    go_simp
                    with_reducible rfl
                   rotate_left
                   ·simp only [Act.put, List.setIfInBounds_toArray, List.set_cons_zero, List.set_cons_succ, i64_w]
                    rfl
                   refine one_ (i := 11) (N := some 184) b32MM rfl rfl (one_of HT_.out (by kernel_rfl)) (by decide) (fun K hK => ?_)
                   refine goes_ Try.func48 (by kernel_rfl) rfl #[.slice (some ad895) t875.length co100] (by rfl) rfl rfl (by (try simp only [List.map_toArray, List.map_cons, List.map_nil]); first | done | rfl) ?_
                   with_reducible refine (impl_IsMarkov.calls k4 _ _ t875 t897 _ ?side1 ?side2 A98.out).mono ?_
                   (case side1 => repeat (first | exact (Kd.R_reads' HO_20.out).2.2 | (with_reducible refine Kd.C_alloc ?_ _) | (with_reducible refine Kd.C_drewN ?_ _) | (with_reducible refine Kd.C_drew ?_)))
                   (case side2 => exact (Kd.R_reads' HO_20.out).2.1)
                   rintro e w101 ⟨rfl, hb⟩
                   have HS0_ := (hb.cell (World.block_lt_of_cell? _ _ (hHeld.1))).trans (hHeld.1)
                   have HS1_ := (hb.cell (World.block_lt_of_cell? _ _ (hHeld.2))).trans (hHeld.2)
                   refine ⟨_, rfl, ?_⟩
                   have n0_ := Aside0.mk (Kd.R_below (by (with_reducible repeat (first | apply Kd.R_alloc | apply Kd.R_drewN | apply Kd.R_drew)); exact HO_15.out) hb)
                   have n1_ := Aside0.mk (Kd.R_below (by (with_reducible repeat (first | apply Kd.R_alloc | apply Kd.R_drewN | apply Kd.R_drew)); exact HO_20.out) hb)
                   have n2_ := Aside0.mk (Kd.S_below (by (with_reducible repeat (first | apply Kd.S_alloc | apply Kd.S_drewN | apply Kd.S_drew)); exact HO_144.out) hb)
                   have n3_ := Aside0.mk (below_step (by repeat (first | (with_reducible first | exact HB.out | apply below_alloc | apply pw_below_drewN | apply below_drew1) | exact HB.out)) hb)
                   clear HO_15; clear HO_20; clear HO_144; clear HB; have HO_15 := n0_; have HO_20 := n1_; have HO_144 := n2_; have HB := n3_; clear n0_ n1_ n2_ n3_; (try clear hb); (try clear hb2); (try clear hk); (try clear hi)
                   refine hK.out _ _ ⟨HS0_, HS1_⟩ (fun hHeld => ?_)
                   clear hK K
                   refine norm_ (a' := ?_) ?_ ?_
                   rotate_left
                   ·show Act.put _ (some 184) _ = _
                    simp only [Act.put, List.setIfInBounds_toArray, List.set_cons_zero, List.set_cons_succ, i64_w]
                    rfl
                   refine pure_ (i := 12) (N := some 185) (v := ?_) (a' := ?_) b33MM rfl rfl (any_of HT_.out (by kernel_rfl)) (fun _ _ _ h => h) (Or.inl ⟨by rfl, ?_⟩) ?_ ?_
                   rotate_left
                   ·intro w'
                    go_simp
                    with_reducible rfl
                   rotate_left
                   ·simp only [Act.put, List.setIfInBounds_toArray, List.set_cons_zero, List.set_cons_succ, i64_w]
                    rfl
                   refine pure_ (i := 13) (N := some 186) (v := ?_) (a' := ?_) b34MM rfl rfl (any_of HT_.out (by kernel_rfl)) (fun _ _ _ h => h) (Or.inl ⟨by rfl, ?_⟩) ?_ ?_
                   rotate_left
                   ·intro w'
                    go_simp
                    with_reducible rfl
                   rotate_left
                   ·simp only [Act.put, List.setIfInBounds_toArray, List.set_cons_zero, List.set_cons_succ, i64_w]
                    rfl
                   refine pure_ (i := 14) (N := some 187) (v := ?_) (a' := ?_) b35MM rfl rfl (any_of HT_.out (by kernel_rfl)) (fun _ _ _ h => h) (Or.inl ⟨by rfl, ?_⟩) ?_ ?_
                   rotate_left
                   ·intro w'
                    go_simp
                    with_reducible rfl
                   rotate_left
                   ·simp only [Act.put, List.setIfInBounds_toArray, List.set_cons_zero, List.set_cons_succ, i64_w]
                    rfl
                   refine done_ (done_of HT_.out (by kernel_rfl)) ?_
                   try go_wp2
                   go_meet
                   case rel => exact ⟨_, (!t897), (by first | rfl | (simp; done) | (simp [*]; done)), H', ⟨by have := HJ7.out; have := HJ17.out; have := HJ40.out; have := HK4.out; first | omega | exact Nat.le_refl _⟩, ⟨by repeat (first | (with_reducible first | exact HB.out | apply below_alloc | apply pw_below_drewN | apply below_drew1) | exact HB.out)⟩⟩
                 ·as_aux_lemma =>
                  replace c92 := Bool.eq_false_iff.mpr c92
                  subst c92
                  have H1 : (laws_FnMarkovMoves.j6 k4 l1 false) = some r := by rw [if_neg (show ¬ (false = true) by decide)] at H; exact H
                  clear H; have H := H1; clear H1
                  have H' := Aside0.mk H
                  clear H
                  try go_wp2
                  have n0_ := Aside0.mk (Kd.R_drew HO_15.out)
                  have n1_ := Aside0.mk (Kd.R_drew HO_20.out)
                  have n2_ := Aside0.mk (Kd.S_drew HO_144.out)
                  have n3_ := Aside0.mk (below_drew1 HB.out)
                  clear HO_15; clear HO_20; clear HO_144; clear HB; have HO_15 := n0_; have HO_20 := n1_; have HO_144 := n2_; have HB := n3_; clear n0_ n1_ n2_ n3_
                  refine start_ (n := 15) (S := fun w' => True) (ds := []) b20MM (by kernel_rfl) rfl rfl trivial (fun hHeld => ?_); refine with_tabW laws_FnMarkovMoves.tab36 laws_FnMarkovMoves.bits36 (fun HT_ HW_ => ?_)
                  generalize wr.drew = w102 at HO_15 HO_20 HO_144 HB hHeld ⊢
                  refine pure_ (i := 0) (N := some 173) (v := ?_) (a' := ?_) b21MM rfl rfl (any_of HT_.out (by kernel_rfl)) (fun _ _ _ h => h) (Or.inl ⟨by rfl, ?_⟩) ?_ ?_
                  rotate_left
                  ·intro w'
                   go_simp
                   with_reducible rfl
                  rotate_left
                  ·simp only [Act.put, List.setIfInBounds_toArray, List.set_cons_zero, List.set_cons_succ, i64_w]
                   rfl
                  refine pure_ (i := 1) (N := some 174) (v := ?_) (a' := ?_) b22MM rfl rfl (any_of HT_.out (by kernel_rfl)) (fun _ _ _ h => h) (Or.inl ⟨by rfl, ?_⟩) ?_ ?_
                  rotate_left
                  ·intro w'
                   go_simp
                   with_reducible rfl
                  rotate_left
                  ·simp only [Act.put, List.setIfInBounds_toArray, List.set_cons_zero, List.set_cons_succ, i64_w]
                   rfl
                  refine pure_ (i := 2) (N := some 175) (v := undef) (a' := ?_) b23MM rfl rfl (any_of HT_.out (by kernel_rfl)) (fun _ _ _ h => h) (Or.inr ⟨by rfl, rfl⟩) ?_ ?_
                  rotate_left
                  ·simp only [Act.put, List.setIfInBounds_toArray, List.set_cons_zero, List.set_cons_succ, i64_w]
                   rfl
                  refine pure_ (i := 3) (N := some 176) (v := undef) (a' := ?_) b24MM rfl rfl (any_of HT_.out (by kernel_rfl)) (fun _ _ _ h => h) (Or.inr ⟨by rfl, rfl⟩) ?_ ?_
                  rotate_left
                  ·simp only [Act.put, List.setIfInBounds_toArray, List.set_cons_zero, List.set_cons_succ, i64_w]
                   rfl
                  refine pure_ (i := 4) (N := some 177) (v := undef) (a' := ?_) b36MM rfl rfl (any_of HT_.out (by kernel_rfl)) (fun _ _ _ h => h) (Or.inr ⟨by rfl, rfl⟩) ?_ ?_
                  rotate_left
                  ·simp only [Act.put, List.setIfInBounds_toArray, List.set_cons_zero, List.set_cons_succ, i64_w]
                   rfl
                  refine pure_ (i := 5) (N := some 178) (v := undef) (a' := ?_) b37MM rfl rfl (any_of HT_.out (by kernel_rfl)) (fun _ _ _ h => h) (Or.inr ⟨by rfl, rfl⟩) ?_ ?_
                  rotate_left
                  ·simp only [Act.put, List.setIfInBounds_toArray, List.set_cons_zero, List.set_cons_succ, i64_w]
                   rfl
                  refine pure_ (i := 6) (N := some 179) (v := undef) (a' := ?_) b27MM rfl rfl (any_of HT_.out (by kernel_rfl)) (fun _ _ _ h => h) (Or.inr ⟨by rfl, rfl⟩) ?_ ?_
                  rotate_left
                  ·simp only [Act.put, List.setIfInBounds_toArray, List.set_cons_zero, List.set_cons_succ, i64_w]
                   rfl
                  refine pure_ (i := 7) (N := some 180) (v := undef) (a' := ?_) b28MM rfl rfl (any_of HT_.out (by kernel_rfl)) (fun _ _ _ h => h) (Or.inr ⟨by rfl, rfl⟩) ?_ ?_
                  rotate_left
                  ·simp only [Act.put, List.setIfInBounds_toArray, List.set_cons_zero, List.set_cons_succ, i64_w]
                   rfl
                  refine pure_ (i := 8) (N := some 181) (v := undef) (a' := ?_) b29MM rfl rfl (any_of HT_.out (by kernel_rfl)) (fun _ _ _ h => h) (Or.inr ⟨by rfl, rfl⟩) ?_ ?_
                  rotate_left
                  ·simp only [Act.put, List.setIfInBounds_toArray, List.set_cons_zero, List.set_cons_succ, i64_w]
                   rfl
                  refine pure_ (i := 9) (N := some 182) (v := undef) (a' := ?_) b30MM rfl rfl (any_of HT_.out (by kernel_rfl)) (fun _ _ _ h => h) (Or.inr ⟨by rfl, rfl⟩) ?_ ?_
                  rotate_left
                  ·simp only [Act.put, List.setIfInBounds_toArray, List.set_cons_zero, List.set_cons_succ, i64_w]
                   rfl
                  refine pure_ (i := 10) (N := some 183) (v := undef) (a' := ?_) b31MM rfl rfl (any_of HT_.out (by kernel_rfl)) (fun _ _ _ h => h) (Or.inr ⟨by rfl, rfl⟩) ?_ ?_
                  rotate_left
                  ·simp only [Act.put, List.setIfInBounds_toArray, List.set_cons_zero, List.set_cons_succ, i64_w]
                   rfl
                  refine pure_ (i := 11) (N := some 184) (v := undef) (a' := ?_) b32MM rfl rfl (any_of HT_.out (by kernel_rfl)) (fun _ _ _ h => h) (Or.inr ⟨by rfl, rfl⟩) ?_ ?_
                  rotate_left
                  ·simp only [Act.put, List.setIfInBounds_toArray, List.set_cons_zero, List.set_cons_succ, i64_w]
                   rfl
                  refine pure_ (i := 12) (N := some 185) (v := undef) (a' := ?_) b33MM rfl rfl (any_of HT_.out (by kernel_rfl)) (fun _ _ _ h => h) (Or.inr ⟨by rfl, rfl⟩) ?_ ?_
                  rotate_left
                  ·simp only [Act.put, List.setIfInBounds_toArray, List.set_cons_zero, List.set_cons_succ, i64_w]
                   rfl
                  refine pure_ (i := 13) (N := some 186) (v := undef) (a' := ?_) b34MM rfl rfl (any_of HT_.out (by kernel_rfl)) (fun _ _ _ h => h) (Or.inr ⟨by rfl, rfl⟩) ?_ ?_
                  rotate_left
                  ·simp only [Act.put, List.setIfInBounds_toArray, List.set_cons_zero, List.set_cons_succ, i64_w]
                   rfl
                  refine pure_ (i := 14) (N := some 187) (v := ?_) (a' := ?_) b35MM rfl rfl (any_of HT_.out (by kernel_rfl)) (fun _ _ _ h => h) (Or.inl ⟨by rfl, ?_⟩) ?_ ?_
                  rotate_left
                  ·intro w'
                   go_simp
                   with_reducible rfl
                  rotate_left
                  ·simp only [Act.put, List.setIfInBounds_toArray, List.set_cons_zero, List.set_cons_succ, i64_w]
                   rfl
                  refine done_ (done_of HT_.out (by kernel_rfl)) ?_
                  try go_wp2
                  go_meet
                  case rel => exact ⟨_, (false), (by first | rfl | (simp; done) | (simp [*]; done)), H', ⟨by have := HJ7.out; have := HJ17.out; have := HJ40.out; have := HK4.out; first | omega | exact Nat.le_refl _⟩, ⟨by repeat (first | (with_reducible first | exact HB.out | apply below_alloc | apply pw_below_drewN | apply below_drew1) | exact HB.out)⟩⟩
                case rest => as_aux_lemma =>
                 clear HC91
                 try clear c2
                 try clear p2
                 try clear c3
                 try clear c4
                 try clear c5
                 try clear c6
                 try clear p6
                 try clear c7
                 try clear c8
                 try clear p8
                 try clear q8
                 try clear hx8
                 try clear qi8
                 try clear c9
                 try clear c21
                 try clear c23
                 try clear c24
                 try clear c24b0
                 try clear c26
                 try clear c27
                 try clear c28
                 try clear c33
                 try clear c38
                 try clear c40
                 try clear c48
                 try clear c48b0
                 try clear c48b1
                 try clear c48b2
                 try clear c50
                 try clear c51
                 try clear c51b0
                 try clear c51b1
                 try clear c51b2
                 try clear c52
                 try clear c53
                 try clear c55
                 try clear p64
                 try clear c68
                 try clear c70
                 try clear c71
                 try clear c71b0
                 try clear c71b1
                 try clear c72
                 try clear c72b0
                 try clear c72b1
                 try clear c72b2
                 try clear c74
                 try clear c74b0
                 try clear c75
                 try clear c75b0
                 try clear c76
                 try clear c76b0
                 try clear c80
                 try clear c82
                 try clear c83
                 try clear c83b0
                 try clear c83b1
                 try clear c84
                 try clear c84b0
                 try clear c84b1
                 try clear c88
                 try clear p88
                 try clear q88
                 try clear hx88
                 try clear p89
                 try clear q89
                 try clear hx89
                 try clear qi89
                 try clear c90
                 try clear c92
                 try clear c93
                 try clear c93b0
                 try clear c93b1
                 try clear c94
                 try clear c94b0
                 try clear c94b1
                 try clear c95
                 try clear c95b0
                 try clear hx886_0
                 try clear hx887_0
                 try clear hx893_0
                 try clear hx894_0
                 try clear hx895_0
                 try clear hx896_0
                 try clear p2
                 try clear p6
                 try clear p64
                 try clear p8
                 try clear p88
                 try clear p886
                 try clear p887
                 try clear p89
                 try clear p893
                 try clear p894
                 try clear p895
                 try clear p896
                 try clear q8
                 try clear q88
                 try clear q886
                 try clear q887
                 try clear q89
                 try clear q893
                 try clear q894
                 try clear q895
                 try clear q896
                 obtain ⟨kq, x187_90, rfl, HA, HJ90, HB⟩ := hcut
                 cases kq with
                 | zero => exact absurd HA.out (by simp [laws_FnMarkovMoves.j6])
                 | succ kj90 =>
                  have H := HA.out; clear HA
                  simp only [laws_FnMarkovMoves.j6] at H
                  by_cases c103 : x187_90 = true
                  ·subst c103
                   have H1 : (some false) = some r := by rw [if_pos rfl] at H; exact H
                   clear H; have H := H1; clear H1
                   obtain rfl := Option.some.inj H
                   go_wp2
                   go_ret
                   exact ⟨by first | rfl | (simp [errW_none, errW_some] <;> rfl) | (simp [*, errW_none, errW_some] <;> rfl), by repeat (first | (with_reducible first | exact HB.out | apply below_alloc | apply pw_below_drewN | apply below_drew1) | exact HB.out)⟩
                  ·replace c103 := Bool.eq_false_iff.mpr c103
                   subst c103
                   have H1 : (laws_FnMarkovMoves.j7 kj90 l1) = some r := by rw [if_neg (show ¬ (false = true) by decide)] at H; exact H
                   clear H; have H := H1; clear H1
                   have H' := Aside0.mk H
                   clear H
                   go_wp2
                   go_meet
                   case rel => exact ⟨_, H', ⟨by have := HJ7.out; have := HJ17.out; have := HJ40.out; have := HK4.out; have := HJ90.out; first | omega | exact Nat.le_refl _⟩, ⟨by repeat (first | (with_reducible first | exact HB.out | apply below_alloc | apply pw_below_drewN | apply below_drew1) | exact HB.out)⟩⟩
           ·replace c70 := Bool.eq_false_iff.mpr c70
            subst c70
            have H1 : (laws_FnMarkovMoves.j7 kj40 l1) = some r := by rw [if_neg (show ¬ (false = true) by decide)] at H; exact H
            clear H; have H := H1; clear H1
            have H' := Aside0.mk H
            clear H
            go_wp2
            go_meet
            case rel => exact ⟨_, H', ⟨by have := HJ7.out; have := HJ17.out; have := HJ40.out; first | omega | exact Nat.le_refl _⟩, ⟨by repeat (first | (with_reducible first | exact HB.out | apply below_alloc | apply pw_below_drewN | apply below_drew1) | exact HB.out)⟩⟩
          case rest => as_aux_lemma =>
           clear HC69
           try clear c1
           try clear c2
           try clear p2
           try clear c3
           try clear c4
           try clear c5
           try clear c6
           try clear p6
           try clear c7
           try clear c8
           try clear p8
           try clear q8
           try clear hx8
           try clear qi8
           try clear c9
           try clear c10
           try clear c21
           try clear c23
           try clear c24
           try clear c24b0
           try clear c26
           try clear c27
           try clear c28
           try clear c33
           try clear c38
           try clear c40
           try clear c48
           try clear c48b0
           try clear c48b1
           try clear c48b2
           try clear c50
           try clear c51
           try clear c51b0
           try clear c51b1
           try clear c51b2
           try clear c52
           try clear c53
           try clear c55
           try clear p64
           try clear c68
           try clear c70
           try clear c71
           try clear c71b0
           try clear c71b1
           try clear c72
           try clear c72b0
           try clear c72b1
           try clear c72b2
           try clear c74
           try clear c74b0
           try clear c75
           try clear c75b0
           try clear c76
           try clear c76b0
           try clear c80
           try clear c82
           try clear c83
           try clear c83b0
           try clear c83b1
           try clear c84
           try clear c84b0
           try clear c84b1
           try clear c88
           try clear p88
           try clear q88
           try clear hx88
           try clear p89
           try clear q89
           try clear hx89
           try clear qi89
           try clear c90
           try clear c92
           try clear c93
           try clear c93b0
           try clear c93b1
           try clear c94
           try clear c94b0
           try clear c94b1
           try clear c95
           try clear c95b0
           try clear c103
           try clear hx886_0
           try clear hx887_0
           try clear hx893_0
           try clear hx894_0
           try clear hx895_0
           try clear hx896_0
           try clear p2
           try clear p6
           try clear p64
           try clear p8
           try clear p88
           try clear p886
           try clear p887
           try clear p89
           try clear p893
           try clear p894
           try clear p895
           try clear p896
           try clear q8
           try clear q88
           try clear q886
           try clear q887
           try clear q89
           try clear q893
           try clear q894
           try clear q895
           try clear q896
           obtain ⟨kq, HA, HJ68, HB⟩ := hcut
           cases kq with
           | zero => exact absurd HA.out (by simp [laws_FnMarkovMoves.j7])
           | succ kj68 =>
            have H := HA.out; clear HA
            simp only [laws_FnMarkovMoves.j7] at H
            replace H := Option.bind_eq_some_iff.mp H
            obtain ⟨t898, A1040, H⟩ := H
            replace H : ((impl_SolvesMarkov.f t898).bind fun bt901 => ((spec_SolvesMarkov.f kj68 t898).bind fun bt903 => (if (bt901.2 != bt903.2) = true then (laws_FnMarkovMoves.j8 kj68 t898 bt901.1 true) else (laws_FnMarkovMoves.j8 kj68 t898 bt901.1 (bt901.1 != bt903.1))))) = some r := H
            have A104 := Aside0.mk A1040
            clear A1040
            replace H := Option.bind_eq_some_iff.mp H
            obtain ⟨⟨t901, t902⟩, A1050, H⟩ := H
            replace H : ((spec_SolvesMarkov.f kj68 t898).bind fun bt903 => (if (t902 != bt903.2) = true then (laws_FnMarkovMoves.j8 kj68 t898 t901 true) else (laws_FnMarkovMoves.j8 kj68 t898 t901 (t901 != bt903.1)))) = some r := H
            have A105 := Aside0.mk A1050
            clear A1050
            replace H := Option.bind_eq_some_iff.mp H
            obtain ⟨⟨t903, t904⟩, A1060, H⟩ := H
            replace H : (if (t902 != t904) = true then (laws_FnMarkovMoves.j8 kj68 t898 t901 true) else (laws_FnMarkovMoves.j8 kj68 t898 t901 (t901 != t903))) = some r := H
            have A106 := Aside0.mk A1060
            clear A1060
            have HC107 := Aside0.mk H
            clear H
            go_upto_region 41 with (first | ((with_reducible refine gate_callee (f := 54) rfl ?_); refine goesL_ (some 189) rfl rfl Try.func54 (by kernel_rfl) rfl #[.slice A1 l1.length c1] rfl (by (try simp only [List.map_toArray, List.map_cons, List.map_nil]); first | done | rfl) ?_; (with_reducible refine (spec_DrawSolvesMarkov.calls kj68 _ _ l1 t898 _ ?side1 ?side2 A104.out).mono ?_); (case side1 => repeat (first | exact (Kd.C_below HR1.out HB.out) | (with_reducible refine Kd.C_alloc ?_ _) | (with_reducible refine Kd.C_drewN ?_ _) | (with_reducible refine Kd.C_drew ?_))); (case side2 => exact HC1.out); rintro e w108 ⟨v899, rfl, ho0, hb⟩; refine ⟨_, rfl, ?_⟩; have n0_ := Aside0.mk (Kd.R_lower ho0 (below_size (by repeat (first | (with_reducible first | exact HB.out | apply below_alloc | apply pw_below_drewN | apply below_drew1) | exact HB.out)))); have n1_ := Aside0.mk (below_step (by repeat (first | (with_reducible first | exact HB.out | apply below_alloc | apply pw_below_drewN | apply below_drew1) | exact HB.out)) hb); clear HB; have HO900 := n0_; have HB := n1_; clear n0_ n1_; (try clear hb); (try clear hb2); (try clear hk); (try clear hi); (try clear ho0); obtain ⟨Ao109, co109, eo109⟩ := Kd.R_slice HO900.out; subst eo109) | ((with_reducible refine gate_callee (f := 55) rfl ?_); refine goesL_ (some 192) rfl rfl Try.func55 (by kernel_rfl) rfl #[.slice Ao109 t898.length co109] rfl (by (try simp only [List.map_toArray, List.map_cons, List.map_nil]); first | done | rfl) ?_; (with_reducible refine (impl_SolvesMarkov.calls _ _ t898 t901 t902 _ ?side1 ?side2 A105.out).mono ?_); (case side1 => repeat (first | exact (Kd.R_reads' HO900.out).2.2 | (with_reducible refine Kd.C_alloc ?_ _) | (with_reducible refine Kd.C_drewN ?_ _) | (with_reducible refine Kd.C_drew ?_))); (case side2 => exact (Kd.R_reads' HO900.out).2.1); rintro e w110 ⟨rfl, hb⟩; refine ⟨_, rfl, ?_⟩; have n0_ := Aside0.mk (Kd.R_below (by (with_reducible repeat (first | apply Kd.R_alloc | apply Kd.R_drewN | apply Kd.R_drew)); exact HO900.out) hb); have n1_ := Aside0.mk (below_step (by repeat (first | (with_reducible first | exact HB.out | apply below_alloc | apply pw_below_drewN | apply below_drew1) | exact HB.out)) hb); clear HO900; clear HB; have HO900 := n0_; have HB := n1_; clear n0_ n1_; (try clear hb); (try clear hb2); (try clear hk); (try clear hi)) | ((with_reducible refine gate_callee (f := 56) rfl ?_); refine goesL_ (some 197) rfl rfl Try.func56 (by kernel_rfl) rfl #[.slice Ao109 t898.length co109] rfl (by (try simp only [List.map_toArray, List.map_cons, List.map_nil]); first | done | rfl) ?_; (with_reducible refine (spec_SolvesMarkov.calls kj68 _ _ t898 t903 t904 _ ?side1 ?side2 A106.out).mono ?_); (case side1 => repeat (first | exact (Kd.R_reads' HO900.out).2.2 | (with_reducible refine Kd.C_alloc ?_ _) | (with_reducible refine Kd.C_drewN ?_ _) | (with_reducible refine Kd.C_drew ?_))); (case side2 => exact (Kd.R_reads' HO900.out).2.1); rintro e w111 ⟨rfl, hb⟩; refine ⟨_, rfl, ?_⟩; have n0_ := Aside0.mk (Kd.R_below (by (with_reducible repeat (first | apply Kd.R_alloc | apply Kd.R_drewN | apply Kd.R_drew)); exact HO900.out) hb); have n1_ := Aside0.mk (below_step (by repeat (first | (with_reducible first | exact HB.out | apply below_alloc | apply pw_below_drewN | apply below_drew1) | exact HB.out)) hb); clear HO900; clear HB; have HO900 := n0_; have HB := n1_; clear n0_ n1_; (try clear hb); (try clear hb2); (try clear hk); (try clear hi)))
            (try simp only [Act.put, List.setIfInBounds_toArray, List.set_cons_zero, List.set_cons_succ])
            go_cut [207] (fun v207 wc => ∃ (kq : Nat) (x207_106 : Bool), v207 = .bool x207_106 ∧ Aside0 (laws_FnMarkovMoves.j8 kq t898 t901 x207_106 = some r) ∧ Aside0 (kq ≤ kj68) ∧ Aside0 (Kd.R (Kd.int .i64) 3 wc w.heap.size (fun _ => True) (.slice Ao109 t898.length co109) t898) ∧ Aside0 (Below w.heap.size w wc))
            case first => as_aux_lemma =>
             have H := HC107.out; clear HC107
             by_cases c112 : (t902 != t904) = true
             ·rw [if_pos c112] at H
              have c112b0 : (t902 != t904) = true := c112
              (try (have c112b1 : decide (t902 = t904) = false := by simpa using c112))
              (try (have c112b2 : (t902 == t904) = false := by simpa using c112))
              (try (have c112b3 : ¬ (t902 = t904) := by simpa using c112))
              clear c112
              (first | rw [c112b0] | (simp only [i64_w, i32_w]; rw [c112b0]) | skip)
              have H' := Aside0.mk H
              clear H
              go_wp2
              go_meet
              case rel => exact ⟨_, (true), (by first | rfl | (simp; done) | (simp [*]; done)), H', ⟨by have := HJ7.out; have := HJ17.out; have := HJ40.out; have := HJ68.out; first | omega | exact Nat.le_refl _⟩, ⟨by (with_reducible repeat (first | apply Kd.R_alloc | apply Kd.R_drewN | apply Kd.R_drew)); exact HO900.out⟩, ⟨by repeat (first | (with_reducible first | exact HB.out | apply below_alloc | apply pw_below_drewN | apply below_drew1) | exact HB.out)⟩⟩
             ·rw [if_neg c112] at H
              have c112b0 : (t902 != t904) = false := by simpa using c112
              (try (have c112b1 : decide (t902 = t904) = true := by simpa using c112))
              (try (have c112b2 : (t902 == t904) = true := by simpa using c112))
              clear c112
              (first | rw [c112b0] | (simp only [i64_w, i32_w]; rw [c112b0]) | skip)
              have H' := Aside0.mk H
              clear H
              go_wp2
              go_meet
              case rel => exact ⟨_, ((t901 != t903)), (by first | rfl | (simp; done) | (simp [*]; done)), H', ⟨by have := HJ7.out; have := HJ17.out; have := HJ40.out; have := HJ68.out; first | omega | exact Nat.le_refl _⟩, ⟨by (with_reducible repeat (first | apply Kd.R_alloc | apply Kd.R_drewN | apply Kd.R_drew)); exact HO900.out⟩, ⟨by repeat (first | (with_reducible first | exact HB.out | apply below_alloc | apply pw_below_drewN | apply below_drew1) | exact HB.out)⟩⟩
            case rest => as_aux_lemma =>
             clear HC107
             try clear c1
             try clear c2
             try clear p2
             try clear c3
             try clear c4
             try clear c5
             try clear c6
             try clear p6
             try clear c7
             try clear c8
             try clear p8
             try clear q8
             try clear hx8
             try clear qi8
             try clear c9
             try clear c10
             try clear c11
             try clear c21
             try clear c23
             try clear c24
             try clear c24b0
             try clear c26
             try clear c27
             try clear c28
             try clear c33
             try clear c38
             try clear c40
             try clear c48
             try clear c48b0
             try clear c48b1
             try clear c48b2
             try clear c50
             try clear c51
             try clear c51b0
             try clear c51b1
             try clear c51b2
             try clear c52
             try clear c53
             try clear c54
             try clear c55
             try clear c56
             try clear p64
             try clear c68
             try clear c70
             try clear c71
             try clear c71b0
             try clear c71b1
             try clear c72
             try clear c72b0
             try clear c72b1
             try clear c72b2
             try clear c74
             try clear c74b0
             try clear c75
             try clear c75b0
             try clear c76
             try clear c76b0
             try clear c80
             try clear c82
             try clear c83
             try clear c83b0
             try clear c83b1
             try clear c84
             try clear c84b0
             try clear c84b1
             try clear c88
             try clear p88
             try clear q88
             try clear hx88
             try clear p89
             try clear q89
             try clear hx89
             try clear qi89
             try clear c90
             try clear c92
             try clear c93
             try clear c93b0
             try clear c93b1
             try clear c94
             try clear c94b0
             try clear c94b1
             try clear c95
             try clear c95b0
             try clear c103
             try clear c112
             try clear c112b0
             try clear c112b1
             try clear c112b2
             try clear hx886_0
             try clear hx887_0
             try clear hx893_0
             try clear hx894_0
             try clear hx895_0
             try clear hx896_0
             try clear p2
             try clear p6
             try clear p64
             try clear p8
             try clear p88
             try clear p886
             try clear p887
             try clear p89
             try clear p893
             try clear p894
             try clear p895
             try clear p896
             try clear q8
             try clear q88
             try clear q886
             try clear q887
             try clear q89
             try clear q893
             try clear q894
             try clear q895
             try clear q896
             obtain ⟨kq, x207_106, rfl, HA, HJ106, HO_28, HB⟩ := hcut
             cases kq with
             | zero => exact absurd HA.out (by simp [laws_FnMarkovMoves.j8])
             | succ kj106 =>
              have H := HA.out; clear HA
              simp only [laws_FnMarkovMoves.j8] at H
              by_cases c113 : x207_106 = true
              ·subst c113
               have H1 : (some false) = some r := by rw [if_pos rfl] at H; exact H
               clear H; have H := H1; clear H1
               obtain rfl := Option.some.inj H
               go_wp2
               go_ret
               exact ⟨by first | rfl | (simp [errW_none, errW_some] <;> rfl) | (simp [*, errW_none, errW_some] <;> rfl), by repeat (first | (with_reducible first | exact HB.out | apply below_alloc | apply pw_below_drewN | apply below_drew1) | exact HB.out)⟩
              ·as_aux_lemma =>
               replace c113 := Bool.eq_false_iff.mpr c113
               subst c113
               have H1 : (if t901 = true then (if 2 < (t898.length : Int) then (if 0 < (t898.length : Int) then (if 1 < (t898.length : Int) then ((impl_SolvesMarkov.f (([rd t898 2, rd t898 0, rd t898 1] : List Int))).bind fun bt911 => (if bt911.2 = true then (some bt911.1) else (some false))) else (none)) else (none)) else (none)) else (some true)) = some r := by rw [if_neg (show ¬ (false = true) by decide)] at H; exact H
               clear H; have H := H1; clear H1
               by_cases c114 : t901 = true
               ·as_aux_lemma =>
                subst c114
                have H1 : (if 2 < (t898.length : Int) then (if 0 < (t898.length : Int) then (if 1 < (t898.length : Int) then ((impl_SolvesMarkov.f (([rd t898 2, rd t898 0, rd t898 1] : List Int))).bind fun bt911 => (if bt911.2 = true then (some bt911.1) else (some false))) else (none)) else (none)) else (none)) = some r := by rw [if_pos rfl] at H; exact H
                clear H; have H := H1; clear H1
                by_cases c115 : 2 < (t898.length : Int)
                rotate_left
                ·rw [if_neg c115] at H
                 exact absurd H (by simp)
                as_aux_lemma =>
                rw [if_pos c115] at H
                have c115b0 : decide (2 < (t898.length : Int)) = true := decide_eq_true c115
                have c115b1 : decide (2 < t898.length) = true := decide_eq_true (by omega)
                clear c115
                by_cases c116 : 0 < (t898.length : Int)
                rotate_left
                ·rw [if_neg c116] at H
                 exact absurd H (by simp)
                as_aux_lemma =>
                rw [if_pos c116] at H
                have c116b0 : decide (0 < (t898.length : Int)) = true := decide_eq_true c116
                have c116b1 : decide (0 < t898.length) = true := decide_eq_true (by omega)
                clear c116
                by_cases c117 : 1 < (t898.length : Int)
                rotate_left
                ·rw [if_neg c117] at H
                 exact absurd H (by simp)
                as_aux_lemma =>
                rw [if_pos c117] at H
                have c117b0 : decide (1 < (t898.length : Int)) = true := decide_eq_true c117
                have c117b1 : decide (1 < t898.length) = true := decide_eq_true (by omega)
                clear c117
                obtain ⟨y908, hy908⟩ : ∃ y_ : List Int, y_ = (([rd t898 2, rd t898 0, rd t898 1] : List Int)) := ⟨_, rfl⟩
                replace H : ((impl_SolvesMarkov.f y908).bind fun bt911 => (if bt911.2 = true then (some bt911.1) else (some false))) = some r := by first | (rw [hy908]; with_reducible exact H) | (have H2_ := (Option.bind_some _ _).symm.trans H; rw [hy908]; with_reducible exact H2_) | (have H2_ := (Option.bind_some _ _).symm.trans H; with_reducible exact H2_) | with_reducible exact H | (rw [hy908]; exact H) | exact H
                have Ny908 := Aside0.mk hy908
                clear hy908
                replace H := Option.bind_eq_some_iff.mp H
                obtain ⟨⟨t911, t912⟩, A1180, H⟩ := H
                replace H : (if t912 = true then (some t911) else (some false)) = some r := H
                have A118 := Aside0.mk A1180
                clear A1180
                by_cases c119 : t912 = true
                ·as_aux_lemma =>
                 subst c119
                 have H1 : (some t911) = some r := by rw [if_pos rfl] at H; exact H
                 clear H; have H := H1; clear H1
                 obtain rfl := Option.some.inj H
                 try go_wp2
                 have n0_ := Aside0.mk (Kd.R_drew HO_28.out)
                 have n1_ := Aside0.mk (below_drew1 HB.out)
                 clear HO_28; clear HB; have HO_28 := n0_; have HB := n1_; clear n0_ n1_
                 have p905 : 0 ≤ (2 : Int) := (by omega)
                 have q905 : 2 < (t898.length : Int) := of_decide_eq_true (by first | (with_reducible assumption) | assumption)
                 obtain ⟨ad905, e905, hx905_0⟩ := Kd.at_int (Kd.R_reads' HO_28.out).2.2 2 p905 q905
                 cases e905
                 (try simp only [show (2 : Int).toNat = 2 from rfl, Nat.reduceMul, Nat.reduceEqDiff, Go.Addr.add, ↓reduceIte] at hx905_0)
                 have qi905 : (2 < t898.length) = True := eq_true (by omega)
                 (try rw [show ((2 : Int)).toNat = 2 from rfl] at hx905_0)
                 replace p905 := eq_true p905; replace q905 := eq_true q905
                 have p906 : 0 ≤ (0 : Int) := (by omega)
                 have q906 : 0 < (t898.length : Int) := of_decide_eq_true (by first | (with_reducible assumption) | assumption)
                 obtain ⟨ad906, e906, hx906_0⟩ := Kd.at_int (Kd.R_reads' HO_28.out).2.2 0 p906 q906
                 obtain rfl : ad905 = ad906 := (by injection e906)
                 have qi906 : (0 < t898.length) = True := eq_true (by omega)
                 (try rw [show ((0 : Int)).toNat = 0 from rfl] at hx906_0)
                 (try rw [Addr.add_zero'] at hx906_0)
                 replace p906 := eq_true p906; replace q906 := eq_true q906
                 have p907 : 0 ≤ (1 : Int) := (by omega)
                 have q907 : 1 < (t898.length : Int) := of_decide_eq_true (by first | (with_reducible assumption) | assumption)
                 obtain ⟨ad907, e907, hx907_0⟩ := Kd.at_int (Kd.R_reads' HO_28.out).2.2 1 p907 q907
                 obtain rfl : ad905 = ad907 := (by injection e907)
                 (try simp only [show (1 : Int).toNat = 1 from rfl, Nat.reduceMul, Nat.reduceEqDiff, Go.Addr.add, ↓reduceIte] at hx907_0)
                 have qi907 : (1 < t898.length) = True := eq_true (by omega)
                 (try rw [show ((1 : Int)).toNat = 1 from rfl] at hx907_0)
                 replace p907 := eq_true p907; replace q907 := eq_true q907
                 refine start_ (n := 16) (S := fun w' => w'.cell? ⟨ad905.block, ad905.off + 2, none⟩ = some (.int .i64 (rd t898 2)) ∧ w'.cell? ad905 = some (.int .i64 (rd t898 0)) ∧ w'.cell? ⟨ad905.block, ad905.off + 1, none⟩ = some (.int .i64 (rd t898 1))) (ds := []) b38MM (by kernel_rfl) rfl rfl ⟨hx905_0, hx906_0, hx907_0⟩ (fun hHeld => ?_); refine with_tabW laws_FnMarkovMoves.tab44 laws_FnMarkovMoves.bits44 (fun HT_ HW_ => ?_)
                 generalize wc.drew = w120 at HO_28 HB hx905_0 hx906_0 hx907_0 hHeld ⊢
                 refine pure_ (i := 0) (N := some 210) (v := ?_) (a' := ?_) b39MM rfl rfl (any_of HT_.out (by kernel_rfl)) (fun _ _ _ h => h) (Or.inl ⟨by rfl, ?_⟩) ?_ ?_
                 rotate_left
                 ·intro w'
                  go_simp
                  with_reducible rfl
                 rotate_left
                 ·simp only [Act.put, List.setIfInBounds_toArray, List.set_cons_zero, List.set_cons_succ, i64_w]
                  rfl
                 refine pure_ (i := 1) (N := some 211) (v := ?_) (a' := ?_) b40MM rfl rfl (any_of HT_.out (by kernel_rfl)) (fun _ _ _ h => h) (Or.inl ⟨by rfl, ?_⟩) ?_ ?_
                 rotate_left
                 ·intro w'
                  go_simp
                  with_reducible rfl
                 rotate_left
                 ·simp only [Act.put, List.setIfInBounds_toArray, List.set_cons_zero, List.set_cons_succ, i64_w]
                  rfl
                 refine pure_ (i := 3) (N := some 213) (v := ?_) (a' := ?_) b41MM rfl rfl (any_of HT_.out (by kernel_rfl)) (fun _ _ _ h => h) (Or.inl ⟨by rfl, ?_⟩) ?_ ?_
                 rotate_left
                 ·intro w'
                  go_simp
                  with_reducible rfl
                 rotate_left
                 ·simp only [Act.put, List.setIfInBounds_toArray, List.set_cons_zero, List.set_cons_succ, i64_w]
                  rfl
                 refine pure_ (i := 4) (N := some 214) (v := ?_) (a' := ?_) b42MM rfl rfl (any_of HT_.out (by kernel_rfl)) (fun _ _ _ h => h) (Or.inl ⟨by rfl, ?_⟩) ?_ ?_
                 rotate_left
                 ·intro w'
                  go_simp
                  with_reducible rfl
                 rotate_left
                 ·simp only [Act.put, List.setIfInBounds_toArray, List.set_cons_zero, List.set_cons_succ, i64_w]
                  rfl
                 refine pure_ (i := 6) (N := some 216) (v := ?_) (a' := ?_) b43MM rfl rfl (any_of HT_.out (by kernel_rfl)) (fun _ _ _ h => h) (Or.inl ⟨by rfl, ?_⟩) ?_ ?_
                 rotate_left
                 ·intro w'
                  go_simp
                  with_reducible rfl
                 rotate_left
                 ·simp only [Act.put, List.setIfInBounds_toArray, List.set_cons_zero, List.set_cons_succ, i64_w]
                  rfl
                 refine pure_ (i := 7) (N := some 217) (v := ?_) (a' := ?_) b44MM rfl rfl (any_of HT_.out (by kernel_rfl)) (fun _ _ _ h => h) (Or.inl ⟨by rfl, ?_⟩) ?_ ?_
                 rotate_left
                 ·intro w'
                  go_simp
                  with_reducible rfl
                 rotate_left
                 ·simp only [Act.put, List.setIfInBounds_toArray, List.set_cons_zero, List.set_cons_succ, i64_w]
                  rfl
                 refine take_ (i := 2) (N := some 212) (v := ?_) (a' := ?_) b45MM rfl rfl (take_ofW HT_.out HW_.out (by kernel_rfl)) (fun _ _ _ h => h) (Or.inl ⟨by rfl, ?_⟩) hHeld ?_ ?_
                 rotate_left
                 ·rintro w' ⟨s0, s1, s2⟩
                  go_simp
                  with_reducible rfl
                 rotate_left
                 ·simp only [Act.put, List.setIfInBounds_toArray, List.set_cons_zero, List.set_cons_succ, i64_w]
                  rfl
                 refine take_ (i := 5) (N := some 215) (v := ?_) (a' := ?_) b46MM rfl rfl (take_ofW HT_.out HW_.out (by kernel_rfl)) (fun _ _ _ h => h) (Or.inl ⟨by rfl, ?_⟩) hHeld ?_ ?_
                 rotate_left
                 ·rintro w' ⟨s0, s1, s2⟩
                  go_simp
                  with_reducible rfl
                 rotate_left
                 ·simp only [Act.put, List.setIfInBounds_toArray, List.set_cons_zero, List.set_cons_succ, i64_w]
                  rfl
                 refine take_ (i := 8) (N := some 218) (v := ?_) (a' := ?_) b47MM rfl rfl (take_ofW HT_.out HW_.out (by kernel_rfl)) (fun _ _ _ h => h) (Or.inl ⟨by rfl, ?_⟩) hHeld ?_ ?_
                 rotate_left
                 ·rintro w' ⟨s0, s1, s2⟩
                  go_simp
                  with_reducible rfl
                 rotate_left
                 ·simp only [Act.put, List.setIfInBounds_toArray, List.set_cons_zero, List.set_cons_succ, i64_w]
                  rfl
                 refine one_ (i := 9) (N := some 219) b48MM rfl rfl (one_of HT_.out (by kernel_rfl)) (by decide) (fun K hK => ?_)
                 refine Kd.R_lit_step (Kd.int .i64) _ 3 ?hg (N := 219) ?hd (xs := ([rd t898 2, rd t898 0, rd t898 1] : List Int)) (inner := [.int .i64 (rd t898 2), .int .i64 (rd t898 0), .int .i64 (rd t898 1)]) (ok := fun _ => True) (okp := fun _ => True) ?hr ?hp (fun _ hk => hk) trivial (Below.refl _ _) (Nat.le_refl _) (by simp) ?_; (case hd => rfl); (case hg => rfl); (case hr => first | (go_simp; done) | (go_simp; rfl)); (case hp => exact (Reps.one (show Kd.M (Kd.int .i64) _ _ _ (rd t898 2) [.int .i64 (rd t898 2)] from rfl) (Reps.one (show Kd.M (Kd.int .i64) _ _ _ (rd t898 0) [.int .i64 (rd t898 0)] from rfl) (Reps.one (show Kd.M (Kd.int .i64) _ _ _ (rd t898 1) [.int .i64 (rd t898 1)] from rfl) (Reps.none _ _)))))
                 intro v909 w121 ho122 hb hg_ hnew_
                 have HS0_ := (hb.cell (World.block_lt_of_cell? _ _ (hHeld.1))).trans (hHeld.1)
                 have HS1_ := (hb.cell (World.block_lt_of_cell? _ _ (hHeld.2.1))).trans (hHeld.2.1)
                 have HS2_ := (hb.cell (World.block_lt_of_cell? _ _ (hHeld.2.2))).trans (hHeld.2.2)
                 clear hg_ hnew_
                 (first | rw [← Ny908.out] at ho122 | (simp only [Int.reduceToNat] at ho122; rw [← Ny908.out] at ho122))
                 have n0_ := Aside0.mk (Kd.R_elder' (by (with_reducible repeat (first | apply Kd.R_alloc | apply Kd.R_drewN | apply Kd.R_drew)); exact HO_28.out) (Kd.R_base ho122) hb)
                 have n1_ := Aside0.mk (Kd.R_lower (Kd.R_new' ho122 (Kd.R_lt (by (with_reducible repeat (first | apply Kd.R_alloc | apply Kd.R_drewN | apply Kd.R_drew)); exact HO_28.out))) (below_size (by repeat (first | (with_reducible first | exact HB.out | apply below_alloc | apply pw_below_drewN | apply below_drew1) | exact HB.out))))
                 have n2_ := Aside0.mk (below_step (by repeat (first | (with_reducible first | exact HB.out | apply below_alloc | apply pw_below_drewN | apply below_drew1) | exact HB.out)) hb)
                 clear HO_28; clear HB; have HO_28 := n0_; have HO910 := n1_; have HB := n2_; clear n0_ n1_ n2_; clear hb ho122
                 obtain ⟨Ao123, co123, eo123⟩ := Kd.R_slice HO910.out
                 (first | subst eo123 | (injection eo123 with f1_ f2_ f3_; have f4_ := f1_.symm; have f5_ := f3_.symm; clear f1_ f2_ f3_; subst f4_; subst f5_))
                 refine hK.out _ _ ⟨HS0_, HS1_, HS2_⟩ (fun hHeld => ?_)
                 clear hK K
                 refine norm_ (a' := ?_) ?_ ?_
                 rotate_left
                 ·show Act.put _ (some 219) _ = _
                  simp only [Act.put, List.setIfInBounds_toArray, List.set_cons_zero, List.set_cons_succ, i64_w]
                  rfl
                 refine one_ (i := 10) (N := some 220) b49MM rfl rfl (one_of HT_.out (by kernel_rfl)) (by decide) (fun K hK => ?_)
                 refine goes_ Try.func55 (by kernel_rfl) rfl #[.slice Ao123 y908.length co123] (by rfl) rfl rfl (by (try simp only [List.map_toArray, List.map_cons, List.map_nil]); first | done | rfl) ?_
                 with_reducible refine (impl_SolvesMarkov.calls _ _ y908 t911 true _ ?side1 ?side2 A118.out).mono ?_
                 (case side1 => repeat (first | exact (Kd.R_reads' HO910.out).2.2 | (with_reducible refine Kd.C_alloc ?_ _) | (with_reducible refine Kd.C_drewN ?_ _) | (with_reducible refine Kd.C_drew ?_)))
                 (case side2 => exact (Kd.R_reads' HO910.out).2.1)
                 rintro e w124 ⟨rfl, hb⟩
                 have HS0_ := (hb.cell (World.block_lt_of_cell? _ _ (hHeld.1))).trans (hHeld.1)
                 have HS1_ := (hb.cell (World.block_lt_of_cell? _ _ (hHeld.2.1))).trans (hHeld.2.1)
                 have HS2_ := (hb.cell (World.block_lt_of_cell? _ _ (hHeld.2.2))).trans (hHeld.2.2)
                 refine ⟨_, rfl, ?_⟩
                 have n0_ := Aside0.mk (Kd.R_below (by (with_reducible repeat (first | apply Kd.R_alloc | apply Kd.R_drewN | apply Kd.R_drew)); exact HO_28.out) hb)
                 have n1_ := Aside0.mk (Kd.R_below (by (with_reducible repeat (first | apply Kd.R_alloc | apply Kd.R_drewN | apply Kd.R_drew)); exact HO910.out) hb)
                 have n2_ := Aside0.mk (below_step (by repeat (first | (with_reducible first | exact HB.out | apply below_alloc | apply pw_below_drewN | apply below_drew1) | exact HB.out)) hb)
                 clear HO_28; clear HO910; clear HB; have HO_28 := n0_; have HO910 := n1_; have HB := n2_; clear n0_ n1_ n2_; (try clear hb); (try clear hb2); (try clear hk); (try clear hi)
                 refine hK.out _ _ ⟨HS0_, HS1_, HS2_⟩ (fun hHeld => ?_)
                 clear hK K
                 refine norm_ (a' := ?_) ?_ ?_
                 rotate_left
                 ·show Act.put _ (some 220) _ = _
                  simp only [Act.put, List.setIfInBounds_toArray, List.set_cons_zero, List.set_cons_succ, i64_w]
                  rfl
                 refine pure_ (i := 11) (N := some 209) (v := ?_) (a' := ?_) b50MM rfl rfl (any_of HT_.out (by kernel_rfl)) (fun _ _ _ h => h) (Or.inl ⟨by rfl, ?_⟩) ?_ ?_
                 rotate_left
                 ·intro w'
                  go_simp
                  with_reducible rfl
                 rotate_left
                 ·simp only [Act.put, List.setIfInBounds_toArray, List.set_cons_zero, List.set_cons_succ, i64_w]
                  rfl
                 refine pure_ (i := 12) (N := some 221) (v := ?_) (a' := ?_) b51MM rfl rfl (any_of HT_.out (by kernel_rfl)) (fun _ _ _ h => h) (Or.inl ⟨by rfl, ?_⟩) ?_ ?_
                 rotate_left
                 ·intro w'
                  go_simp
                  with_reducible rfl
                 rotate_left
                 ·simp only [Act.put, List.setIfInBounds_toArray, List.set_cons_zero, List.set_cons_succ, i64_w]
                  rfl
                 refine pure_ (i := 13) (N := some 222) (v := ?_) (a' := ?_) b52MM rfl rfl (any_of HT_.out (by kernel_rfl)) (fun _ _ _ h => h) (Or.inl ⟨by rfl, ?_⟩) ?_ ?_
                 rotate_left
                 ·intro w'
                  go_simp
                  with_reducible rfl
                 rotate_left
                 ·simp only [Act.put, List.setIfInBounds_toArray, List.set_cons_zero, List.set_cons_succ, i64_w]
                  rfl
                 refine pure_ (i := 14) (N := some 33) (v := ?_) (a' := ?_) b53MM rfl rfl (any_of HT_.out (by kernel_rfl)) (fun _ _ _ h => h) (Or.inl ⟨by rfl, ?_⟩) ?_ ?_
                 rotate_left
                 ·intro w'
                  go_simp
                  with_reducible rfl
                 rotate_left
                 ·simp only [Act.put, List.setIfInBounds_toArray, List.set_cons_zero, List.set_cons_succ, i64_w]
                  rfl
                 refine pure_ (i := 15) (N := some 34) (v := ?_) (a' := ?_) b54MM rfl rfl (any_of HT_.out (by kernel_rfl)) (fun _ _ _ h => h) (Or.inl ⟨by rfl, ?_⟩) ?_ ?_
                 rotate_left
                 ·intro w'
                  go_simp
                  with_reducible rfl
                 rotate_left
                 ·simp only [Act.put, List.setIfInBounds_toArray, List.set_cons_zero, List.set_cons_succ, i64_w]
                  rfl
                 refine done_ (done_of HT_.out (by kernel_rfl)) ?_
                 try go_wp2
                 go_ret
                 exact ⟨by first | rfl | (simp [errW_none, errW_some] <;> rfl) | (simp [*, errW_none, errW_some] <;> rfl), by repeat (first | (with_reducible first | exact HB.out | apply below_alloc | apply pw_below_drewN | apply below_drew1) | exact HB.out)⟩
                ·as_aux_lemma =>
                 replace c119 := Bool.eq_false_iff.mpr c119
                 subst c119
                 have H1 : (some false) = some r := by rw [if_neg (show ¬ (false = true) by decide)] at H; exact H
                 clear H; have H := H1; clear H1
                 obtain rfl := Option.some.inj H
                 try go_wp2
                 have n0_ := Aside0.mk (Kd.R_drew HO_28.out)
                 have n1_ := Aside0.mk (below_drew1 HB.out)
                 clear HO_28; clear HB; have HO_28 := n0_; have HB := n1_; clear n0_ n1_
                 have p905 : 0 ≤ (2 : Int) := (by omega)
                 have q905 : 2 < (t898.length : Int) := of_decide_eq_true (by first | (with_reducible assumption) | assumption)
                 obtain ⟨ad905, e905, hx905_0⟩ := Kd.at_int (Kd.R_reads' HO_28.out).2.2 2 p905 q905
                 cases e905
                 (try simp only [show (2 : Int).toNat = 2 from rfl, Nat.reduceMul, Nat.reduceEqDiff, Go.Addr.add, ↓reduceIte] at hx905_0)
                 have qi905 : (2 < t898.length) = True := eq_true (by omega)
                 (try rw [show ((2 : Int)).toNat = 2 from rfl] at hx905_0)
                 replace p905 := eq_true p905; replace q905 := eq_true q905
                 have p906 : 0 ≤ (0 : Int) := (by omega)
                 have q906 : 0 < (t898.length : Int) := of_decide_eq_true (by first | (with_reducible assumption) | assumption)
                 obtain ⟨ad906, e906, hx906_0⟩ := Kd.at_int (Kd.R_reads' HO_28.out).2.2 0 p906 q906
                 obtain rfl : ad905 = ad906 := (by injection e906)
                 have qi906 : (0 < t898.length) = True := eq_true (by omega)
                 (try rw [show ((0 : Int)).toNat = 0 from rfl] at hx906_0)
                 (try rw [Addr.add_zero'] at hx906_0)
                 replace p906 := eq_true p906; replace q906 := eq_true q906
                 have p907 : 0 ≤ (1 : Int) := (by omega)
                 have q907 : 1 < (t898.length : Int) := of_decide_eq_true (by first | (with_reducible assumption) | assumption)
                 obtain ⟨ad907, e907, hx907_0⟩ := Kd.at_int (Kd.R_reads' HO_28.out).2.2 1 p907 q907
                 obtain rfl : ad905 = ad907 := (by injection e907)
                 (try simp only [show (1 : Int).toNat = 1 from rfl, Nat.reduceMul, Nat.reduceEqDiff, Go.Addr.add, ↓reduceIte] at hx907_0)
                 have qi907 : (1 < t898.length) = True := eq_true (by omega)
                 (try rw [show ((1 : Int)).toNat = 1 from rfl] at hx907_0)
                 replace p907 := eq_true p907; replace q907 := eq_true q907
                 refine start_ (n := 16) (S := fun w' => w'.cell? ⟨ad905.block, ad905.off + 2, none⟩ = some (.int .i64 (rd t898 2)) ∧ w'.cell? ad905 = some (.int .i64 (rd t898 0)) ∧ w'.cell? ⟨ad905.block, ad905.off + 1, none⟩ = some (.int .i64 (rd t898 1))) (ds := []) b38MM (by kernel_rfl) rfl rfl ⟨hx905_0, hx906_0, hx907_0⟩ (fun hHeld => ?_); refine with_tabW laws_FnMarkovMoves.tab44 laws_FnMarkovMoves.bits44 (fun HT_ HW_ => ?_)
                 generalize wc.drew = w125 at HO_28 HB hx905_0 hx906_0 hx907_0 hHeld ⊢
                 refine pure_ (i := 0) (N := some 210) (v := ?_) (a' := ?_) b39MM rfl rfl (any_of HT_.out (by kernel_rfl)) (fun _ _ _ h => h) (Or.inl ⟨by rfl, ?_⟩) ?_ ?_
                 rotate_left
                 ·intro w'
                  go_simp
                  with_reducible rfl
                 rotate_left
                 ·simp only [Act.put, List.setIfInBounds_toArray, List.set_cons_zero, List.set_cons_succ, i64_w]
                  rfl
                 refine pure_ (i := 1) (N := some 211) (v := ?_) (a' := ?_) b40MM rfl rfl (any_of HT_.out (by kernel_rfl)) (fun _ _ _ h => h) (Or.inl ⟨by rfl, ?_⟩) ?_ ?_
                 rotate_left
                 ·intro w'
                  go_simp
                  with_reducible rfl
                 rotate_left
                 ·simp only [Act.put, List.setIfInBounds_toArray, List.set_cons_zero, List.set_cons_succ, i64_w]
                  rfl
                 refine pure_ (i := 3) (N := some 213) (v := ?_) (a' := ?_) b41MM rfl rfl (any_of HT_.out (by kernel_rfl)) (fun _ _ _ h => h) (Or.inl ⟨by rfl, ?_⟩) ?_ ?_
                 rotate_left
                 ·intro w'
                  go_simp
                  with_reducible rfl
                 rotate_left
                 ·simp only [Act.put, List.setIfInBounds_toArray, List.set_cons_zero, List.set_cons_succ, i64_w]
                  rfl
                 refine pure_ (i := 4) (N := some 214) (v := ?_) (a' := ?_) b42MM rfl rfl (any_of HT_.out (by kernel_rfl)) (fun _ _ _ h => h) (Or.inl ⟨by rfl, ?_⟩) ?_ ?_
                 rotate_left
                 ·intro w'
                  go_simp
                  with_reducible rfl
                 rotate_left
                 ·simp only [Act.put, List.setIfInBounds_toArray, List.set_cons_zero, List.set_cons_succ, i64_w]
                  rfl
                 refine pure_ (i := 6) (N := some 216) (v := ?_) (a' := ?_) b43MM rfl rfl (any_of HT_.out (by kernel_rfl)) (fun _ _ _ h => h) (Or.inl ⟨by rfl, ?_⟩) ?_ ?_
                 rotate_left
                 ·intro w'
                  go_simp
                  with_reducible rfl
                 rotate_left
                 ·simp only [Act.put, List.setIfInBounds_toArray, List.set_cons_zero, List.set_cons_succ, i64_w]
                  rfl
                 refine pure_ (i := 7) (N := some 217) (v := ?_) (a' := ?_) b44MM rfl rfl (any_of HT_.out (by kernel_rfl)) (fun _ _ _ h => h) (Or.inl ⟨by rfl, ?_⟩) ?_ ?_
                 rotate_left
                 ·intro w'
                  go_simp
                  with_reducible rfl
                 rotate_left
                 ·simp only [Act.put, List.setIfInBounds_toArray, List.set_cons_zero, List.set_cons_succ, i64_w]
                  rfl
                 refine take_ (i := 2) (N := some 212) (v := ?_) (a' := ?_) b45MM rfl rfl (take_ofW HT_.out HW_.out (by kernel_rfl)) (fun _ _ _ h => h) (Or.inl ⟨by rfl, ?_⟩) hHeld ?_ ?_
                 rotate_left
                 ·rintro w' ⟨s0, s1, s2⟩
                  go_simp
                  with_reducible rfl
                 rotate_left
                 ·simp only [Act.put, List.setIfInBounds_toArray, List.set_cons_zero, List.set_cons_succ, i64_w]
                  rfl
                 refine take_ (i := 5) (N := some 215) (v := ?_) (a' := ?_) b46MM rfl rfl (take_ofW HT_.out HW_.out (by kernel_rfl)) (fun _ _ _ h => h) (Or.inl ⟨by rfl, ?_⟩) hHeld ?_ ?_
                 rotate_left
                 ·rintro w' ⟨s0, s1, s2⟩
                  go_simp
                  with_reducible rfl
                 rotate_left
                 ·simp only [Act.put, List.setIfInBounds_toArray, List.set_cons_zero, List.set_cons_succ, i64_w]
                  rfl
                 refine take_ (i := 8) (N := some 218) (v := ?_) (a' := ?_) b47MM rfl rfl (take_ofW HT_.out HW_.out (by kernel_rfl)) (fun _ _ _ h => h) (Or.inl ⟨by rfl, ?_⟩) hHeld ?_ ?_
                 rotate_left
                 ·rintro w' ⟨s0, s1, s2⟩
                  go_simp
                  with_reducible rfl
                 rotate_left
                 ·simp only [Act.put, List.setIfInBounds_toArray, List.set_cons_zero, List.set_cons_succ, i64_w]
                  rfl
                 refine one_ (i := 9) (N := some 219) b48MM rfl rfl (one_of HT_.out (by kernel_rfl)) (by decide) (fun K hK => ?_)
                 refine Kd.R_lit_step (Kd.int .i64) _ 3 ?hg (N := 219) ?hd (xs := ([rd t898 2, rd t898 0, rd t898 1] : List Int)) (inner := [.int .i64 (rd t898 2), .int .i64 (rd t898 0), .int .i64 (rd t898 1)]) (ok := fun _ => True) (okp := fun _ => True) ?hr ?hp (fun _ hk => hk) trivial (Below.refl _ _) (Nat.le_refl _) (by simp) ?_; (case hd => rfl); (case hg => rfl); (case hr => first | (go_simp; done) | (go_simp; rfl)); (case hp => exact (Reps.one (show Kd.M (Kd.int .i64) _ _ _ (rd t898 2) [.int .i64 (rd t898 2)] from rfl) (Reps.one (show Kd.M (Kd.int .i64) _ _ _ (rd t898 0) [.int .i64 (rd t898 0)] from rfl) (Reps.one (show Kd.M (Kd.int .i64) _ _ _ (rd t898 1) [.int .i64 (rd t898 1)] from rfl) (Reps.none _ _)))))
                 intro v909 w126 ho127 hb hg_ hnew_
                 have HS0_ := (hb.cell (World.block_lt_of_cell? _ _ (hHeld.1))).trans (hHeld.1)
                 have HS1_ := (hb.cell (World.block_lt_of_cell? _ _ (hHeld.2.1))).trans (hHeld.2.1)
                 have HS2_ := (hb.cell (World.block_lt_of_cell? _ _ (hHeld.2.2))).trans (hHeld.2.2)
                 clear hg_ hnew_
                 (first | rw [← Ny908.out] at ho127 | (simp only [Int.reduceToNat] at ho127; rw [← Ny908.out] at ho127))
                 have n0_ := Aside0.mk (Kd.R_elder' (by (with_reducible repeat (first | apply Kd.R_alloc | apply Kd.R_drewN | apply Kd.R_drew)); exact HO_28.out) (Kd.R_base ho127) hb)
                 have n1_ := Aside0.mk (Kd.R_lower (Kd.R_new' ho127 (Kd.R_lt (by (with_reducible repeat (first | apply Kd.R_alloc | apply Kd.R_drewN | apply Kd.R_drew)); exact HO_28.out))) (below_size (by repeat (first | (with_reducible first | exact HB.out | apply below_alloc | apply pw_below_drewN | apply below_drew1) | exact HB.out))))
                 have n2_ := Aside0.mk (below_step (by repeat (first | (with_reducible first | exact HB.out | apply below_alloc | apply pw_below_drewN | apply below_drew1) | exact HB.out)) hb)
                 clear HO_28; clear HB; have HO_28 := n0_; have HO910 := n1_; have HB := n2_; clear n0_ n1_ n2_; clear hb ho127
                 obtain ⟨Ao128, co128, eo128⟩ := Kd.R_slice HO910.out
                 (first | subst eo128 | (injection eo128 with f1_ f2_ f3_; have f4_ := f1_.symm; have f5_ := f3_.symm; clear f1_ f2_ f3_; subst f4_; subst f5_))
                 refine hK.out _ _ ⟨HS0_, HS1_, HS2_⟩ (fun hHeld => ?_)
                 clear hK K
                 refine norm_ (a' := ?_) ?_ ?_
                 rotate_left
                 ·show Act.put _ (some 219) _ = _
                  simp only [Act.put, List.setIfInBounds_toArray, List.set_cons_zero, List.set_cons_succ, i64_w]
                  rfl
                 refine one_ (i := 10) (N := some 220) b49MM rfl rfl (one_of HT_.out (by kernel_rfl)) (by decide) (fun K hK => ?_)
                 refine goes_ Try.func55 (by kernel_rfl) rfl #[.slice Ao128 y908.length co128] (by rfl) rfl rfl (by (try simp only [List.map_toArray, List.map_cons, List.map_nil]); first | done | rfl) ?_
                 with_reducible refine (impl_SolvesMarkov.calls _ _ y908 t911 false _ ?side1 ?side2 A118.out).mono ?_
                 (case side1 => repeat (first | exact (Kd.R_reads' HO910.out).2.2 | (with_reducible refine Kd.C_alloc ?_ _) | (with_reducible refine Kd.C_drewN ?_ _) | (with_reducible refine Kd.C_drew ?_)))
                 (case side2 => exact (Kd.R_reads' HO910.out).2.1)
                 rintro e w129 ⟨rfl, hb⟩
                 have HS0_ := (hb.cell (World.block_lt_of_cell? _ _ (hHeld.1))).trans (hHeld.1)
                 have HS1_ := (hb.cell (World.block_lt_of_cell? _ _ (hHeld.2.1))).trans (hHeld.2.1)
                 have HS2_ := (hb.cell (World.block_lt_of_cell? _ _ (hHeld.2.2))).trans (hHeld.2.2)
                 refine ⟨_, rfl, ?_⟩
                 have n0_ := Aside0.mk (Kd.R_below (by (with_reducible repeat (first | apply Kd.R_alloc | apply Kd.R_drewN | apply Kd.R_drew)); exact HO_28.out) hb)
                 have n1_ := Aside0.mk (Kd.R_below (by (with_reducible repeat (first | apply Kd.R_alloc | apply Kd.R_drewN | apply Kd.R_drew)); exact HO910.out) hb)
                 have n2_ := Aside0.mk (below_step (by repeat (first | (with_reducible first | exact HB.out | apply below_alloc | apply pw_below_drewN | apply below_drew1) | exact HB.out)) hb)
                 clear HO_28; clear HO910; clear HB; have HO_28 := n0_; have HO910 := n1_; have HB := n2_; clear n0_ n1_ n2_; (try clear hb); (try clear hb2); (try clear hk); (try clear hi)
                 refine hK.out _ _ ⟨HS0_, HS1_, HS2_⟩ (fun hHeld => ?_)
                 clear hK K
                 refine norm_ (a' := ?_) ?_ ?_
                 rotate_left
                 ·show Act.put _ (some 220) _ = _
                  simp only [Act.put, List.setIfInBounds_toArray, List.set_cons_zero, List.set_cons_succ, i64_w]
                  rfl
                 refine pure_ (i := 11) (N := some 209) (v := ?_) (a' := ?_) b50MM rfl rfl (any_of HT_.out (by kernel_rfl)) (fun _ _ _ h => h) (Or.inl ⟨by rfl, ?_⟩) ?_ ?_
                 rotate_left
                 ·intro w'
                  go_simp
                  with_reducible rfl
                 rotate_left
                 ·simp only [Act.put, List.setIfInBounds_toArray, List.set_cons_zero, List.set_cons_succ, i64_w]
                  rfl
                 refine pure_ (i := 12) (N := some 221) (v := ?_) (a' := ?_) b51MM rfl rfl (any_of HT_.out (by kernel_rfl)) (fun _ _ _ h => h) (Or.inl ⟨by rfl, ?_⟩) ?_ ?_
                 rotate_left
                 ·intro w'
                  go_simp
                  with_reducible rfl
                 rotate_left
                 ·simp only [Act.put, List.setIfInBounds_toArray, List.set_cons_zero, List.set_cons_succ, i64_w]
                  rfl
                 refine pure_ (i := 13) (N := some 222) (v := ?_) (a' := ?_) b52MM rfl rfl (any_of HT_.out (by kernel_rfl)) (fun _ _ _ h => h) (Or.inl ⟨by rfl, ?_⟩) ?_ ?_
                 rotate_left
                 ·intro w'
                  go_simp
                  with_reducible rfl
                 rotate_left
                 ·simp only [Act.put, List.setIfInBounds_toArray, List.set_cons_zero, List.set_cons_succ, i64_w]
                  rfl
                 refine pure_ (i := 14) (N := some 33) (v := ?_) (a' := ?_) b53MM rfl rfl (any_of HT_.out (by kernel_rfl)) (fun _ _ _ h => h) (Or.inl ⟨by rfl, ?_⟩) ?_ ?_
                 rotate_left
                 ·intro w'
                  go_simp
                  with_reducible rfl
                 rotate_left
                 ·simp only [Act.put, List.setIfInBounds_toArray, List.set_cons_zero, List.set_cons_succ, i64_w]
                  rfl
                 refine pure_ (i := 15) (N := some 34) (v := ?_) (a' := ?_) b54MM rfl rfl (any_of HT_.out (by kernel_rfl)) (fun _ _ _ h => h) (Or.inl ⟨by rfl, ?_⟩) ?_ ?_
                 rotate_left
                 ·intro w'
                  go_simp
                  with_reducible rfl
                 rotate_left
                 ·simp only [Act.put, List.setIfInBounds_toArray, List.set_cons_zero, List.set_cons_succ, i64_w]
                  rfl
                 refine done_ (done_of HT_.out (by kernel_rfl)) ?_
                 try go_wp2
                 go_ret
                 exact ⟨by first | rfl | (simp [errW_none, errW_some] <;> rfl) | (simp [*, errW_none, errW_some] <;> rfl), by repeat (first | (with_reducible first | exact HB.out | apply below_alloc | apply pw_below_drewN | apply below_drew1) | exact HB.out)⟩
               ·replace c114 := Bool.eq_false_iff.mpr c114
                subst c114
                have H1 : (some true) = some r := by rw [if_neg (show ¬ (false = true) by decide)] at H; exact H
                clear H; have H := H1; clear H1
                obtain rfl := Option.some.inj H
                go_wp2
                go_ret
                exact ⟨by first | rfl | (simp [errW_none, errW_some] <;> rfl) | (simp [*, errW_none, errW_some] <;> rfl), by repeat (first | (with_reducible first | exact HB.out | apply below_alloc | apply pw_below_drewN | apply below_drew1) | exact HB.out)⟩

/-- THE ONE PURE STATEMENT of laws_FnMarkovMoves: yours. -/
def laws_FnMarkovMoves.Pure : Prop := ∀ (l0 : List Int) (l1 : List Int), l0.length ≤ maxLen → l0.length * 1 ≤ 140737488351232 → (∀ x ∈ l0, (Lit.int .u8 x).wf = true) → l1.length ≤ maxLen → l1.length * 1 ≤ 140737488351232 → (∀ x ∈ l1, (Lit.int .u8 x).wf = true) → ∃ k, laws_FnMarkovMoves.f k l0 l1 = some true
theorem laws_FnMarkovMoves.walk (P : laws_FnMarkovMoves.Pure) (a0 : Option Addr) (len0 cap0 : Nat) (z0 : List Int) (a1 : Option Addr) (len1 cap1 : Nat) (z1 : List Int) (w : World) (w0 : (a0 = none ∧ len0 = 0 ∧ cap0 = 0 ∧ z0 = []) ∨ ∃ x, a0 = some x ∧ len0 ≤ cap0 ∧ cap0 ≤ maxLen ∧ z0.length = cap0 ∧ (∀ i, i < z0.length → w.cell? (x.add i) = some (.int .u8 (z0.getD i 0))) ∧ ∀ n ∈ z0, (Lit.int .u8 n).wf = true) (y0 : len0 * 1 ≤ 140737488351232) (w1 : (a1 = none ∧ len1 = 0 ∧ cap1 = 0 ∧ z1 = []) ∨ ∃ x, a1 = some x ∧ len1 ≤ cap1 ∧ cap1 ≤ maxLen ∧ z1.length = cap1 ∧ (∀ i, i < z1.length → w.cell? (x.add i) = some (.int .u8 (z1.getD i 0))) ∧ ∀ n ∈ z1, (Lit.int .u8 n).wf = true) (y1 : len1 * 1 ≤ 140737488351232) :
  Calls Try.prog 14 #[.slice a0 len0 cap0, .slice a1 len1 cap1] w fun e w' => e = .returned (.bool true) ∧ Below w.heap.size w w' := by
 obtain ⟨l0, rfl, hr0, hm0, hw0, hc0⟩ := ReadsInt.ofRowC w0
 obtain ⟨l1, rfl, hr1, hm1, hw1, hc1⟩ := ReadsInt.ofRowC w1
 obtain ⟨k, h⟩ := P l0 l1 hm0 y0 hw0 hm1 y1 hw1
 refine (laws_FnMarkovMoves.calls k _ _ l0 _ _ l1 true w (Kd.C_of_reads (d := (0 : Int)) (h1 := fun _ => rfl) hr0) hc0 (Kd.C_of_reads (d := (0 : Int)) (h1 := fun _ => rfl) hr1) hc1 h).mono ?_
 rintro e w' ⟨rfl, hd⟩
 exact ⟨rfl, hd⟩

end Go.Proofs.Ythkmbkibceojlaa.P
