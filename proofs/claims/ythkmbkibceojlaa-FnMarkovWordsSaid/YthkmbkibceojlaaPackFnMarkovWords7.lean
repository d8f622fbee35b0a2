/- The path leads down to 1 1 1, the word and the triple undo each other, the root is a root. No condition. -/
import Derived.Test.YthkmbkibceojlaaPackFnMarkovWords6
-- PFFnMarkovWords
namespace Go.Proofs.Ythkmbkibceojlaa.P
open Go.RowKit Go.Proofs.YthkmbkibceojlaaW.PrintWords Go.Proofs.YthkmbkibceojlaaW.PrintLast
set_option linter.unusedVariables false
set_option linter.unusedSimpArgs false

/-! ### laws_FnMarkovWords: function 12 -/
mutual
def laws_FnMarkovWords.j0 : Nat → List Int → List Int → List (List Int) → Bool → ByteArray → Bool → Int → Bool → Option (Bool)
 | 0, _, _, _, _, _, _, _, _ => none
 | k + 1, x1, x5, x6, x7, x10, x11, x14, x104 => if x104 = true then (some false) else (if x7 = true then (if 0 < (x6.length : Int) then ((laws_dSame.f k (rd_L1 x6 0) x5).bind fun t758 => (if t758 = true then (if 0 ≤ (wrap64 ((x6.length : Int) - 1)) then (if (wrap64 ((x6.length : Int) - 1)) < (x6.length : Int) then ((laws_dSame.f k (rd_L1 x6 (wrap64 ((x6.length : Int) - 1))) (([1, 1, 1] : List Int))).bind fun t763 => (if t763 = true then (if 2 < (x5.length : Int) then (if (x11 != (decide ((rd x5 2) ≥ 5))) = true then (laws_FnMarkovWords.j1 k x1 x5 x6 x10 x11 x14 (wrap64 ((x6.length : Int) - 1)) true) else (if x11 = true then (laws_FnMarkovWords.j1 k x1 x5 x6 x10 x11 x14 (wrap64 ((x6.length : Int) - 1)) ((x10.size : Int) != (wrap64 ((wrap64 ((x6.length : Int) - 1)) - 2)))) else (laws_FnMarkovWords.j1 k x1 x5 x6 x10 x11 x14 (wrap64 ((x6.length : Int) - 1)) false))) else (none)) else (laws_FnMarkovWords.j1 k x1 x5 x6 x10 x11 x14 (wrap64 ((x6.length : Int) - 1)) true))) else (none)) else (none)) else (laws_FnMarkovWords.j1 k x1 x5 x6 x10 x11 x14 (wrap64 ((x6.length : Int) - 1)) true))) else (none)) else (laws_FnMarkovWords.j4 k x1 x5 x10 x11))
def laws_FnMarkovWords.j4 : Nat → List Int → List Int → ByteArray → Bool → Option (Bool)
 | 0, _, _, _, _ => none
 | k + 1, x1, x5, x10, x11 => if x11 = true then ((impl_MarkovOfWord.f k x10).bind fun bt774 => (if bt774.2 = true then ((laws_dSame.f k bt774.1 x5).bind fun t778 => (if t778 = true then (laws_FnMarkovWords.j5 k x1) else (some false))) else (some false))) else (laws_FnMarkovWords.j5 k x1)
def laws_FnMarkovWords.j5 : Nat → List Int → Option (Bool)
 | 0, _ => none
 | k + 1, x1 => (spec_DrawMarkovOfWord.f k x1).bind fun t779 => ((impl_MarkovOfWord.f k t779).bind fun bt780 => ((spec_MarkovOfWord.f k t779).bind fun bt784 => (if (bt780.2 != bt784.2) = true then (laws_FnMarkovWords.j6 k t779 bt780.1 bt780.2 true) else ((laws_dSame.f k bt780.1 bt784.1).bind fun t788 => (laws_FnMarkovWords.j6 k t779 bt780.1 bt780.2 (!t788))))))
def laws_FnMarkovWords.j6 : Nat → ByteArray → List Int → Bool → Bool → Option (Bool)
 | 0, _, _, _, _ => none
 | k + 1, x23, x24, x25, x236 => if x236 = true then (some false) else (if x25 = true then ((impl_MarkovWord.f k x24).bind fun bt789 => (if bt789.2 = true then (some (bt789.1.toList == x23.toList)) else (some false))) else (some true))
def laws_FnMarkovWords.j1 : Nat → List Int → List Int → List (List Int) → ByteArray → Bool → Int → Int → Bool → Option (Bool)
 | 0, _, _, _, _, _, _, _, _ => none
 | k + 1, x1, x5, x6, x10, x11, x14, x18, x141 => if x141 = true then (some false) else (laws_FnMarkovWords.l0 k x1 x5 x6 x10 x11 x14 x18 1)
def laws_FnMarkovWords.l0 : Nat → List Int → List Int → List (List Int) → ByteArray → Bool → Int → Int → Int → Option (Bool)
 | 0, _, _, _, _, _, _, _, _ => none
 | k + 1, x1, x5, x6, x10, x11, x14, x18, x19 => if x19 ≤ x18 then (if 0 ≤ x19 then (if x19 < (x6.length : Int) then (if 2 < ((rd_L1 x6 x19).length : Int) then (if 0 ≤ (wrap64 (x19 - 1)) then (if (wrap64 (x19 - 1)) < (x6.length : Int) then (if 2 < ((rd_L1 x6 (wrap64 (x19 - 1))).length : Int) then (if (rd (rd_L1 x6 x19) 2) ≥ (rd (rd_L1 x6 (wrap64 (x19 - 1))) 2) then (some false) else ((impl_IsMarkov.f k (rd_L1 x6 x19)).bind fun t770 => (if t770 = true then (laws_FnMarkovWords.l0 k x1 x5 x6 x10 x11 x14 x18 (wrap64 (x19 + 1))) else (some false)))) else (none)) else (none)) else (none)) else (none)) else (none)) else (none)) else (if 2 < (x5.length : Int) then (if x14 < 0 then (laws_FnMarkovWords.j3 k x1 x5 x10 x11 true) else (if x14 ≥ (rd x5 2) then (laws_FnMarkovWords.j3 k x1 x5 x10 x11 true) else (if (rd x5 2) = 0 then (none) else (if (Int.tmod (wrap64 ((wrap64 (x14 * x14)) + 1)) (rd x5 2)) = 0 then (if 0 < (x5.length : Int) then (if 1 < (x5.length : Int) then (laws_FnMarkovWords.j3 k x1 x5 x10 x11 ((Int.tmod (wrap64 ((wrap64 (x14 * (rd x5 0))) - (rd x5 1))) (rd x5 2)) != 0)) else (none)) else (none)) else (laws_FnMarkovWords.j3 k x1 x5 x10 x11 true))))) else (none))
def laws_FnMarkovWords.j3 : Nat → List Int → List Int → ByteArray → Bool → Bool → Option (Bool)
 | 0, _, _, _, _, _ => none
 | k + 1, x1, x5, x10, x11, x201 => if x201 = true then (some false) else (laws_FnMarkovWords.j4 k x1 x5 x10 x11)
end
def laws_FnMarkovWords.f (k : Nat) (l0 : List Int) (l1 : List Int) : Option (Bool) := (laws_big.f l0 l1).bind fun t735 => (if t735 = true then (some true) else ((spec_DrawMarkovPath.f k l0).bind fun t736 => ((impl_MarkovPath.f k t736).bind fun bt739 => ((spec_MarkovPath.f k t736).bind fun bt743 => ((impl_MarkovWord.f k t736).bind fun bt747 => ((spec_MarkovWord.f k t736).bind fun bt749 => ((impl_MinusOneRoot.f k t736).bind fun bt751 => ((spec_MinusOneRoot.f k t736).bind fun bt753 => (if (bt739.2 != bt743.2) = true then (laws_FnMarkovWords.j0 k l1 t736 bt739.1 bt739.2 bt747.1 bt747.2 bt751.1 true) else ((laws_dLists.f k bt739.1 bt743.1).bind fun t755 => (if t755 = true then (if (bt747.2 != bt749.2) = true then (laws_FnMarkovWords.j0 k l1 t736 bt739.1 bt739.2 bt747.1 bt747.2 bt751.1 true) else (if bt747.1.toList = bt749.1.toList then (if (bt751.2 != bt753.2) = true then (laws_FnMarkovWords.j0 k l1 t736 bt739.1 bt739.2 bt747.1 bt747.2 bt751.1 true) else (if bt751.1 = bt753.1 then ((impl_IsMarkov.f k t736).bind fun t756 => (if (bt739.2 != t756) = true then (laws_FnMarkovWords.j0 k l1 t736 bt739.1 bt739.2 bt747.1 bt747.2 bt751.1 true) else (laws_FnMarkovWords.j0 k l1 t736 bt739.1 bt739.2 bt747.1 bt747.2 bt751.1 (bt751.2 != bt739.2)))) else (laws_FnMarkovWords.j0 k l1 t736 bt739.1 bt739.2 bt747.1 bt747.2 bt751.1 true))) else (laws_FnMarkovWords.j0 k l1 t736 bt739.1 bt739.2 bt747.1 bt747.2 bt751.1 true))) else (laws_FnMarkovWords.j0 k l1 t736 bt739.1 bt739.2 bt747.1 bt747.2 bt751.1 true))))))))))))
theorem laws_FnMarkovWords.mono_l : ∀ k, (∀ y0 y1 y2 y3 y4 y5 y6 y7, LeO (laws_FnMarkovWords.j0 k y0 y1 y2 y3 y4 y5 y6 y7) (laws_FnMarkovWords.j0 (k + 1) y0 y1 y2 y3 y4 y5 y6 y7)) ∧ (∀ y0 y1 y2 y3, LeO (laws_FnMarkovWords.j4 k y0 y1 y2 y3) (laws_FnMarkovWords.j4 (k + 1) y0 y1 y2 y3)) ∧ (∀ y0, LeO (laws_FnMarkovWords.j5 k y0) (laws_FnMarkovWords.j5 (k + 1) y0)) ∧ (∀ y0 y1 y2 y3, LeO (laws_FnMarkovWords.j6 k y0 y1 y2 y3) (laws_FnMarkovWords.j6 (k + 1) y0 y1 y2 y3)) ∧ (∀ y0 y1 y2 y3 y4 y5 y6 y7, LeO (laws_FnMarkovWords.j1 k y0 y1 y2 y3 y4 y5 y6 y7) (laws_FnMarkovWords.j1 (k + 1) y0 y1 y2 y3 y4 y5 y6 y7)) ∧ (∀ y0 y1 y2 y3 y4 y5 y6 y7, LeO (laws_FnMarkovWords.l0 k y0 y1 y2 y3 y4 y5 y6 y7) (laws_FnMarkovWords.l0 (k + 1) y0 y1 y2 y3 y4 y5 y6 y7)) ∧ (∀ y0 y1 y2 y3 y4, LeO (laws_FnMarkovWords.j3 k y0 y1 y2 y3 y4) (laws_FnMarkovWords.j3 (k + 1) y0 y1 y2 y3 y4))
 | 0 => ⟨fun _ _ _ _ _ _ _ _ r h => by simp [laws_FnMarkovWords.j0] at h, fun _ _ _ _ r h => by simp [laws_FnMarkovWords.j4] at h, fun _ r h => by simp [laws_FnMarkovWords.j5] at h, fun _ _ _ _ r h => by simp [laws_FnMarkovWords.j6] at h, fun _ _ _ _ _ _ _ _ r h => by simp [laws_FnMarkovWords.j1] at h, fun _ _ _ _ _ _ _ _ r h => by simp [laws_FnMarkovWords.l0] at h, fun _ _ _ _ _ r h => by simp [laws_FnMarkovWords.j3] at h⟩
 | k + 1 => by
  obtain ⟨ih0, ih1, ih2, ih3, ih4, ih5, ih6⟩ := laws_FnMarkovWords.mono_l k
  refine ⟨?_, ?_, ?_, ?_, ?_, ?_, ?_⟩
  ·intro y0 y1 y2 y3 y4 y5 y6 y7
   unfold laws_FnMarkovWords.j0
   repeat' first
   | (with_reducible exact ih0 _ _ _ _ _ _ _ _)
   | (with_reducible exact ih1 _ _ _ _)
   | (with_reducible exact ih2 _)
   | (with_reducible exact ih3 _ _ _ _)
   | (with_reducible exact ih4 _ _ _ _ _ _ _ _)
   | (with_reducible exact ih5 _ _ _ _ _ _ _ _)
   | (with_reducible exact ih6 _ _ _ _ _)
   | (with_reducible exact impl_IsMarkov.mono _ _)
   | (with_reducible exact impl_MarkovOfWord.mono _ _)
   | (with_reducible exact impl_MarkovPath.mono _ _)
   | (with_reducible exact impl_MarkovWord.mono _ _)
   | (with_reducible exact impl_MinusOneRoot.mono _ _)
   | (with_reducible exact laws_dLists.mono _ _ _)
   | (with_reducible exact laws_dSame.mono _ _ _)
   | (with_reducible exact spec_DrawMarkovOfWord.mono _ _)
   | (with_reducible exact spec_DrawMarkovPath.mono _ _)
   | (with_reducible exact spec_MarkovOfWord.mono _ _)
   | (with_reducible exact spec_MarkovPath.mono _ _)
   | (with_reducible exact spec_MarkovWord.mono _ _)
   | (with_reducible exact spec_MinusOneRoot.mono _ _)
   | (with_reducible exact LeO.refl _)
   | (with_reducible exact LeO.none _)
   | (with_reducible refine LeO.ite ?_ ?_)
   | (with_reducible refine LeO.bind ?_ (fun _ => ?_))
   | exact ih0 _ _ _ _ _ _ _ _
   | exact ih1 _ _ _ _
   | exact ih2 _
   | exact ih3 _ _ _ _
   | exact ih4 _ _ _ _ _ _ _ _
   | exact ih5 _ _ _ _ _ _ _ _
   | exact ih6 _ _ _ _ _
   | exact impl_IsMarkov.mono _ _
   | exact impl_MarkovOfWord.mono _ _
   | exact impl_MarkovPath.mono _ _
   | exact impl_MarkovWord.mono _ _
   | exact impl_MinusOneRoot.mono _ _
   | exact laws_dLists.mono _ _ _
   | exact laws_dSame.mono _ _ _
   | exact spec_DrawMarkovOfWord.mono _ _
   | exact spec_DrawMarkovPath.mono _ _
   | exact spec_MarkovOfWord.mono _ _
   | exact spec_MarkovPath.mono _ _
   | exact spec_MarkovWord.mono _ _
   | exact spec_MinusOneRoot.mono _ _
   | exact LeO.none _
   | refine LeO.ite ?_ ?_
   | refine LeO.bind ?_ (fun _ => ?_)
  ·intro y0 y1 y2 y3
   unfold laws_FnMarkovWords.j4
   repeat' first
   | (with_reducible exact ih0 _ _ _ _ _ _ _ _)
   | (with_reducible exact ih1 _ _ _ _)
   | (with_reducible exact ih2 _)
   | (with_reducible exact ih3 _ _ _ _)
   | (with_reducible exact ih4 _ _ _ _ _ _ _ _)
   | (with_reducible exact ih5 _ _ _ _ _ _ _ _)
   | (with_reducible exact ih6 _ _ _ _ _)
   | (with_reducible exact impl_IsMarkov.mono _ _)
   | (with_reducible exact impl_MarkovOfWord.mono _ _)
   | (with_reducible exact impl_MarkovPath.mono _ _)
   | (with_reducible exact impl_MarkovWord.mono _ _)
   | (with_reducible exact impl_MinusOneRoot.mono _ _)
   | (with_reducible exact laws_dLists.mono _ _ _)
   | (with_reducible exact laws_dSame.mono _ _ _)
   | (with_reducible exact spec_DrawMarkovOfWord.mono _ _)
   | (with_reducible exact spec_DrawMarkovPath.mono _ _)
   | (with_reducible exact spec_MarkovOfWord.mono _ _)
   | (with_reducible exact spec_MarkovPath.mono _ _)
   | (with_reducible exact spec_MarkovWord.mono _ _)
   | (with_reducible exact spec_MinusOneRoot.mono _ _)
   | (with_reducible exact LeO.refl _)
   | (with_reducible exact LeO.none _)
   | (with_reducible refine LeO.ite ?_ ?_)
   | (with_reducible refine LeO.bind ?_ (fun _ => ?_))
   | exact ih0 _ _ _ _ _ _ _ _
   | exact ih1 _ _ _ _
   | exact ih2 _
   | exact ih3 _ _ _ _
   | exact ih4 _ _ _ _ _ _ _ _
   | exact ih5 _ _ _ _ _ _ _ _
   | exact ih6 _ _ _ _ _
   | exact impl_IsMarkov.mono _ _
   | exact impl_MarkovOfWord.mono _ _
   | exact impl_MarkovPath.mono _ _
   | exact impl_MarkovWord.mono _ _
   | exact impl_MinusOneRoot.mono _ _
   | exact laws_dLists.mono _ _ _
   | exact laws_dSame.mono _ _ _
   | exact spec_DrawMarkovOfWord.mono _ _
   | exact spec_DrawMarkovPath.mono _ _
   | exact spec_MarkovOfWord.mono _ _
   | exact spec_MarkovPath.mono _ _
   | exact spec_MarkovWord.mono _ _
   | exact spec_MinusOneRoot.mono _ _
   | exact LeO.none _
   | refine LeO.ite ?_ ?_
   | refine LeO.bind ?_ (fun _ => ?_)
  ·intro y0
   unfold laws_FnMarkovWords.j5
   repeat' first
   | (with_reducible exact ih0 _ _ _ _ _ _ _ _)
   | (with_reducible exact ih1 _ _ _ _)
   | (with_reducible exact ih2 _)
   | (with_reducible exact ih3 _ _ _ _)
   | (with_reducible exact ih4 _ _ _ _ _ _ _ _)
   | (with_reducible exact ih5 _ _ _ _ _ _ _ _)
   | (with_reducible exact ih6 _ _ _ _ _)
   | (with_reducible exact impl_IsMarkov.mono _ _)
   | (with_reducible exact impl_MarkovOfWord.mono _ _)
   | (with_reducible exact impl_MarkovPath.mono _ _)
   | (with_reducible exact impl_MarkovWord.mono _ _)
   | (with_reducible exact impl_MinusOneRoot.mono _ _)
   | (with_reducible exact laws_dLists.mono _ _ _)
   | (with_reducible exact laws_dSame.mono _ _ _)
   | (with_reducible exact spec_DrawMarkovOfWord.mono _ _)
   | (with_reducible exact spec_DrawMarkovPath.mono _ _)
   | (with_reducible exact spec_MarkovOfWord.mono _ _)
   | (with_reducible exact spec_MarkovPath.mono _ _)
   | (with_reducible exact spec_MarkovWord.mono _ _)
   | (with_reducible exact spec_MinusOneRoot.mono _ _)
   | (with_reducible exact LeO.refl _)
   | (with_reducible exact LeO.none _)
   | (with_reducible refine LeO.ite ?_ ?_)
   | (with_reducible refine LeO.bind ?_ (fun _ => ?_))
   | exact ih0 _ _ _ _ _ _ _ _
   | exact ih1 _ _ _ _
   | exact ih2 _
   | exact ih3 _ _ _ _
   | exact ih4 _ _ _ _ _ _ _ _
   | exact ih5 _ _ _ _ _ _ _ _
   | exact ih6 _ _ _ _ _
   | exact impl_IsMarkov.mono _ _
   | exact impl_MarkovOfWord.mono _ _
   | exact impl_MarkovPath.mono _ _
   | exact impl_MarkovWord.mono _ _
   | exact impl_MinusOneRoot.mono _ _
   | exact laws_dLists.mono _ _ _
   | exact laws_dSame.mono _ _ _
   | exact spec_DrawMarkovOfWord.mono _ _
   | exact spec_DrawMarkovPath.mono _ _
   | exact spec_MarkovOfWord.mono _ _
   | exact spec_MarkovPath.mono _ _
   | exact spec_MarkovWord.mono _ _
   | exact spec_MinusOneRoot.mono _ _
   | exact LeO.none _
   | refine LeO.ite ?_ ?_
   | refine LeO.bind ?_ (fun _ => ?_)
  ·intro y0 y1 y2 y3
   unfold laws_FnMarkovWords.j6
   repeat' first
   | (with_reducible exact ih0 _ _ _ _ _ _ _ _)
   | (with_reducible exact ih1 _ _ _ _)
   | (with_reducible exact ih2 _)
   | (with_reducible exact ih3 _ _ _ _)
   | (with_reducible exact ih4 _ _ _ _ _ _ _ _)
   | (with_reducible exact ih5 _ _ _ _ _ _ _ _)
   | (with_reducible exact ih6 _ _ _ _ _)
   | (with_reducible exact impl_IsMarkov.mono _ _)
   | (with_reducible exact impl_MarkovOfWord.mono _ _)
   | (with_reducible exact impl_MarkovPath.mono _ _)
   | (with_reducible exact impl_MarkovWord.mono _ _)
   | (with_reducible exact impl_MinusOneRoot.mono _ _)
   | (with_reducible exact laws_dLists.mono _ _ _)
   | (with_reducible exact laws_dSame.mono _ _ _)
   | (with_reducible exact spec_DrawMarkovOfWord.mono _ _)
   | (with_reducible exact spec_DrawMarkovPath.mono _ _)
   | (with_reducible exact spec_MarkovOfWord.mono _ _)
   | (with_reducible exact spec_MarkovPath.mono _ _)
   | (with_reducible exact spec_MarkovWord.mono _ _)
   | (with_reducible exact spec_MinusOneRoot.mono _ _)
   | (with_reducible exact LeO.refl _)
   | (with_reducible exact LeO.none _)
   | (with_reducible refine LeO.ite ?_ ?_)
   | (with_reducible refine LeO.bind ?_ (fun _ => ?_))
   | exact ih0 _ _ _ _ _ _ _ _
   | exact ih1 _ _ _ _
   | exact ih2 _
   | exact ih3 _ _ _ _
   | exact ih4 _ _ _ _ _ _ _ _
   | exact ih5 _ _ _ _ _ _ _ _
   | exact ih6 _ _ _ _ _
   | exact impl_IsMarkov.mono _ _
   | exact impl_MarkovOfWord.mono _ _
   | exact impl_MarkovPath.mono _ _
   | exact impl_MarkovWord.mono _ _
   | exact impl_MinusOneRoot.mono _ _
   | exact laws_dLists.mono _ _ _
   | exact laws_dSame.mono _ _ _
   | exact spec_DrawMarkovOfWord.mono _ _
   | exact spec_DrawMarkovPath.mono _ _
   | exact spec_MarkovOfWord.mono _ _
   | exact spec_MarkovPath.mono _ _
   | exact spec_MarkovWord.mono _ _
   | exact spec_MinusOneRoot.mono _ _
   | exact LeO.none _
   | refine LeO.ite ?_ ?_
   | refine LeO.bind ?_ (fun _ => ?_)
  ·intro y0 y1 y2 y3 y4 y5 y6 y7
   unfold laws_FnMarkovWords.j1
   repeat' first
   | (with_reducible exact ih0 _ _ _ _ _ _ _ _)
   | (with_reducible exact ih1 _ _ _ _)
   | (with_reducible exact ih2 _)
   | (with_reducible exact ih3 _ _ _ _)
   | (with_reducible exact ih4 _ _ _ _ _ _ _ _)
   | (with_reducible exact ih5 _ _ _ _ _ _ _ _)
   | (with_reducible exact ih6 _ _ _ _ _)
   | (with_reducible exact impl_IsMarkov.mono _ _)
   | (with_reducible exact impl_MarkovOfWord.mono _ _)
   | (with_reducible exact impl_MarkovPath.mono _ _)
   | (with_reducible exact impl_MarkovWord.mono _ _)
   | (with_reducible exact impl_MinusOneRoot.mono _ _)
   | (with_reducible exact laws_dLists.mono _ _ _)
   | (with_reducible exact laws_dSame.mono _ _ _)
   | (with_reducible exact spec_DrawMarkovOfWord.mono _ _)
   | (with_reducible exact spec_DrawMarkovPath.mono _ _)
   | (with_reducible exact spec_MarkovOfWord.mono _ _)
   | (with_reducible exact spec_MarkovPath.mono _ _)
   | (with_reducible exact spec_MarkovWord.mono _ _)
   | (with_reducible exact spec_MinusOneRoot.mono _ _)
   | (with_reducible exact LeO.refl _)
   | (with_reducible exact LeO.none _)
   | (with_reducible refine LeO.ite ?_ ?_)
   | (with_reducible refine LeO.bind ?_ (fun _ => ?_))
   | exact ih0 _ _ _ _ _ _ _ _
   | exact ih1 _ _ _ _
   | exact ih2 _
   | exact ih3 _ _ _ _
   | exact ih4 _ _ _ _ _ _ _ _
   | exact ih5 _ _ _ _ _ _ _ _
   | exact ih6 _ _ _ _ _
   | exact impl_IsMarkov.mono _ _
   | exact impl_MarkovOfWord.mono _ _
   | exact impl_MarkovPath.mono _ _
   | exact impl_MarkovWord.mono _ _
   | exact impl_MinusOneRoot.mono _ _
   | exact laws_dLists.mono _ _ _
   | exact laws_dSame.mono _ _ _
   | exact spec_DrawMarkovOfWord.mono _ _
   | exact spec_DrawMarkovPath.mono _ _
   | exact spec_MarkovOfWord.mono _ _
   | exact spec_MarkovPath.mono _ _
   | exact spec_MarkovWord.mono _ _
   | exact spec_MinusOneRoot.mono _ _
   | exact LeO.none _
   | refine LeO.ite ?_ ?_
   | refine LeO.bind ?_ (fun _ => ?_)
  ·intro y0 y1 y2 y3 y4 y5 y6 y7
   unfold laws_FnMarkovWords.l0
   repeat' first
   | (with_reducible exact ih0 _ _ _ _ _ _ _ _)
   | (with_reducible exact ih1 _ _ _ _)
   | (with_reducible exact ih2 _)
   | (with_reducible exact ih3 _ _ _ _)
   | (with_reducible exact ih4 _ _ _ _ _ _ _ _)
   | (with_reducible exact ih5 _ _ _ _ _ _ _ _)
   | (with_reducible exact ih6 _ _ _ _ _)
   | (with_reducible exact impl_IsMarkov.mono _ _)
   | (with_reducible exact impl_MarkovOfWord.mono _ _)
   | (with_reducible exact impl_MarkovPath.mono _ _)
   | (with_reducible exact impl_MarkovWord.mono _ _)
   | (with_reducible exact impl_MinusOneRoot.mono _ _)
   | (with_reducible exact laws_dLists.mono _ _ _)
   | (with_reducible exact laws_dSame.mono _ _ _)
   | (with_reducible exact spec_DrawMarkovOfWord.mono _ _)
   | (with_reducible exact spec_DrawMarkovPath.mono _ _)
   | (with_reducible exact spec_MarkovOfWord.mono _ _)
   | (with_reducible exact spec_MarkovPath.mono _ _)
   | (with_reducible exact spec_MarkovWord.mono _ _)
   | (with_reducible exact spec_MinusOneRoot.mono _ _)
   | (with_reducible exact LeO.refl _)
   | (with_reducible exact LeO.none _)
   | (with_reducible refine LeO.ite ?_ ?_)
   | (with_reducible refine LeO.bind ?_ (fun _ => ?_))
   | exact ih0 _ _ _ _ _ _ _ _
   | exact ih1 _ _ _ _
   | exact ih2 _
   | exact ih3 _ _ _ _
   | exact ih4 _ _ _ _ _ _ _ _
   | exact ih5 _ _ _ _ _ _ _ _
   | exact ih6 _ _ _ _ _
   | exact impl_IsMarkov.mono _ _
   | exact impl_MarkovOfWord.mono _ _
   | exact impl_MarkovPath.mono _ _
   | exact impl_MarkovWord.mono _ _
   | exact impl_MinusOneRoot.mono _ _
   | exact laws_dLists.mono _ _ _
   | exact laws_dSame.mono _ _ _
   | exact spec_DrawMarkovOfWord.mono _ _
   | exact spec_DrawMarkovPath.mono _ _
   | exact spec_MarkovOfWord.mono _ _
   | exact spec_MarkovPath.mono _ _
   | exact spec_MarkovWord.mono _ _
   | exact spec_MinusOneRoot.mono _ _
   | exact LeO.none _
   | refine LeO.ite ?_ ?_
   | refine LeO.bind ?_ (fun _ => ?_)
  ·intro y0 y1 y2 y3 y4
   unfold laws_FnMarkovWords.j3
   repeat' first
   | (with_reducible exact ih0 _ _ _ _ _ _ _ _)
   | (with_reducible exact ih1 _ _ _ _)
   | (with_reducible exact ih2 _)
   | (with_reducible exact ih3 _ _ _ _)
   | (with_reducible exact ih4 _ _ _ _ _ _ _ _)
   | (with_reducible exact ih5 _ _ _ _ _ _ _ _)
   | (with_reducible exact ih6 _ _ _ _ _)
   | (with_reducible exact impl_IsMarkov.mono _ _)
   | (with_reducible exact impl_MarkovOfWord.mono _ _)
   | (with_reducible exact impl_MarkovPath.mono _ _)
   | (with_reducible exact impl_MarkovWord.mono _ _)
   | (with_reducible exact impl_MinusOneRoot.mono _ _)
   | (with_reducible exact laws_dLists.mono _ _ _)
   | (with_reducible exact laws_dSame.mono _ _ _)
   | (with_reducible exact spec_DrawMarkovOfWord.mono _ _)
   | (with_reducible exact spec_DrawMarkovPath.mono _ _)
   | (with_reducible exact spec_MarkovOfWord.mono _ _)
   | (with_reducible exact spec_MarkovPath.mono _ _)
   | (with_reducible exact spec_MarkovWord.mono _ _)
   | (with_reducible exact spec_MinusOneRoot.mono _ _)
   | (with_reducible exact LeO.refl _)
   | (with_reducible exact LeO.none _)
   | (with_reducible refine LeO.ite ?_ ?_)
   | (with_reducible refine LeO.bind ?_ (fun _ => ?_))
   | exact ih0 _ _ _ _ _ _ _ _
   | exact ih1 _ _ _ _
   | exact ih2 _
   | exact ih3 _ _ _ _
   | exact ih4 _ _ _ _ _ _ _ _
   | exact ih5 _ _ _ _ _ _ _ _
   | exact ih6 _ _ _ _ _
   | exact impl_IsMarkov.mono _ _
   | exact impl_MarkovOfWord.mono _ _
   | exact impl_MarkovPath.mono _ _
   | exact impl_MarkovWord.mono _ _
   | exact impl_MinusOneRoot.mono _ _
   | exact laws_dLists.mono _ _ _
   | exact laws_dSame.mono _ _ _
   | exact spec_DrawMarkovOfWord.mono _ _
   | exact spec_DrawMarkovPath.mono _ _
   | exact spec_MarkovOfWord.mono _ _
   | exact spec_MarkovPath.mono _ _
   | exact spec_MarkovWord.mono _ _
   | exact spec_MinusOneRoot.mono _ _
   | exact LeO.none _
   | refine LeO.ite ?_ ?_
   | refine LeO.bind ?_ (fun _ => ?_)
theorem laws_FnMarkovWords.mono : ∀ a0 a1 k, LeO (laws_FnMarkovWords.f k a0 a1) (laws_FnMarkovWords.f (k + 1) a0 a1) := by
 intro a0 a1 k
 obtain ⟨ih0, ih1, ih2, ih3, ih4, ih5, ih6⟩ := laws_FnMarkovWords.mono_l k
 unfold laws_FnMarkovWords.f
 repeat' first
   | (with_reducible exact ih0 _ _ _ _ _ _ _ _)
   | (with_reducible exact ih1 _ _ _ _)
   | (with_reducible exact ih2 _)
   | (with_reducible exact ih3 _ _ _ _)
   | (with_reducible exact ih4 _ _ _ _ _ _ _ _)
   | (with_reducible exact ih5 _ _ _ _ _ _ _ _)
   | (with_reducible exact ih6 _ _ _ _ _)
   | (with_reducible exact impl_IsMarkov.mono _ _)
   | (with_reducible exact impl_MarkovOfWord.mono _ _)
   | (with_reducible exact impl_MarkovPath.mono _ _)
   | (with_reducible exact impl_MarkovWord.mono _ _)
   | (with_reducible exact impl_MinusOneRoot.mono _ _)
   | (with_reducible exact laws_dLists.mono _ _ _)
   | (with_reducible exact laws_dSame.mono _ _ _)
   | (with_reducible exact spec_DrawMarkovOfWord.mono _ _)
   | (with_reducible exact spec_DrawMarkovPath.mono _ _)
   | (with_reducible exact spec_MarkovOfWord.mono _ _)
   | (with_reducible exact spec_MarkovPath.mono _ _)
   | (with_reducible exact spec_MarkovWord.mono _ _)
   | (with_reducible exact spec_MinusOneRoot.mono _ _)
   | (with_reducible exact LeO.refl _)
   | (with_reducible exact LeO.none _)
   | (with_reducible refine LeO.ite ?_ ?_)
   | (with_reducible refine LeO.bind ?_ (fun _ => ?_))
   | exact ih0 _ _ _ _ _ _ _ _
   | exact ih1 _ _ _ _
   | exact ih2 _
   | exact ih3 _ _ _ _
   | exact ih4 _ _ _ _ _ _ _ _
   | exact ih5 _ _ _ _ _ _ _ _
   | exact ih6 _ _ _ _ _
   | exact impl_IsMarkov.mono _ _
   | exact impl_MarkovOfWord.mono _ _
   | exact impl_MarkovPath.mono _ _
   | exact impl_MarkovWord.mono _ _
   | exact impl_MinusOneRoot.mono _ _
   | exact laws_dLists.mono _ _ _
   | exact laws_dSame.mono _ _ _
   | exact spec_DrawMarkovOfWord.mono _ _
   | exact spec_DrawMarkovPath.mono _ _
   | exact spec_MarkovOfWord.mono _ _
   | exact spec_MarkovPath.mono _ _
   | exact spec_MarkovWord.mono _ _
   | exact spec_MinusOneRoot.mono _ _
   | exact LeO.none _
   | refine LeO.ite ?_ ?_
   | refine LeO.bind ?_ (fun _ => ?_)
def laws_FnMarkovWords.T19 : Bool × List (List Nat × List Nat) := (true, [([], []), ([], []), ([0, 1], [0, 1]), ([2], [2]), ([3], [3]), ([4], [4]), ([], []), ([], []), ([7], [7]), ([6, 8], [6, 8]), ([9], [9]), ([10], [10]), ([11], [11]), ([5, 12], [5, 12]), ([13], [13]), ([14], [14]), ([14], [14]), ([15, 16, 14], [14, 15, 16]), ([17, 14], [14, 17]), ([18, 14, 14], [14, 18]), ([19, 14], [14, 19]), ([14, 20], [14, 20])])
def laws_FnMarkovWords.B19 : List Nat := [0, 0, 3, 7, 15, 31, 0, 0, 128, 448, 960, 1984, 4032, 8191, 16383, 32767, 32767, 131071, 262143, 524287, 1048575, 2097151]
theorem laws_FnMarkovWords.tab19 : rtab .any (opsOf Try.f12 19) = laws_FnMarkovWords.T19 := by kernel_rfl
theorem laws_FnMarkovWords.bits19 : waitsOk laws_FnMarkovWords.T19.2 laws_FnMarkovWords.B19 = true := by kernel_rfl
def laws_FnMarkovWords.T22 : Bool × List (List Nat × List Nat) := (true, [([], []), ([0], [0]), ([1], [1]), ([2], [2]), ([2], [2]), ([3, 4, 2], [2, 3, 4]), ([2, 5], [2, 5]), ([6, 2], [6]), ([7], [7]), ([7], [7]), ([8, 9, 7], [7, 8, 9]), ([10, 7], [7, 10]), ([7], [7]), ([11, 12, 7], [7, 11, 12]), ([13, 7], [7, 13]), ([7, 14], [7, 14]), ([15, 7], [15]), ([16], [16]), ([16], [16]), ([18, 16], [16, 18]), ([19, 16], [16, 19]), ([17, 20, 16], [16, 17, 20]), ([16], [16]), ([22, 16], [16, 22]), ([23, 16], [16, 23]), ([21, 24, 16], [16, 21, 24]), ([16], [16]), ([25, 26, 16], [16, 25, 26]), ([27, 16], [16, 27]), ([16, 28], [16, 28])])
def laws_FnMarkovWords.B22 : List Nat := [0, 1, 3, 7, 7, 31, 63, 127, 255, 255, 1023, 2047, 255, 8191, 16383, 32767, 65535, 131071, 131071, 393215, 917503, 2097151, 131071, 4325375, 12713983, 33554431, 131071, 134217727, 268435455, 536870911]
theorem laws_FnMarkovWords.tab22 : rtab .any (opsOf Try.f12 22) = laws_FnMarkovWords.T22 := by kernel_rfl
theorem laws_FnMarkovWords.bits22 : waitsOk laws_FnMarkovWords.T22.2 laws_FnMarkovWords.B22 = true := by kernel_rfl
abbrev b0MW : Array Bool := #[false,false,false,false,false,false,false,false,false,false,false,false,false,false,false,false,false,false,false,false,false,false]
abbrev b1MW : Array Bool := #[true,false,false,false,false,false,false,false,false,false,false,false,false,false,false,false,false,false,false,false,false,false]
abbrev b2MW : Array Bool := #[true,true,false,false,false,false,false,false,false,false,false,false,false,false,false,false,false,false,false,false,false,false]
abbrev b3MW : Array Bool := #[true,true,true,false,false,false,false,false,false,false,false,false,false,false,false,false,false,false,false,false,false,false]
abbrev b4MW : Array Bool := #[true,true,true,false,false,false,true,false,false,false,false,false,false,false,false,false,false,false,false,false,false,false]
abbrev b5MW : Array Bool := #[true,true,true,false,false,false,true,true,false,false,false,false,false,false,false,false,false,false,false,false,false,false]
abbrev b6MW : Array Bool := #[true,true,true,false,false,false,true,true,true,false,false,false,false,false,false,false,false,false,false,false,false,false]
abbrev b7MW : Array Bool := #[true,true,true,false,false,false,true,true,true,true,false,false,false,false,false,false,false,false,false,false,false,false]
abbrev b8MW : Array Bool := #[true,true,true,true,false,false,true,true,true,true,false,false,false,false,false,false,false,false,false,false,false,false]
abbrev b9MW : Array Bool := #[true,true,true,true,true,false,true,true,true,true,false,false,false,false,false,false,false,false,false,false,false,false]
abbrev b10MW : Array Bool := #[true,true,true,true,true,true,true,true,true,true,false,false,false,false,false,false,false,false,false,false,false,false]
abbrev b11MW : Array Bool := #[true,true,true,true,true,true,true,true,true,true,true,false,false,false,false,false,false,false,false,false,false,false]
abbrev b12MW : Array Bool := #[true,true,true,true,true,true,true,true,true,true,true,true,false,false,false,false,false,false,false,false,false,false]
abbrev b13MW : Array Bool := #[true,true,true,true,true,true,true,true,true,true,true,true,true,false,false,false,false,false,false,false,false,false]
abbrev b14MW : Array Bool := #[true,true,true,true,true,true,true,true,true,true,true,true,true,true,false,false,false,false,false,false,false,false]
abbrev b15MW : Array Bool := #[true,true,true,true,true,true,true,true,true,true,true,true,true,true,true,false,false,false,false,false,false,false]
abbrev b16MW : Array Bool := #[true,true,true,true,true,true,true,true,true,true,true,true,true,true,true,true,false,false,false,false,false,false]
abbrev b17MW : Array Bool := #[true,true,true,true,true,true,true,true,true,true,true,true,true,true,true,true,true,false,false,false,false,false]
abbrev b18MW : Array Bool := #[true,true,true,true,true,true,true,true,true,true,true,true,true,true,true,true,true,true,false,false,false,false]
abbrev b19MW : Array Bool := #[true,true,true,true,true,true,true,true,true,true,true,true,true,true,true,true,true,true,true,false,false,false]
abbrev b20MW : Array Bool := #[true,true,true,true,true,true,true,true,true,true,true,true,true,true,true,true,true,true,true,true,false,false]
abbrev b21MW : Array Bool := #[true,true,true,true,true,true,true,true,true,true,true,true,true,true,true,true,true,true,true,true,true,false]
abbrev b22MW : Array Bool := #[true,true,true,true,true,true,true,true,true,true,true,true,true,true,true,true,true,true,true,true,true,true]
abbrev b23MW : Array Bool := #[false,false,false,false,false,false,false,false,false,false,false,false,false,false,false,false,false,false,false,false,false,false,false,false,false,false,false,false,false,false]
abbrev b24MW : Array Bool := #[true,false,false,false,false,false,false,false,false,false,false,false,false,false,false,false,false,false,false,false,false,false,false,false,false,false,false,false,false,false]
abbrev b25MW : Array Bool := #[true,true,false,false,false,false,false,false,false,false,false,false,false,false,false,false,false,false,false,false,false,false,false,false,false,false,false,false,false,false]
abbrev b26MW : Array Bool := #[true,true,true,false,false,false,false,false,false,false,false,false,false,false,false,false,false,false,false,false,false,false,false,false,false,false,false,false,false,false]
abbrev b27MW : Array Bool := #[true,true,true,true,false,false,false,false,false,false,false,false,false,false,false,false,false,false,false,false,false,false,false,false,false,false,false,false,false,false]
abbrev b28MW : Array Bool := #[true,true,true,true,true,false,false,false,false,false,false,false,false,false,false,false,false,false,false,false,false,false,false,false,false,false,false,false,false,false]
abbrev b29MW : Array Bool := #[true,true,true,true,true,true,false,false,false,false,false,false,false,false,false,false,false,false,false,false,false,false,false,false,false,false,false,false,false,false]
abbrev b30MW : Array Bool := #[true,true,true,true,true,true,true,false,false,false,false,false,false,false,false,false,false,false,false,false,false,false,false,false,false,false,false,false,false,false]
abbrev b31MW : Array Bool := #[true,true,true,true,true,true,true,true,false,false,false,false,false,false,false,false,false,false,false,false,false,false,false,false,false,false,false,false,false,false]
abbrev b32MW : Array Bool := #[true,true,true,true,true,true,true,true,true,false,false,false,false,false,false,false,false,false,false,false,false,false,false,false,false,false,false,false,false,false]
abbrev b33MW : Array Bool := #[true,true,true,true,true,true,true,true,true,true,false,false,false,false,false,false,false,false,false,false,false,false,false,false,false,false,false,false,false,false]
abbrev b34MW : Array Bool := #[true,true,true,true,true,true,true,true,true,true,true,false,false,false,false,false,false,false,false,false,false,false,false,false,false,false,false,false,false,false]
abbrev b35MW : Array Bool := #[true,true,true,true,true,true,true,true,true,true,true,true,false,false,false,false,false,false,false,false,false,false,false,false,false,false,false,false,false,false]
abbrev b36MW : Array Bool := #[true,true,true,true,true,true,true,true,true,true,true,true,true,false,false,false,false,false,false,false,false,false,false,false,false,false,false,false,false,false]
abbrev b37MW : Array Bool := #[true,true,true,true,true,true,true,true,true,true,true,true,true,true,false,false,false,false,false,false,false,false,false,false,false,false,false,false,false,false]
abbrev b38MW : Array Bool := #[true,true,true,true,true,true,true,true,true,true,true,true,true,true,true,false,false,false,false,false,false,false,false,false,false,false,false,false,false,false]
abbrev b39MW : Array Bool := #[true,true,true,true,true,true,true,true,true,true,true,true,true,true,true,true,false,false,false,false,false,false,false,false,false,false,false,false,false,false]
abbrev b40MW : Array Bool := #[true,true,true,true,true,true,true,true,true,true,true,true,true,true,true,true,true,false,false,false,false,false,false,false,false,false,false,false,false,false]
abbrev b41MW : Array Bool := #[true,true,true,true,true,true,true,true,true,true,true,true,true,true,true,true,true,true,false,false,false,false,false,false,false,false,false,false,false,false]
abbrev b42MW : Array Bool := #[true,true,true,true,true,true,true,true,true,true,true,true,true,true,true,true,true,true,true,false,false,false,false,false,false,false,false,false,false,false]
abbrev b43MW : Array Bool := #[true,true,true,true,true,true,true,true,true,true,true,true,true,true,true,true,true,true,true,true,false,false,false,false,false,false,false,false,false,false]
abbrev b44MW : Array Bool := #[true,true,true,true,true,true,true,true,true,true,true,true,true,true,true,true,true,true,true,true,true,false,false,false,false,false,false,false,false,false]
abbrev b45MW : Array Bool := #[true,true,true,true,true,true,true,true,true,true,true,true,true,true,true,true,true,true,true,true,true,true,false,false,false,false,false,false,false,false]
abbrev b46MW : Array Bool := #[true,true,true,true,true,true,true,true,true,true,true,true,true,true,true,true,true,true,true,true,true,true,true,false,false,false,false,false,false,false]
abbrev b47MW : Array Bool := #[true,true,true,true,true,true,true,true,true,true,true,true,true,true,true,true,true,true,true,true,true,true,true,true,false,false,false,false,false,false]
abbrev b48MW : Array Bool := #[true,true,true,true,true,true,true,true,true,true,true,true,true,true,true,true,true,true,true,true,true,true,true,true,true,false,false,false,false,false]
abbrev b49MW : Array Bool := #[true,true,true,true,true,true,true,true,true,true,true,true,true,true,true,true,true,true,true,true,true,true,true,true,true,true,false,false,false,false]
abbrev b50MW : Array Bool := #[true,true,true,true,true,true,true,true,true,true,true,true,true,true,true,true,true,true,true,true,true,true,true,true,true,true,true,false,false,false]
abbrev b51MW : Array Bool := #[true,true,true,true,true,true,true,true,true,true,true,true,true,true,true,true,true,true,true,true,true,true,true,true,true,true,true,true,false,false]
abbrev b52MW : Array Bool := #[true,true,true,true,true,true,true,true,true,true,true,true,true,true,true,true,true,true,true,true,true,true,true,true,true,true,true,true,true,false]
abbrev b53MW : Array Bool := #[true,true,true,true,true,true,true,true,true,true,true,true,true,true,true,true,true,true,true,true,true,true,true,true,true,true,true,true,true,true]
abbrev b54MW : Array Bool := #[true,true,true,true,true,true,true,true,true,true,true,true,true,true,true,true,true,true,true,true,false,false,true,false,false,false,false,false,false,false]
abbrev b55MW : Array Bool := #[true,true,true,true,true,true,true,true,true,true,true,true,true,true,true,true,true,true,true,true,false,false,true,true,false,false,false,false,false,false]
abbrev b56MW : Array Bool := #[true,true,true,true,true,true,true,true,true,true,true,true,true,true,true,true,true,true,true,true,false,false,true,true,false,false,true,false,false,false]
abbrev b57MW : Array Bool := #[true,true,true,true,true,true,true,true,true,true,true,true,true,true,true,true,true,true,true,true,true,false,true,true,false,false,true,false,false,false]
abbrev b58MW : Array Bool := #[true,true,true,true,true,true,true,true,true,true,true,true,true,true,true,true,true,true,true,true,true,true,true,true,false,false,true,false,false,false]
abbrev b59MW : Array Bool := #[true,true,true,true,true,true,true,true,true,true,true,true,true,true,true,true,true,true,true,true,true,true,true,true,true,false,true,false,false,false]
set_option maxHeartbeats 8000000 in
set_option maxRecDepth 100000 in
theorem laws_FnMarkovWords.calls (k : Nat) (A0 : Option Addr) (c0 : Nat) (l0 : List Int) (A1 : Option Addr) (c1 : Nat) (l1 : List Int) (r : Bool) (w : World) (hr0 : Kd.C (Kd.int .u8) w A0 l0.length l0) (hc0 : l0.length ≤ c0) (hr1 : Kd.C (Kd.int .u8) w A1 l1.length l1) (hc1 : l1.length ≤ c1) (h : laws_FnMarkovWords.f k l0 l1 = some r) :
  Calls Try.prog 12 #[.slice A0 l0.length c0, .slice A1 l1.length c1] w fun e w' => e = .returned (.bool r) ∧ Below w.heap.size w w' := by
 have HR0 := Aside0.mk hr0
 have HC0 := Aside0.mk hc0
 clear hr0 hc0
 have HR1 := Aside0.mk hr1
 have HC1 := Aside0.mk hc1
 clear hr1 hc1
 have HB := Aside0.mk (Below.refl w.heap.size w)
 have H : ((laws_big.f l0 l1).bind fun t735 => (if t735 = true then (some true) else ((spec_DrawMarkovPath.f k l0).bind fun t736 => ((impl_MarkovPath.f k t736).bind fun bt739 => ((spec_MarkovPath.f k t736).bind fun bt743 => ((impl_MarkovWord.f k t736).bind fun bt747 => ((spec_MarkovWord.f k t736).bind fun bt749 => ((impl_MinusOneRoot.f k t736).bind fun bt751 => ((spec_MinusOneRoot.f k t736).bind fun bt753 => (if (bt739.2 != bt743.2) = true then (laws_FnMarkovWords.j0 k l1 t736 bt739.1 bt739.2 bt747.1 bt747.2 bt751.1 true) else ((laws_dLists.f k bt739.1 bt743.1).bind fun t755 => (if t755 = true then (if (bt747.2 != bt749.2) = true then (laws_FnMarkovWords.j0 k l1 t736 bt739.1 bt739.2 bt747.1 bt747.2 bt751.1 true) else (if bt747.1.toList = bt749.1.toList then (if (bt751.2 != bt753.2) = true then (laws_FnMarkovWords.j0 k l1 t736 bt739.1 bt739.2 bt747.1 bt747.2 bt751.1 true) else (if bt751.1 = bt753.1 then ((impl_IsMarkov.f k t736).bind fun t756 => (if (bt739.2 != t756) = true then (laws_FnMarkovWords.j0 k l1 t736 bt739.1 bt739.2 bt747.1 bt747.2 bt751.1 true) else (laws_FnMarkovWords.j0 k l1 t736 bt739.1 bt739.2 bt747.1 bt747.2 bt751.1 (bt751.2 != bt739.2)))) else (laws_FnMarkovWords.j0 k l1 t736 bt739.1 bt739.2 bt747.1 bt747.2 bt751.1 true))) else (laws_FnMarkovWords.j0 k l1 t736 bt739.1 bt739.2 bt747.1 bt747.2 bt751.1 true))) else (laws_FnMarkovWords.j0 k l1 t736 bt739.1 bt739.2 bt747.1 bt747.2 bt751.1 true))))))))))))) = some r := h
 clear h
 replace H := Option.bind_eq_some_iff.mp H
 obtain ⟨t735, A30, H⟩ := H
 replace H : (if t735 = true then (some true) else ((spec_DrawMarkovPath.f k l0).bind fun t736 => ((impl_MarkovPath.f k t736).bind fun bt739 => ((spec_MarkovPath.f k t736).bind fun bt743 => ((impl_MarkovWord.f k t736).bind fun bt747 => ((spec_MarkovWord.f k t736).bind fun bt749 => ((impl_MinusOneRoot.f k t736).bind fun bt751 => ((spec_MinusOneRoot.f k t736).bind fun bt753 => (if (bt739.2 != bt743.2) = true then (laws_FnMarkovWords.j0 k l1 t736 bt739.1 bt739.2 bt747.1 bt747.2 bt751.1 true) else ((laws_dLists.f k bt739.1 bt743.1).bind fun t755 => (if t755 = true then (if (bt747.2 != bt749.2) = true then (laws_FnMarkovWords.j0 k l1 t736 bt739.1 bt739.2 bt747.1 bt747.2 bt751.1 true) else (if bt747.1.toList = bt749.1.toList then (if (bt751.2 != bt753.2) = true then (laws_FnMarkovWords.j0 k l1 t736 bt739.1 bt739.2 bt747.1 bt747.2 bt751.1 true) else (if bt751.1 = bt753.1 then ((impl_IsMarkov.f k t736).bind fun t756 => (if (bt739.2 != t756) = true then (laws_FnMarkovWords.j0 k l1 t736 bt739.1 bt739.2 bt747.1 bt747.2 bt751.1 true) else (laws_FnMarkovWords.j0 k l1 t736 bt739.1 bt739.2 bt747.1 bt747.2 bt751.1 (bt751.2 != bt739.2)))) else (laws_FnMarkovWords.j0 k l1 t736 bt739.1 bt739.2 bt747.1 bt747.2 bt751.1 true))) else (laws_FnMarkovWords.j0 k l1 t736 bt739.1 bt739.2 bt747.1 bt747.2 bt751.1 true))) else (laws_FnMarkovWords.j0 k l1 t736 bt739.1 bt739.2 bt747.1 bt747.2 bt751.1 true)))))))))))) = some r := H
 have A3 := Aside0.mk A30
 clear A30
 by_cases c4 : t735 = true
 ·subst c4
  have H1 : (some true) = some r := by rw [if_pos rfl] at H; exact H
  clear H; have H := H1; clear H1
  obtain rfl := Option.some.inj H
  go_enter Try.func12, Try.ntmps12
  go_wp2_with (first | ((with_reducible refine gate_callee (f := 38) rfl ?_); refine goesL_ (some 32) rfl rfl Try.func38 (by kernel_rfl) rfl #[.slice A0 l0.length c0, .slice A1 l1.length c1] rfl (by (try simp only [List.map_toArray, List.map_cons, List.map_nil]); first | done | rfl) ?_; (with_reducible refine (laws_big.calls _ _ l0 _ _ l1 true _ ?side1 ?side2 ?side3 ?side4 A3.out).mono ?_); (case side1 => repeat (first | exact HR0.out | (with_reducible refine Kd.C_alloc ?_ _) | (with_reducible refine Kd.C_drewN ?_ _) | (with_reducible refine Kd.C_drew ?_))); (case side2 => exact HC0.out); (case side3 => repeat (first | exact HR1.out | (with_reducible refine Kd.C_alloc ?_ _) | (with_reducible refine Kd.C_drewN ?_ _) | (with_reducible refine Kd.C_drew ?_))); (case side4 => exact HC1.out); rintro e w' ⟨rfl, ⟨nd, rfl⟩⟩; refine ⟨_, rfl, ?_⟩))
  go_ret
  exact ⟨by first | rfl | (simp [errW_none, errW_some] <;> rfl) | (simp [*, errW_none, errW_some] <;> rfl), by repeat (first | (with_reducible first | exact HB.out | apply below_alloc | apply pw_below_drewN | apply below_drew1) | exact HB.out)⟩
 ·as_aux_lemma =>
  replace c4 := Bool.eq_false_iff.mpr c4
  subst c4
  have H1 : ((spec_DrawMarkovPath.f k l0).bind fun t736 => ((impl_MarkovPath.f k t736).bind fun bt739 => ((spec_MarkovPath.f k t736).bind fun bt743 => ((impl_MarkovWord.f k t736).bind fun bt747 => ((spec_MarkovWord.f k t736).bind fun bt749 => ((impl_MinusOneRoot.f k t736).bind fun bt751 => ((spec_MinusOneRoot.f k t736).bind fun bt753 => (if (bt739.2 != bt743.2) = true then (laws_FnMarkovWords.j0 k l1 t736 bt739.1 bt739.2 bt747.1 bt747.2 bt751.1 true) else ((laws_dLists.f k bt739.1 bt743.1).bind fun t755 => (if t755 = true then (if (bt747.2 != bt749.2) = true then (laws_FnMarkovWords.j0 k l1 t736 bt739.1 bt739.2 bt747.1 bt747.2 bt751.1 true) else (if bt747.1.toList = bt749.1.toList then (if (bt751.2 != bt753.2) = true then (laws_FnMarkovWords.j0 k l1 t736 bt739.1 bt739.2 bt747.1 bt747.2 bt751.1 true) else (if bt751.1 = bt753.1 then ((impl_IsMarkov.f k t736).bind fun t756 => (if (bt739.2 != t756) = true then (laws_FnMarkovWords.j0 k l1 t736 bt739.1 bt739.2 bt747.1 bt747.2 bt751.1 true) else (laws_FnMarkovWords.j0 k l1 t736 bt739.1 bt739.2 bt747.1 bt747.2 bt751.1 (bt751.2 != bt739.2)))) else (laws_FnMarkovWords.j0 k l1 t736 bt739.1 bt739.2 bt747.1 bt747.2 bt751.1 true))) else (laws_FnMarkovWords.j0 k l1 t736 bt739.1 bt739.2 bt747.1 bt747.2 bt751.1 true))) else (laws_FnMarkovWords.j0 k l1 t736 bt739.1 bt739.2 bt747.1 bt747.2 bt751.1 true))))))))))) = some r := by rw [if_neg (show ¬ (false = true) by decide)] at H; exact H
  clear H; have H := H1; clear H1
  replace H := Option.bind_eq_some_iff.mp H
  obtain ⟨t736, A50, H⟩ := H
  replace H : ((impl_MarkovPath.f k t736).bind fun bt739 => ((spec_MarkovPath.f k t736).bind fun bt743 => ((impl_MarkovWord.f k t736).bind fun bt747 => ((spec_MarkovWord.f k t736).bind fun bt749 => ((impl_MinusOneRoot.f k t736).bind fun bt751 => ((spec_MinusOneRoot.f k t736).bind fun bt753 => (if (bt739.2 != bt743.2) = true then (laws_FnMarkovWords.j0 k l1 t736 bt739.1 bt739.2 bt747.1 bt747.2 bt751.1 true) else ((laws_dLists.f k bt739.1 bt743.1).bind fun t755 => (if t755 = true then (if (bt747.2 != bt749.2) = true then (laws_FnMarkovWords.j0 k l1 t736 bt739.1 bt739.2 bt747.1 bt747.2 bt751.1 true) else (if bt747.1.toList = bt749.1.toList then (if (bt751.2 != bt753.2) = true then (laws_FnMarkovWords.j0 k l1 t736 bt739.1 bt739.2 bt747.1 bt747.2 bt751.1 true) else (if bt751.1 = bt753.1 then ((impl_IsMarkov.f k t736).bind fun t756 => (if (bt739.2 != t756) = true then (laws_FnMarkovWords.j0 k l1 t736 bt739.1 bt739.2 bt747.1 bt747.2 bt751.1 true) else (laws_FnMarkovWords.j0 k l1 t736 bt739.1 bt739.2 bt747.1 bt747.2 bt751.1 (bt751.2 != bt739.2)))) else (laws_FnMarkovWords.j0 k l1 t736 bt739.1 bt739.2 bt747.1 bt747.2 bt751.1 true))) else (laws_FnMarkovWords.j0 k l1 t736 bt739.1 bt739.2 bt747.1 bt747.2 bt751.1 true))) else (laws_FnMarkovWords.j0 k l1 t736 bt739.1 bt739.2 bt747.1 bt747.2 bt751.1 true)))))))))) = some r := H
  have A5 := Aside0.mk A50
  clear A50
  replace H := Option.bind_eq_some_iff.mp H
  obtain ⟨⟨t739, t740⟩, A60, H⟩ := H
  replace H : ((spec_MarkovPath.f k t736).bind fun bt743 => ((impl_MarkovWord.f k t736).bind fun bt747 => ((spec_MarkovWord.f k t736).bind fun bt749 => ((impl_MinusOneRoot.f k t736).bind fun bt751 => ((spec_MinusOneRoot.f k t736).bind fun bt753 => (if (t740 != bt743.2) = true then (laws_FnMarkovWords.j0 k l1 t736 t739 t740 bt747.1 bt747.2 bt751.1 true) else ((laws_dLists.f k t739 bt743.1).bind fun t755 => (if t755 = true then (if (bt747.2 != bt749.2) = true then (laws_FnMarkovWords.j0 k l1 t736 t739 t740 bt747.1 bt747.2 bt751.1 true) else (if bt747.1.toList = bt749.1.toList then (if (bt751.2 != bt753.2) = true then (laws_FnMarkovWords.j0 k l1 t736 t739 t740 bt747.1 bt747.2 bt751.1 true) else (if bt751.1 = bt753.1 then ((impl_IsMarkov.f k t736).bind fun t756 => (if (t740 != t756) = true then (laws_FnMarkovWords.j0 k l1 t736 t739 t740 bt747.1 bt747.2 bt751.1 true) else (laws_FnMarkovWords.j0 k l1 t736 t739 t740 bt747.1 bt747.2 bt751.1 (bt751.2 != t740)))) else (laws_FnMarkovWords.j0 k l1 t736 t739 t740 bt747.1 bt747.2 bt751.1 true))) else (laws_FnMarkovWords.j0 k l1 t736 t739 t740 bt747.1 bt747.2 bt751.1 true))) else (laws_FnMarkovWords.j0 k l1 t736 t739 t740 bt747.1 bt747.2 bt751.1 true))))))))) = some r := H
  have A6 := Aside0.mk A60
  clear A60
  replace H := Option.bind_eq_some_iff.mp H
  obtain ⟨⟨t743, t744⟩, A70, H⟩ := H
  replace H : ((impl_MarkovWord.f k t736).bind fun bt747 => ((spec_MarkovWord.f k t736).bind fun bt749 => ((impl_MinusOneRoot.f k t736).bind fun bt751 => ((spec_MinusOneRoot.f k t736).bind fun bt753 => (if (t740 != t744) = true then (laws_FnMarkovWords.j0 k l1 t736 t739 t740 bt747.1 bt747.2 bt751.1 true) else ((laws_dLists.f k t739 t743).bind fun t755 => (if t755 = true then (if (bt747.2 != bt749.2) = true then (laws_FnMarkovWords.j0 k l1 t736 t739 t740 bt747.1 bt747.2 bt751.1 true) else (if bt747.1.toList = bt749.1.toList then (if (bt751.2 != bt753.2) = true then (laws_FnMarkovWords.j0 k l1 t736 t739 t740 bt747.1 bt747.2 bt751.1 true) else (if bt751.1 = bt753.1 then ((impl_IsMarkov.f k t736).bind fun t756 => (if (t740 != t756) = true then (laws_FnMarkovWords.j0 k l1 t736 t739 t740 bt747.1 bt747.2 bt751.1 true) else (laws_FnMarkovWords.j0 k l1 t736 t739 t740 bt747.1 bt747.2 bt751.1 (bt751.2 != t740)))) else (laws_FnMarkovWords.j0 k l1 t736 t739 t740 bt747.1 bt747.2 bt751.1 true))) else (laws_FnMarkovWords.j0 k l1 t736 t739 t740 bt747.1 bt747.2 bt751.1 true))) else (laws_FnMarkovWords.j0 k l1 t736 t739 t740 bt747.1 bt747.2 bt751.1 true)))))))) = some r := H
  have A7 := Aside0.mk A70
  clear A70
  replace H := Option.bind_eq_some_iff.mp H
  obtain ⟨⟨t747, t748⟩, A80, H⟩ := H
  replace H : ((spec_MarkovWord.f k t736).bind fun bt749 => ((impl_MinusOneRoot.f k t736).bind fun bt751 => ((spec_MinusOneRoot.f k t736).bind fun bt753 => (if (t740 != t744) = true then (laws_FnMarkovWords.j0 k l1 t736 t739 t740 t747 t748 bt751.1 true) else ((laws_dLists.f k t739 t743).bind fun t755 => (if t755 = true then (if (t748 != bt749.2) = true then (laws_FnMarkovWords.j0 k l1 t736 t739 t740 t747 t748 bt751.1 true) else (if t747.toList = bt749.1.toList then (if (bt751.2 != bt753.2) = true then (laws_FnMarkovWords.j0 k l1 t736 t739 t740 t747 t748 bt751.1 true) else (if bt751.1 = bt753.1 then ((impl_IsMarkov.f k t736).bind fun t756 => (if (t740 != t756) = true then (laws_FnMarkovWords.j0 k l1 t736 t739 t740 t747 t748 bt751.1 true) else (laws_FnMarkovWords.j0 k l1 t736 t739 t740 t747 t748 bt751.1 (bt751.2 != t740)))) else (laws_FnMarkovWords.j0 k l1 t736 t739 t740 t747 t748 bt751.1 true))) else (laws_FnMarkovWords.j0 k l1 t736 t739 t740 t747 t748 bt751.1 true))) else (laws_FnMarkovWords.j0 k l1 t736 t739 t740 t747 t748 bt751.1 true))))))) = some r := H
  have A8 := Aside0.mk A80
  clear A80
  replace H := Option.bind_eq_some_iff.mp H
  obtain ⟨⟨t749, t750⟩, A90, H⟩ := H
  replace H : ((impl_MinusOneRoot.f k t736).bind fun bt751 => ((spec_MinusOneRoot.f k t736).bind fun bt753 => (if (t740 != t744) = true then (laws_FnMarkovWords.j0 k l1 t736 t739 t740 t747 t748 bt751.1 true) else ((laws_dLists.f k t739 t743).bind fun t755 => (if t755 = true then (if (t748 != t750) = true then (laws_FnMarkovWords.j0 k l1 t736 t739 t740 t747 t748 bt751.1 true) else (if t747.toList = t749.toList then (if (bt751.2 != bt753.2) = true then (laws_FnMarkovWords.j0 k l1 t736 t739 t740 t747 t748 bt751.1 true) else (if bt751.1 = bt753.1 then ((impl_IsMarkov.f k t736).bind fun t756 => (if (t740 != t756) = true then (laws_FnMarkovWords.j0 k l1 t736 t739 t740 t747 t748 bt751.1 true) else (laws_FnMarkovWords.j0 k l1 t736 t739 t740 t747 t748 bt751.1 (bt751.2 != t740)))) else (laws_FnMarkovWords.j0 k l1 t736 t739 t740 t747 t748 bt751.1 true))) else (laws_FnMarkovWords.j0 k l1 t736 t739 t740 t747 t748 bt751.1 true))) else (laws_FnMarkovWords.j0 k l1 t736 t739 t740 t747 t748 bt751.1 true)))))) = some r := H
  have A9 := Aside0.mk A90
  clear A90
  replace H := Option.bind_eq_some_iff.mp H
  obtain ⟨⟨t751, t752⟩, A100, H⟩ := H
  replace H : ((spec_MinusOneRoot.f k t736).bind fun bt753 => (if (t740 != t744) = true then (laws_FnMarkovWords.j0 k l1 t736 t739 t740 t747 t748 t751 true) else ((laws_dLists.f k t739 t743).bind fun t755 => (if t755 = true then (if (t748 != t750) = true then (laws_FnMarkovWords.j0 k l1 t736 t739 t740 t747 t748 t751 true) else (if t747.toList = t749.toList then (if (t752 != bt753.2) = true then (laws_FnMarkovWords.j0 k l1 t736 t739 t740 t747 t748 t751 true) else (if t751 = bt753.1 then ((impl_IsMarkov.f k t736).bind fun t756 => (if (t740 != t756) = true then (laws_FnMarkovWords.j0 k l1 t736 t739 t740 t747 t748 t751 true) else (laws_FnMarkovWords.j0 k l1 t736 t739 t740 t747 t748 t751 (t752 != t740)))) else (laws_FnMarkovWords.j0 k l1 t736 t739 t740 t747 t748 t751 true))) else (laws_FnMarkovWords.j0 k l1 t736 t739 t740 t747 t748 t751 true))) else (laws_FnMarkovWords.j0 k l1 t736 t739 t740 t747 t748 t751 true))))) = some r := H
  have A10 := Aside0.mk A100
  clear A100
  replace H := Option.bind_eq_some_iff.mp H
  obtain ⟨⟨t753, t754⟩, A110, H⟩ := H
  replace H : (if (t740 != t744) = true then (laws_FnMarkovWords.j0 k l1 t736 t739 t740 t747 t748 t751 true) else ((laws_dLists.f k t739 t743).bind fun t755 => (if t755 = true then (if (t748 != t750) = true then (laws_FnMarkovWords.j0 k l1 t736 t739 t740 t747 t748 t751 true) else (if t747.toList = t749.toList then (if (t752 != t754) = true then (laws_FnMarkovWords.j0 k l1 t736 t739 t740 t747 t748 t751 true) else (if t751 = t753 then ((impl_IsMarkov.f k t736).bind fun t756 => (if (t740 != t756) = true then (laws_FnMarkovWords.j0 k l1 t736 t739 t740 t747 t748 t751 true) else (laws_FnMarkovWords.j0 k l1 t736 t739 t740 t747 t748 t751 (t752 != t740)))) else (laws_FnMarkovWords.j0 k l1 t736 t739 t740 t747 t748 t751 true))) else (laws_FnMarkovWords.j0 k l1 t736 t739 t740 t747 t748 t751 true))) else (laws_FnMarkovWords.j0 k l1 t736 t739 t740 t747 t748 t751 true)))) = some r := H
  have A11 := Aside0.mk A110
  clear A110
  have HC12 := Aside0.mk H
  clear H
  go_enter Try.func12, Try.ntmps12
  go_upto_region 10 with (first | ((with_reducible refine gate_callee (f := 38) rfl ?_); refine goesL_ (some 32) rfl rfl Try.func38 (by kernel_rfl) rfl #[.slice A0 l0.length c0, .slice A1 l1.length c1] rfl (by (try simp only [List.map_toArray, List.map_cons, List.map_nil]); first | done | rfl) ?_; (with_reducible refine (laws_big.calls _ _ l0 _ _ l1 false _ ?side1 ?side2 ?side3 ?side4 A3.out).mono ?_); (case side1 => repeat (first | exact HR0.out | (with_reducible refine Kd.C_alloc ?_ _) | (with_reducible refine Kd.C_drewN ?_ _) | (with_reducible refine Kd.C_drew ?_))); (case side2 => exact HC0.out); (case side3 => repeat (first | exact HR1.out | (with_reducible refine Kd.C_alloc ?_ _) | (with_reducible refine Kd.C_drewN ?_ _) | (with_reducible refine Kd.C_drew ?_))); (case side4 => exact HC1.out); rintro e w' ⟨rfl, ⟨nd, rfl⟩⟩; refine ⟨_, rfl, ?_⟩) | ((with_reducible refine gate_callee (f := 47) rfl ?_); refine goesL_ (some 34) rfl rfl Try.func47 (by kernel_rfl) rfl #[.slice A0 l0.length c0] rfl (by (try simp only [List.map_toArray, List.map_cons, List.map_nil]); first | done | rfl) ?_; (with_reducible refine (spec_DrawMarkovPath.calls k _ _ l0 t736 _ ?side1 ?side2 A5.out).mono ?_); (case side1 => repeat (first | exact HR0.out | (with_reducible refine Kd.C_alloc ?_ _) | (with_reducible refine Kd.C_drewN ?_ _) | (with_reducible refine Kd.C_drew ?_))); (case side2 => exact HC0.out); rintro e w13 ⟨v737, rfl, ho0, hb⟩; refine ⟨_, rfl, ?_⟩; have n0_ := Aside0.mk (Kd.R_lower ho0 (below_size (by repeat (first | (with_reducible first | exact HB.out | apply below_alloc | apply pw_below_drewN | apply below_drew1) | exact HB.out)))); have n1_ := Aside0.mk (below_step (by repeat (first | (with_reducible first | exact HB.out | apply below_alloc | apply pw_below_drewN | apply below_drew1) | exact HB.out)) hb); clear HB; have HO738 := n0_; have HB := n1_; clear n0_ n1_; (try clear hb); (try clear hb2); (try clear hk); (try clear hi); (try clear ho0); obtain ⟨Ao14, co14, eo14⟩ := Kd.R_slice HO738.out; subst eo14) | ((with_reducible refine gate_callee (f := 32) rfl ?_); refine goesL_ (some 37) rfl rfl Try.func32 (by kernel_rfl) rfl #[.slice Ao14 t736.length co14] rfl (by (try simp only [List.map_toArray, List.map_cons, List.map_nil]); first | done | rfl) ?_; (with_reducible refine (impl_MarkovPath.calls k _ _ t736 t739 t740 _ ?side1 ?side2 A6.out).mono ?_); (case side1 => repeat (first | exact (Kd.R_reads' HO738.out).2.2 | (with_reducible refine Kd.C_alloc ?_ _) | (with_reducible refine Kd.C_drewN ?_ _) | (with_reducible refine Kd.C_drew ?_))); (case side2 => exact (Kd.R_reads' HO738.out).2.1); rintro e w15 ⟨v741, rfl, ho0, hb⟩; refine ⟨_, rfl, ?_⟩; have n0_ := Aside0.mk (Kd.R_below (by (with_reducible repeat (first | apply Kd.R_alloc | apply Kd.R_drewN | apply Kd.R_drew)); exact HO738.out) hb); have n1_ := Aside0.mk (Kd.S_lower (Kd.S_new' ho0 (Kd.R_lt (by (with_reducible repeat (first | apply Kd.R_alloc | apply Kd.R_drewN | apply Kd.R_drew)); exact HO738.out))) (below_size (by repeat (first | (with_reducible first | exact HB.out | apply below_alloc | apply pw_below_drewN | apply below_drew1) | exact HB.out)))); have n2_ := Aside0.mk (below_step (by repeat (first | (with_reducible first | exact HB.out | apply below_alloc | apply pw_below_drewN | apply below_drew1) | exact HB.out)) hb); clear HO738; clear HB; have HO738 := n0_; have HO742 := n1_; have HB := n2_; clear n0_ n1_ n2_; (try clear hb); (try clear hb2); (try clear hk); (try clear hi); (try clear ho0)) | ((with_reducible refine gate_callee (f := 31) rfl ?_); refine goesL_ (some 42) rfl rfl Try.func31 (by kernel_rfl) rfl #[.slice Ao14 t736.length co14] rfl (by (try simp only [List.map_toArray, List.map_cons, List.map_nil]); first | done | rfl) ?_; (with_reducible refine (spec_MarkovPath.calls k _ _ t736 t743 t744 _ ?side1 ?side2 A7.out).mono ?_); (case side1 => repeat (first | exact (Kd.R_reads' HO738.out).2.2 | (with_reducible refine Kd.C_alloc ?_ _) | (with_reducible refine Kd.C_drewN ?_ _) | (with_reducible refine Kd.C_drew ?_))); (case side2 => exact (Kd.R_reads' HO738.out).2.1); rintro e w16 ⟨v745, rfl, ho0, hb⟩; refine ⟨_, rfl, ?_⟩; have n0_ := Aside0.mk (Kd.R_below (by (with_reducible repeat (first | apply Kd.R_alloc | apply Kd.R_drewN | apply Kd.R_drew)); exact HO738.out) hb); have n1_ := Aside0.mk (Kd.S_elder' (by (with_reducible repeat (first | apply Kd.S_alloc | apply Kd.S_drewN | apply Kd.S_drew)); exact HO742.out) (Kd.S_base ho0) hb); have n2_ := Aside0.mk (Kd.S_lower (Kd.S_new' (Kd.S_new' ho0 (Kd.R_lt (by (with_reducible repeat (first | apply Kd.R_alloc | apply Kd.R_drewN | apply Kd.R_drew)); exact HO738.out))) (Kd.S_lt (by (with_reducible repeat (first | apply Kd.S_alloc | apply Kd.S_drewN | apply Kd.S_drew)); exact HO742.out))) (below_size (by repeat (first | (with_reducible first | exact HB.out | apply below_alloc | apply pw_below_drewN | apply below_drew1) | exact HB.out)))); have n3_ := Aside0.mk (below_step (by repeat (first | (with_reducible first | exact HB.out | apply below_alloc | apply pw_below_drewN | apply below_drew1) | exact HB.out)) hb); clear HO738; clear HO742; clear HB; have HO738 := n0_; have HO742 := n1_; have HO746 := n2_; have HB := n3_; clear n0_ n1_ n2_ n3_; (try clear hb); (try clear hb2); (try clear hk); (try clear hi); (try clear ho0)) | ((with_reducible refine gate_callee (f := 30) rfl ?_); refine goesL_ (some 47) rfl rfl Try.func30 (by kernel_rfl) rfl #[.slice Ao14 t736.length co14] rfl (by (try simp only [List.map_toArray, List.map_cons, List.map_nil]); first | done | rfl) ?_; (with_reducible refine (impl_MarkovWord.calls k (fun k_ => some k_ = (.slice Ao14 t736.length co14 : Value).ownBlock) _ _ t736 t747 t748 _ ?side1 A8.out).mono ?_); (case side1 => exact Kd.R_V (Kd.R_tight rfl (Kd.R_apart' (Kd.R_apart' (HO738.out) (Kd.S_typed HO742.out) (by decide)) (Kd.S_typed HO746.out) (by decide)))); rintro e w17 ⟨rfl, hb⟩; refine ⟨_, rfl, ?_⟩; have n0_ := Aside0.mk (Kd.R_below (by (with_reducible repeat (first | apply Kd.R_alloc | apply Kd.R_drewN | apply Kd.R_drew)); exact HO738.out) hb); have n1_ := Aside0.mk (Kd.S_below (by (with_reducible repeat (first | apply Kd.S_alloc | apply Kd.S_drewN | apply Kd.S_drew)); exact HO742.out) hb); have n2_ := Aside0.mk (Kd.S_below (by (with_reducible repeat (first | apply Kd.S_alloc | apply Kd.S_drewN | apply Kd.S_drew)); exact HO746.out) hb); have n3_ := Aside0.mk (below_step (by repeat (first | (with_reducible first | exact HB.out | apply below_alloc | apply pw_below_drewN | apply below_drew1) | exact HB.out)) hb); clear HO738; clear HO742; clear HO746; clear HB; have HO738 := n0_; have HO742 := n1_; have HO746 := n2_; have HB := n3_; clear n0_ n1_ n2_ n3_; (try clear hb); (try clear hb2); (try clear hk); (try clear hi)) | ((with_reducible refine gate_callee (f := 29) rfl ?_); refine goesL_ (some 52) rfl rfl Try.func29 (by kernel_rfl) rfl #[.slice Ao14 t736.length co14] rfl (by (try simp only [List.map_toArray, List.map_cons, List.map_nil]); first | done | rfl) ?_; (with_reducible refine (spec_MarkovWord.calls k _ _ t736 t749 t750 _ ?side1 ?side2 A9.out).mono ?_); (case side1 => repeat (first | exact (Kd.R_reads' HO738.out).2.2 | (with_reducible refine Kd.C_alloc ?_ _) | (with_reducible refine Kd.C_drewN ?_ _) | (with_reducible refine Kd.C_drew ?_))); (case side2 => exact (Kd.R_reads' HO738.out).2.1); rintro e w18 ⟨rfl, hb⟩; refine ⟨_, rfl, ?_⟩; have n0_ := Aside0.mk (Kd.R_below (by (with_reducible repeat (first | apply Kd.R_alloc | apply Kd.R_drewN | apply Kd.R_drew)); exact HO738.out) hb); have n1_ := Aside0.mk (Kd.S_below (by (with_reducible repeat (first | apply Kd.S_alloc | apply Kd.S_drewN | apply Kd.S_drew)); exact HO742.out) hb); have n2_ := Aside0.mk (Kd.S_below (by (with_reducible repeat (first | apply Kd.S_alloc | apply Kd.S_drewN | apply Kd.S_drew)); exact HO746.out) hb); have n3_ := Aside0.mk (below_step (by repeat (first | (with_reducible first | exact HB.out | apply below_alloc | apply pw_below_drewN | apply below_drew1) | exact HB.out)) hb); clear HO738; clear HO742; clear HO746; clear HB; have HO738 := n0_; have HO742 := n1_; have HO746 := n2_; have HB := n3_; clear n0_ n1_ n2_ n3_; (try clear hb); (try clear hb2); (try clear hk); (try clear hi)) | ((with_reducible refine gate_callee (f := 17) rfl ?_); refine goesL_ (some 57) rfl rfl Try.func17 (by kernel_rfl) rfl #[.slice Ao14 t736.length co14] rfl (by (try simp only [List.map_toArray, List.map_cons, List.map_nil]); first | done | rfl) ?_; (with_reducible refine (impl_MinusOneRoot.calls k _ _ t736 t751 t752 _ ?side1 ?side2 A10.out).mono ?_); (case side1 => repeat (first | exact (Kd.R_reads' HO738.out).2.2 | (with_reducible refine Kd.C_alloc ?_ _) | (with_reducible refine Kd.C_drewN ?_ _) | (with_reducible refine Kd.C_drew ?_))); (case side2 => exact (Kd.R_reads' HO738.out).2.1); rintro e w19 ⟨rfl, hb⟩; refine ⟨_, rfl, ?_⟩; have n0_ := Aside0.mk (Kd.R_below (by (with_reducible repeat (first | apply Kd.R_alloc | apply Kd.R_drewN | apply Kd.R_drew)); exact HO738.out) hb); have n1_ := Aside0.mk (Kd.S_below (by (with_reducible repeat (first | apply Kd.S_alloc | apply Kd.S_drewN | apply Kd.S_drew)); exact HO742.out) hb); have n2_ := Aside0.mk (Kd.S_below (by (with_reducible repeat (first | apply Kd.S_alloc | apply Kd.S_drewN | apply Kd.S_drew)); exact HO746.out) hb); have n3_ := Aside0.mk (below_step (by repeat (first | (with_reducible first | exact HB.out | apply below_alloc | apply pw_below_drewN | apply below_drew1) | exact HB.out)) hb); clear HO738; clear HO742; clear HO746; clear HB; have HO738 := n0_; have HO742 := n1_; have HO746 := n2_; have HB := n3_; clear n0_ n1_ n2_ n3_; (try clear hb); (try clear hb2); (try clear hk); (try clear hi)) | ((with_reducible refine gate_callee (f := 15) rfl ?_); refine goesL_ (some 62) rfl rfl Try.func15 (by kernel_rfl) rfl #[.slice Ao14 t736.length co14] rfl (by (try simp only [List.map_toArray, List.map_cons, List.map_nil]); first | done | rfl) ?_; (with_reducible refine (spec_MinusOneRoot.calls k _ _ t736 t753 t754 _ ?side1 ?side2 A11.out).mono ?_); (case side1 => repeat (first | exact (Kd.R_reads' HO738.out).2.2 | (with_reducible refine Kd.C_alloc ?_ _) | (with_reducible refine Kd.C_drewN ?_ _) | (with_reducible refine Kd.C_drew ?_))); (case side2 => exact (Kd.R_reads' HO738.out).2.1); rintro e w' ⟨rfl, ⟨nd, rfl⟩⟩; refine ⟨_, rfl, ?_⟩))
  (try simp only [Act.put, List.setIfInBounds_toArray, List.set_cons_zero, List.set_cons_succ])
  go_cut [104] (fun v104 wc => ∃ (kq : Nat) (x104_11 : Bool), v104 = .bool x104_11 ∧ Aside0 (laws_FnMarkovWords.j0 kq l1 t736 t739 t740 t747 t748 t751 x104_11 = some r) ∧ Aside0 (kq ≤ k) ∧ Aside0 (Kd.R (Kd.int .i64) 3 wc w.heap.size (fun _ => True) (.slice Ao14 t736.length co14) t736) ∧ Aside0 (Kd.S (Kd.slice 3 (Kd.int .i64)) 22 wc w.heap.size (fun k_ => some k_ ≠ ((.slice Ao14 t736.length co14) : Value).ownBlock) v741 t739) ∧ Aside0 (Below w.heap.size w wc))
  case first => as_aux_lemma =>
   have H := HC12.out; clear HC12
   by_cases c20 : (t740 != t744) = true
   ·rw [if_pos c20] at H
    have c20b0 : (t740 != t744) = true := c20
    (try (have c20b1 : decide (t740 = t744) = false := by simpa using c20))
    (try (have c20b2 : (t740 == t744) = false := by simpa using c20))
    (try (have c20b3 : ¬ (t740 = t744) := by simpa using c20))
    clear c20
    (first | rw [c20b0] | (simp only [i64_w, i32_w]; rw [c20b0]) | skip)
    have H' := Aside0.mk H
    clear H
    go_wp2
    go_meet
    case rel => exact ⟨_, (true), (by first | rfl | (simp; done) | (simp [*]; done)), H', ⟨by first | omega | exact Nat.le_refl _⟩, ⟨by (with_reducible repeat (first | apply Kd.R_alloc | apply Kd.R_drewN | apply Kd.R_drew)); exact HO738.out⟩, ⟨by (with_reducible repeat (first | apply Kd.S_alloc | apply Kd.S_drewN | apply Kd.S_drew)); exact Kd.S_mono HO742.out (fun _ hk => hk.1.2)⟩, ⟨by repeat (first | (with_reducible first | exact HB.out | apply below_alloc | apply pw_below_drewN | apply below_drew1) | exact HB.out)⟩⟩
   ·as_aux_lemma =>
    rw [if_neg c20] at H
    have c20b0 : (t740 != t744) = false := by simpa using c20
    (try (have c20b1 : decide (t740 = t744) = true := by simpa using c20))
    (try (have c20b2 : (t740 == t744) = true := by simpa using c20))
    clear c20
    (first | rw [c20b0] | (simp only [i64_w, i32_w]; rw [c20b0]) | skip)
    replace H := Option.bind_eq_some_iff.mp H
    obtain ⟨t755, A210, H⟩ := H
    replace H : (if t755 = true then (if (t748 != t750) = true then (laws_FnMarkovWords.j0 k l1 t736 t739 t740 t747 t748 t751 true) else (if t747.toList = t749.toList then (if (t752 != t754) = true then (laws_FnMarkovWords.j0 k l1 t736 t739 t740 t747 t748 t751 true) else (if t751 = t753 then ((impl_IsMarkov.f k t736).bind fun t756 => (if (t740 != t756) = true then (laws_FnMarkovWords.j0 k l1 t736 t739 t740 t747 t748 t751 true) else (laws_FnMarkovWords.j0 k l1 t736 t739 t740 t747 t748 t751 (t752 != t740)))) else (laws_FnMarkovWords.j0 k l1 t736 t739 t740 t747 t748 t751 true))) else (laws_FnMarkovWords.j0 k l1 t736 t739 t740 t747 t748 t751 true))) else (laws_FnMarkovWords.j0 k l1 t736 t739 t740 t747 t748 t751 true)) = some r := H
    have A21 := Aside0.mk A210
    clear A210
    by_cases c22 : t755 = true
    ·as_aux_lemma =>
     subst c22
     have H1 : (if (t748 != t750) = true then (laws_FnMarkovWords.j0 k l1 t736 t739 t740 t747 t748 t751 true) else (if t747.toList = t749.toList then (if (t752 != t754) = true then (laws_FnMarkovWords.j0 k l1 t736 t739 t740 t747 t748 t751 true) else (if t751 = t753 then ((impl_IsMarkov.f k t736).bind fun t756 => (if (t740 != t756) = true then (laws_FnMarkovWords.j0 k l1 t736 t739 t740 t747 t748 t751 true) else (laws_FnMarkovWords.j0 k l1 t736 t739 t740 t747 t748 t751 (t752 != t740)))) else (laws_FnMarkovWords.j0 k l1 t736 t739 t740 t747 t748 t751 true))) else (laws_FnMarkovWords.j0 k l1 t736 t739 t740 t747 t748 t751 true))) = some r := by rw [if_pos rfl] at H; exact H
     clear H; have H := H1; clear H1
     by_cases c23 : (t748 != t750) = true
     ·as_aux_lemma =>
      rw [if_pos c23] at H
      have c23b0 : (t748 != t750) = true := c23
      (try (have c23b1 : decide (t748 = t750) = false := by simpa using c23))
      (try (have c23b2 : (t748 == t750) = false := by simpa using c23))
      (try (have c23b3 : ¬ (t748 = t750) := by simpa using c23))
      clear c23
      have H' := Aside0.mk H
      clear H
      obtain ⟨Ao24, co24, eo24⟩ := Kd.S_slice HO742.out
      subst eo24
      obtain ⟨Ao25, co25, eo25⟩ := Kd.S_slice HO746.out
      subst eo25
      go_wp2_with (first | (go_at_call 43; (with_reducible refine (laws_dLists.calls k _ _ t739 _ _ t743 true _ ?side1 ?side2 ?side3 ?side4 A21.out).mono ?_); (case side1 => repeat (first | exact (Kd.S_reads' HO742.out).2.2 | (with_reducible refine Kd.C_alloc ?_ _) | (with_reducible refine Kd.C_drewN ?_ _) | (with_reducible refine Kd.C_drew ?_))); (case side2 => exact (Kd.S_reads' HO742.out).2.1); (case side3 => repeat (first | exact (Kd.S_reads' HO746.out).2.2 | (with_reducible refine Kd.C_alloc ?_ _) | (with_reducible refine Kd.C_drewN ?_ _) | (with_reducible refine Kd.C_drew ?_))); (case side4 => exact (Kd.S_reads' HO746.out).2.1); rintro e w' ⟨rfl, ⟨nd, rfl⟩⟩))
      go_meet
      case rel => exact ⟨_, (true), (by first | rfl | (simp; done) | (simp [*]; done)), H', ⟨by first | omega | exact Nat.le_refl _⟩, ⟨by (with_reducible repeat (first | apply Kd.R_alloc | apply Kd.R_drewN | apply Kd.R_drew)); exact HO738.out⟩, ⟨by (with_reducible repeat (first | apply Kd.S_alloc | apply Kd.S_drewN | apply Kd.S_drew)); exact Kd.S_mono HO742.out (fun _ hk => hk.1.2)⟩, ⟨by repeat (first | (with_reducible first | exact HB.out | apply below_alloc | apply pw_below_drewN | apply below_drew1) | exact HB.out)⟩⟩
     ·as_aux_lemma =>
      rw [if_neg c23] at H
      have c23b0 : (t748 != t750) = false := by simpa using c23
      (try (have c23b1 : decide (t748 = t750) = true := by simpa using c23))
      (try (have c23b2 : (t748 == t750) = true := by simpa using c23))
      clear c23
      by_cases c26 : t747.toList = t749.toList
      ·as_aux_lemma =>
       rw [if_pos c26] at H
       have c26b0 : (t747.toList == t749.toList) = true := beq_iff_eq.mpr c26
       have c26b1 : (t747.toList != t749.toList) = false := bne_eq_false_iff_eq.mpr c26
       clear c26
       by_cases c27 : (t752 != t754) = true
       ·as_aux_lemma =>
        rw [if_pos c27] at H
        have c27b0 : (t752 != t754) = true := c27
        (try (have c27b1 : decide (t752 = t754) = false := by simpa using c27))
        (try (have c27b2 : (t752 == t754) = false := by simpa using c27))
        (try (have c27b3 : ¬ (t752 = t754) := by simpa using c27))
        clear c27
        have H' := Aside0.mk H
        clear H
        obtain ⟨Ao28, co28, eo28⟩ := Kd.S_slice HO742.out
        subst eo28
        obtain ⟨Ao29, co29, eo29⟩ := Kd.S_slice HO746.out
        subst eo29
        go_wp2_with (first | (go_at_call 43; (with_reducible refine (laws_dLists.calls k _ _ t739 _ _ t743 true _ ?side1 ?side2 ?side3 ?side4 A21.out).mono ?_); (case side1 => repeat (first | exact (Kd.S_reads' HO742.out).2.2 | (with_reducible refine Kd.C_alloc ?_ _) | (with_reducible refine Kd.C_drewN ?_ _) | (with_reducible refine Kd.C_drew ?_))); (case side2 => exact (Kd.S_reads' HO742.out).2.1); (case side3 => repeat (first | exact (Kd.S_reads' HO746.out).2.2 | (with_reducible refine Kd.C_alloc ?_ _) | (with_reducible refine Kd.C_drewN ?_ _) | (with_reducible refine Kd.C_drew ?_))); (case side4 => exact (Kd.S_reads' HO746.out).2.1); rintro e w' ⟨rfl, ⟨nd, rfl⟩⟩))
        go_meet
        case rel => exact ⟨_, (true), (by first | rfl | (simp; done) | (simp [*]; done)), H', ⟨by first | omega | exact Nat.le_refl _⟩, ⟨by (with_reducible repeat (first | apply Kd.R_alloc | apply Kd.R_drewN | apply Kd.R_drew)); exact HO738.out⟩, ⟨by (with_reducible repeat (first | apply Kd.S_alloc | apply Kd.S_drewN | apply Kd.S_drew)); exact Kd.S_mono HO742.out (fun _ hk => hk.1.2)⟩, ⟨by repeat (first | (with_reducible first | exact HB.out | apply below_alloc | apply pw_below_drewN | apply below_drew1) | exact HB.out)⟩⟩
       ·as_aux_lemma =>
        rw [if_neg c27] at H
        have c27b0 : (t752 != t754) = false := by simpa using c27
        (try (have c27b1 : decide (t752 = t754) = true := by simpa using c27))
        (try (have c27b2 : (t752 == t754) = true := by simpa using c27))
        clear c27
        by_cases c30 : t751 = t753
        ·as_aux_lemma =>
         rw [if_pos c30] at H
         have c30b0 : (t751 == t753) = true := beq_iff_eq.mpr c30
         have c30b1 : (t751 != t753) = false := bne_eq_false_iff_eq.mpr c30
         clear c30
         replace H := Option.bind_eq_some_iff.mp H
         obtain ⟨t756, A310, H⟩ := H
         replace H : (if (t740 != t756) = true then (laws_FnMarkovWords.j0 k l1 t736 t739 t740 t747 t748 t751 true) else (laws_FnMarkovWords.j0 k l1 t736 t739 t740 t747 t748 t751 (t752 != t740))) = some r := H
         have A31 := Aside0.mk A310
         clear A310
         by_cases c32 : (t740 != t756) = true
         ·as_aux_lemma =>
          rw [if_pos c32] at H
          have c32b0 : (t740 != t756) = true := c32
          (try (have c32b1 : decide (t740 = t756) = false := by simpa using c32))
          (try (have c32b2 : (t740 == t756) = false := by simpa using c32))
          (try (have c32b3 : ¬ (t740 = t756) := by simpa using c32))
          clear c32
          have H' := Aside0.mk H
          clear H
          obtain ⟨Ao33, co33, eo33⟩ := Kd.S_slice HO742.out
          subst eo33
          obtain ⟨Ao34, co34, eo34⟩ := Kd.S_slice HO746.out
          subst eo34
          go_wp2_with (first | (go_at_call 43; (with_reducible refine (laws_dLists.calls k _ _ t739 _ _ t743 true _ ?side1 ?side2 ?side3 ?side4 A21.out).mono ?_); (case side1 => repeat (first | exact (Kd.S_reads' HO742.out).2.2 | (with_reducible refine Kd.C_alloc ?_ _) | (with_reducible refine Kd.C_drewN ?_ _) | (with_reducible refine Kd.C_drew ?_))); (case side2 => exact (Kd.S_reads' HO742.out).2.1); (case side3 => repeat (first | exact (Kd.S_reads' HO746.out).2.2 | (with_reducible refine Kd.C_alloc ?_ _) | (with_reducible refine Kd.C_drewN ?_ _) | (with_reducible refine Kd.C_drew ?_))); (case side4 => exact (Kd.S_reads' HO746.out).2.1); rintro e w' ⟨rfl, ⟨nd, rfl⟩⟩) | (go_at_call 48; (with_reducible refine (impl_IsMarkov.calls k _ _ t736 t756 _ ?side1 ?side2 A31.out).mono ?_); (case side1 => repeat (first | exact (Kd.R_reads' HO738.out).2.2 | (with_reducible refine Kd.C_alloc ?_ _) | (with_reducible refine Kd.C_drewN ?_ _) | (with_reducible refine Kd.C_drew ?_))); (case side2 => exact (Kd.R_reads' HO738.out).2.1); rintro e w35 ⟨rfl, hb⟩; have n0_ := Aside0.mk (Kd.R_below (by (with_reducible repeat (first | apply Kd.R_alloc | apply Kd.R_drewN | apply Kd.R_drew)); exact HO738.out) hb); have n1_ := Aside0.mk (Kd.S_below (by (with_reducible repeat (first | apply Kd.S_alloc | apply Kd.S_drewN | apply Kd.S_drew)); exact HO742.out) hb); have n2_ := Aside0.mk (Kd.S_below (by (with_reducible repeat (first | apply Kd.S_alloc | apply Kd.S_drewN | apply Kd.S_drew)); exact HO746.out) hb); have n3_ := Aside0.mk (below_step (by repeat (first | (with_reducible first | exact HB.out | apply below_alloc | apply pw_below_drewN | apply below_drew1) | exact HB.out)) hb); clear HO738; clear HO742; clear HO746; clear HB; have HO738 := n0_; have HO742 := n1_; have HO746 := n2_; have HB := n3_; clear n0_ n1_ n2_ n3_; (try clear hb); (try clear hb2); (try clear hk); (try clear hi)))
          go_meet
          case rel => exact ⟨_, (true), (by first | rfl | (simp; done) | (simp [*]; done)), H', ⟨by first | omega | exact Nat.le_refl _⟩, ⟨by (with_reducible repeat (first | apply Kd.R_alloc | apply Kd.R_drewN | apply Kd.R_drew)); exact HO738.out⟩, ⟨by (with_reducible repeat (first | apply Kd.S_alloc | apply Kd.S_drewN | apply Kd.S_drew)); exact Kd.S_mono HO742.out (fun _ hk => hk.1.2)⟩, ⟨by repeat (first | (with_reducible first | exact HB.out | apply below_alloc | apply pw_below_drewN | apply below_drew1) | exact HB.out)⟩⟩
         ·as_aux_lemma =>
          rw [if_neg c32] at H
          have c32b0 : (t740 != t756) = false := by simpa using c32
          (try (have c32b1 : decide (t740 = t756) = true := by simpa using c32))
          (try (have c32b2 : (t740 == t756) = true := by simpa using c32))
          clear c32
          have H' := Aside0.mk H
          clear H
          obtain ⟨Ao36, co36, eo36⟩ := Kd.S_slice HO742.out
          subst eo36
          obtain ⟨Ao37, co37, eo37⟩ := Kd.S_slice HO746.out
          subst eo37
          go_wp2_with (first | (go_at_call 43; (with_reducible refine (laws_dLists.calls k _ _ t739 _ _ t743 true _ ?side1 ?side2 ?side3 ?side4 A21.out).mono ?_); (case side1 => repeat (first | exact (Kd.S_reads' HO742.out).2.2 | (with_reducible refine Kd.C_alloc ?_ _) | (with_reducible refine Kd.C_drewN ?_ _) | (with_reducible refine Kd.C_drew ?_))); (case side2 => exact (Kd.S_reads' HO742.out).2.1); (case side3 => repeat (first | exact (Kd.S_reads' HO746.out).2.2 | (with_reducible refine Kd.C_alloc ?_ _) | (with_reducible refine Kd.C_drewN ?_ _) | (with_reducible refine Kd.C_drew ?_))); (case side4 => exact (Kd.S_reads' HO746.out).2.1); rintro e w' ⟨rfl, ⟨nd, rfl⟩⟩) | (go_at_call 48; (with_reducible refine (impl_IsMarkov.calls k _ _ t736 t756 _ ?side1 ?side2 A31.out).mono ?_); (case side1 => repeat (first | exact (Kd.R_reads' HO738.out).2.2 | (with_reducible refine Kd.C_alloc ?_ _) | (with_reducible refine Kd.C_drewN ?_ _) | (with_reducible refine Kd.C_drew ?_))); (case side2 => exact (Kd.R_reads' HO738.out).2.1); rintro e w38 ⟨rfl, hb⟩; have n0_ := Aside0.mk (Kd.R_below (by (with_reducible repeat (first | apply Kd.R_alloc | apply Kd.R_drewN | apply Kd.R_drew)); exact HO738.out) hb); have n1_ := Aside0.mk (Kd.S_below (by (with_reducible repeat (first | apply Kd.S_alloc | apply Kd.S_drewN | apply Kd.S_drew)); exact HO742.out) hb); have n2_ := Aside0.mk (Kd.S_below (by (with_reducible repeat (first | apply Kd.S_alloc | apply Kd.S_drewN | apply Kd.S_drew)); exact HO746.out) hb); have n3_ := Aside0.mk (below_step (by repeat (first | (with_reducible first | exact HB.out | apply below_alloc | apply pw_below_drewN | apply below_drew1) | exact HB.out)) hb); clear HO738; clear HO742; clear HO746; clear HB; have HO738 := n0_; have HO742 := n1_; have HO746 := n2_; have HB := n3_; clear n0_ n1_ n2_ n3_; (try clear hb); (try clear hb2); (try clear hk); (try clear hi)))
          go_meet
          case rel => exact ⟨_, ((t752 != t740)), (by first | rfl | (simp; done) | (simp [*]; done)), H', ⟨by first | omega | exact Nat.le_refl _⟩, ⟨by (with_reducible repeat (first | apply Kd.R_alloc | apply Kd.R_drewN | apply Kd.R_drew)); exact HO738.out⟩, ⟨by (with_reducible repeat (first | apply Kd.S_alloc | apply Kd.S_drewN | apply Kd.S_drew)); exact Kd.S_mono HO742.out (fun _ hk => hk.1.2)⟩, ⟨by repeat (first | (with_reducible first | exact HB.out | apply below_alloc | apply pw_below_drewN | apply below_drew1) | exact HB.out)⟩⟩
        ·rw [if_neg c30] at H
         have c30b0 : (t751 == t753) = false := beq_eq_false_iff_ne.mpr c30
         have c30b1 : (t751 != t753) = true := bne_iff_ne.mpr c30
         have H' := Aside0.mk H
         clear H
         obtain ⟨Ao39, co39, eo39⟩ := Kd.S_slice HO742.out
         subst eo39
         obtain ⟨Ao40, co40, eo40⟩ := Kd.S_slice HO746.out
         subst eo40
         go_wp2_with (first | (go_at_call 43; (with_reducible refine (laws_dLists.calls k _ _ t739 _ _ t743 true _ ?side1 ?side2 ?side3 ?side4 A21.out).mono ?_); (case side1 => repeat (first | exact (Kd.S_reads' HO742.out).2.2 | (with_reducible refine Kd.C_alloc ?_ _) | (with_reducible refine Kd.C_drewN ?_ _) | (with_reducible refine Kd.C_drew ?_))); (case side2 => exact (Kd.S_reads' HO742.out).2.1); (case side3 => repeat (first | exact (Kd.S_reads' HO746.out).2.2 | (with_reducible refine Kd.C_alloc ?_ _) | (with_reducible refine Kd.C_drewN ?_ _) | (with_reducible refine Kd.C_drew ?_))); (case side4 => exact (Kd.S_reads' HO746.out).2.1); rintro e w' ⟨rfl, ⟨nd, rfl⟩⟩))
         go_meet
         case rel => exact ⟨_, (true), (by first | rfl | (simp; done) | (simp [*]; done)), H', ⟨by first | omega | exact Nat.le_refl _⟩, ⟨by (with_reducible repeat (first | apply Kd.R_alloc | apply Kd.R_drewN | apply Kd.R_drew)); exact HO738.out⟩, ⟨by (with_reducible repeat (first | apply Kd.S_alloc | apply Kd.S_drewN | apply Kd.S_drew)); exact Kd.S_mono HO742.out (fun _ hk => hk.1.2)⟩, ⟨by repeat (first | (with_reducible first | exact HB.out | apply below_alloc | apply pw_below_drewN | apply below_drew1) | exact HB.out)⟩⟩
      ·rw [if_neg c26] at H
       have c26b0 : (t747.toList == t749.toList) = false := beq_eq_false_iff_ne.mpr c26
       have c26b1 : (t747.toList != t749.toList) = true := bne_iff_ne.mpr c26
       have H' := Aside0.mk H
       clear H
       obtain ⟨Ao41, co41, eo41⟩ := Kd.S_slice HO742.out
       subst eo41
       obtain ⟨Ao42, co42, eo42⟩ := Kd.S_slice HO746.out
       subst eo42
       go_wp2_with (first | (go_at_call 43; (with_reducible refine (laws_dLists.calls k _ _ t739 _ _ t743 true _ ?side1 ?side2 ?side3 ?side4 A21.out).mono ?_); (case side1 => repeat (first | exact (Kd.S_reads' HO742.out).2.2 | (with_reducible refine Kd.C_alloc ?_ _) | (with_reducible refine Kd.C_drewN ?_ _) | (with_reducible refine Kd.C_drew ?_))); (case side2 => exact (Kd.S_reads' HO742.out).2.1); (case side3 => repeat (first | exact (Kd.S_reads' HO746.out).2.2 | (with_reducible refine Kd.C_alloc ?_ _) | (with_reducible refine Kd.C_drewN ?_ _) | (with_reducible refine Kd.C_drew ?_))); (case side4 => exact (Kd.S_reads' HO746.out).2.1); rintro e w' ⟨rfl, ⟨nd, rfl⟩⟩))
       go_meet
       case rel => exact ⟨_, (true), (by first | rfl | (simp; done) | (simp [*]; done)), H', ⟨by first | omega | exact Nat.le_refl _⟩, ⟨by (with_reducible repeat (first | apply Kd.R_alloc | apply Kd.R_drewN | apply Kd.R_drew)); exact HO738.out⟩, ⟨by (with_reducible repeat (first | apply Kd.S_alloc | apply Kd.S_drewN | apply Kd.S_drew)); exact Kd.S_mono HO742.out (fun _ hk => hk.1.2)⟩, ⟨by repeat (first | (with_reducible first | exact HB.out | apply below_alloc | apply pw_below_drewN | apply below_drew1) | exact HB.out)⟩⟩
    ·as_aux_lemma =>
     replace c22 := Bool.eq_false_iff.mpr c22
     subst c22
     have H1 : (laws_FnMarkovWords.j0 k l1 t736 t739 t740 t747 t748 t751 true) = some r := by rw [if_neg (show ¬ (false = true) by decide)] at H; exact H
     clear H; have H := H1; clear H1
     have H' := Aside0.mk H
     clear H
     obtain ⟨Ao43, co43, eo43⟩ := Kd.S_slice HO742.out
     subst eo43
     obtain ⟨Ao44, co44, eo44⟩ := Kd.S_slice HO746.out
     subst eo44
     go_wp2_with (first | (go_at_call 43; (with_reducible refine (laws_dLists.calls k _ _ t739 _ _ t743 false _ ?side1 ?side2 ?side3 ?side4 A21.out).mono ?_); (case side1 => repeat (first | exact (Kd.S_reads' HO742.out).2.2 | (with_reducible refine Kd.C_alloc ?_ _) | (with_reducible refine Kd.C_drewN ?_ _) | (with_reducible refine Kd.C_drew ?_))); (case side2 => exact (Kd.S_reads' HO742.out).2.1); (case side3 => repeat (first | exact (Kd.S_reads' HO746.out).2.2 | (with_reducible refine Kd.C_alloc ?_ _) | (with_reducible refine Kd.C_drewN ?_ _) | (with_reducible refine Kd.C_drew ?_))); (case side4 => exact (Kd.S_reads' HO746.out).2.1); rintro e w' ⟨rfl, ⟨nd, rfl⟩⟩))
     go_meet
     case rel => exact ⟨_, (true), (by first | rfl | (simp; done) | (simp [*]; done)), H', ⟨by first | omega | exact Nat.le_refl _⟩, ⟨by (with_reducible repeat (first | apply Kd.R_alloc | apply Kd.R_drewN | apply Kd.R_drew)); exact HO738.out⟩, ⟨by (with_reducible repeat (first | apply Kd.S_alloc | apply Kd.S_drewN | apply Kd.S_drew)); exact Kd.S_mono HO742.out (fun _ hk => hk.1.2)⟩, ⟨by repeat (first | (with_reducible first | exact HB.out | apply below_alloc | apply pw_below_drewN | apply below_drew1) | exact HB.out)⟩⟩
  case rest => as_aux_lemma =>
   clear HC12
   try clear c1
   try clear c2
   try clear p2
   try clear c3
   try clear c4
   try clear c12
   try clear c15
   try clear c17
   try clear c20
   try clear c20b0
   try clear c20b1
   try clear c20b2
   try clear c22
   try clear c23
   try clear c23b0
   try clear c23b1
   try clear c23b2
   try clear c26
   try clear c26b0
   try clear c26b1
   try clear c27
   try clear c27b0
   try clear c27b1
   try clear c27b2
   try clear c29
   try clear c30
   try clear c30b0
   try clear c30b1
   try clear c31
   try clear c32
   try clear c32b0
   try clear c32b1
   try clear c32b2
   try clear c38
   obtain ⟨kq, x104_11, rfl, HA, HJ11, HO_5, HO_6, HB⟩ := hcut
   cases kq with
   | zero => exact absurd HA.out (by simp [laws_FnMarkovWords.j0])
   | succ kj11 =>
    have H := HA.out; clear HA
    simp only [laws_FnMarkovWords.j0] at H
    by_cases c45 : x104_11 = true
    ·subst c45
     have H1 : (some false) = some r := by rw [if_pos rfl] at H; exact H
     clear H; have H := H1; clear H1
     obtain rfl := Option.some.inj H
     go_wp2
     go_ret
     exact ⟨by first | rfl | (simp [errW_none, errW_some] <;> rfl) | (simp [*, errW_none, errW_some] <;> rfl), by repeat (first | (with_reducible first | exact HB.out | apply below_alloc | apply pw_below_drewN | apply below_drew1) | exact HB.out)⟩
    ·as_aux_lemma =>
     replace c45 := Bool.eq_false_iff.mpr c45
     subst c45
     have H1 : (if t740 = true then (if 0 < (t739.length : Int) then ((laws_dSame.f kj11 (rd_L1 t739 0) t736).bind fun t758 => (if t758 = true then (if 0 ≤ (wrap64 ((t739.length : Int) - 1)) then (if (wrap64 ((t739.length : Int) - 1)) < (t739.length : Int) then ((laws_dSame.f kj11 (rd_L1 t739 (wrap64 ((t739.length : Int) - 1))) (([1, 1, 1] : List Int))).bind fun t763 => (if t763 = true then (if 2 < (t736.length : Int) then (if (t748 != (decide ((rd t736 2) ≥ 5))) = true then (laws_FnMarkovWords.j1 kj11 l1 t736 t739 t747 t748 t751 (wrap64 ((t739.length : Int) - 1)) true) else (if t748 = true then (laws_FnMarkovWords.j1 kj11 l1 t736 t739 t747 t748 t751 (wrap64 ((t739.length : Int) - 1)) ((t747.size : Int) != (wrap64 ((wrap64 ((t739.length : Int) - 1)) - 2)))) else (laws_FnMarkovWords.j1 kj11 l1 t736 t739 t747 t748 t751 (wrap64 ((t739.length : Int) - 1)) false))) else (none)) else (laws_FnMarkovWords.j1 kj11 l1 t736 t739 t747 t748 t751 (wrap64 ((t739.length : Int) - 1)) true))) else (none)) else (none)) else (laws_FnMarkovWords.j1 kj11 l1 t736 t739 t747 t748 t751 (wrap64 ((t739.length : Int) - 1)) true))) else (none)) else (laws_FnMarkovWords.j4 kj11 l1 t736 t747 t748)) = some r := by rw [if_neg (show ¬ (false = true) by decide)] at H; exact H
     clear H; have H := H1; clear H1
     have HC46 := Aside0.mk H
     clear H
     go_upto_if 105 with (fail)
     go_cut [] (fun wc => ∃ (kq : Nat), Aside0 (laws_FnMarkovWords.j4 kq l1 t736 t747 t748 = some r) ∧ Aside0 (kq ≤ kj11) ∧ Aside0 (Kd.R (Kd.int .i64) 3 wc w.heap.size (fun _ => True) (.slice Ao14 t736.length co14) t736) ∧ Aside0 (Below w.heap.size w wc))
     case first => as_aux_lemma =>
      have H := HC46.out; clear HC46
      by_cases c47 : t740 = true
      ·as_aux_lemma =>
       subst c47
       have H1 : (if 0 < (t739.length : Int) then ((laws_dSame.f kj11 (rd_L1 t739 0) t736).bind fun t758 => (if t758 = true then (if 0 ≤ (wrap64 ((t739.length : Int) - 1)) then (if (wrap64 ((t739.length : Int) - 1)) < (t739.length : Int) then ((laws_dSame.f kj11 (rd_L1 t739 (wrap64 ((t739.length : Int) - 1))) (([1, 1, 1] : List Int))).bind fun t763 => (if t763 = true then (if 2 < (t736.length : Int) then (if (t748 != (decide ((rd t736 2) ≥ 5))) = true then (laws_FnMarkovWords.j1 kj11 l1 t736 t739 t747 t748 t751 (wrap64 ((t739.length : Int) - 1)) true) else (if t748 = true then (laws_FnMarkovWords.j1 kj11 l1 t736 t739 t747 t748 t751 (wrap64 ((t739.length : Int) - 1)) ((t747.size : Int) != (wrap64 ((wrap64 ((t739.length : Int) - 1)) - 2)))) else (laws_FnMarkovWords.j1 kj11 l1 t736 t739 t747 t748 t751 (wrap64 ((t739.length : Int) - 1)) false))) else (none)) else (laws_FnMarkovWords.j1 kj11 l1 t736 t739 t747 t748 t751 (wrap64 ((t739.length : Int) - 1)) true))) else (none)) else (none)) else (laws_FnMarkovWords.j1 kj11 l1 t736 t739 t747 t748 t751 (wrap64 ((t739.length : Int) - 1)) true))) else (none)) = some r := by rw [if_pos rfl] at H; exact H
       clear H; have H := H1; clear H1
       have HC48 := Aside0.mk H
       clear H
       obtain ⟨Ao49, co49, eo49⟩ := Kd.S_slice HO_6.out
       subst eo49
       go_upto_region 14 with (fail)
       go_cut [141] (fun v141 wc => ∃ (kq : Nat) (x141_47 : Bool), v141 = .bool x141_47 ∧ Aside0 (laws_FnMarkovWords.j1 kq l1 t736 t739 t747 t748 t751 (wrap64 ((t739.length : Int) - 1)) x141_47 = some r) ∧ Aside0 (kq ≤ kj11) ∧ Aside0 (Kd.R (Kd.int .i64) 3 wc w.heap.size (fun _ => True) (.slice Ao14 t736.length co14) t736) ∧ Aside0 (Kd.S (Kd.slice 3 (Kd.int .i64)) 22 wc w.heap.size (fun k_ => some k_ ≠ ((.slice Ao14 t736.length co14) : Value).ownBlock) (.slice Ao49 t739.length co49) t739) ∧ Aside0 (Below w.heap.size w wc))
       case first => as_aux_lemma =>
        have H := HC48.out; clear HC48
        by_cases c50 : 0 < (t739.length : Int)
        rotate_left
        ·rw [if_neg c50] at H
         exact absurd H (by simp)
        as_aux_lemma =>
        rw [if_pos c50] at H
        have c50b0 : decide (0 < (t739.length : Int)) = true := decide_eq_true c50
        have c50b1 : decide (0 < t739.length) = true := decide_eq_true (by omega)
        clear c50
        (first | rw [c50b0] | (simp only [i64_w, i32_w]; rw [c50b0]) | skip)
        replace H := Option.bind_eq_some_iff.mp H
        obtain ⟨t758, A510, H⟩ := H
        replace H : (if t758 = true then (if 0 ≤ (wrap64 ((t739.length : Int) - 1)) then (if (wrap64 ((t739.length : Int) - 1)) < (t739.length : Int) then ((laws_dSame.f kj11 (rd_L1 t739 (wrap64 ((t739.length : Int) - 1))) (([1, 1, 1] : List Int))).bind fun t763 => (if t763 = true then (if 2 < (t736.length : Int) then (if (t748 != (decide ((rd t736 2) ≥ 5))) = true then (laws_FnMarkovWords.j1 kj11 l1 t736 t739 t747 t748 t751 (wrap64 ((t739.length : Int) - 1)) true) else (if t748 = true then (laws_FnMarkovWords.j1 kj11 l1 t736 t739 t747 t748 t751 (wrap64 ((t739.length : Int) - 1)) ((t747.size : Int) != (wrap64 ((wrap64 ((t739.length : Int) - 1)) - 2)))) else (laws_FnMarkovWords.j1 kj11 l1 t736 t739 t747 t748 t751 (wrap64 ((t739.length : Int) - 1)) false))) else (none)) else (laws_FnMarkovWords.j1 kj11 l1 t736 t739 t747 t748 t751 (wrap64 ((t739.length : Int) - 1)) true))) else (none)) else (none)) else (laws_FnMarkovWords.j1 kj11 l1 t736 t739 t747 t748 t751 (wrap64 ((t739.length : Int) - 1)) true)) = some r := H
        have A51 := Aside0.mk A510
        clear A510
        by_cases c52 : t758 = true
        ·as_aux_lemma =>
         subst c52
         have H1 : (if 0 ≤ (wrap64 ((t739.length : Int) - 1)) then (if (wrap64 ((t739.length : Int) - 1)) < (t739.length : Int) then ((laws_dSame.f kj11 (rd_L1 t739 (wrap64 ((t739.length : Int) - 1))) (([1, 1, 1] : List Int))).bind fun t763 => (if t763 = true then (if 2 < (t736.length : Int) then (if (t748 != (decide ((rd t736 2) ≥ 5))) = true then (laws_FnMarkovWords.j1 kj11 l1 t736 t739 t747 t748 t751 (wrap64 ((t739.length : Int) - 1)) true) else (if t748 = true then (laws_FnMarkovWords.j1 kj11 l1 t736 t739 t747 t748 t751 (wrap64 ((t739.length : Int) - 1)) ((t747.size : Int) != (wrap64 ((wrap64 ((t739.length : Int) - 1)) - 2)))) else (laws_FnMarkovWords.j1 kj11 l1 t736 t739 t747 t748 t751 (wrap64 ((t739.length : Int) - 1)) false))) else (none)) else (laws_FnMarkovWords.j1 kj11 l1 t736 t739 t747 t748 t751 (wrap64 ((t739.length : Int) - 1)) true))) else (none)) else (none)) = some r := by rw [if_pos rfl] at H; exact H
         clear H; have H := H1; clear H1
         obtain ⟨ji53, hji53⟩ : ∃ j_ : Int, (wrap64 ((t739.length : Int) - 1)) = j_ := ⟨_, rfl⟩
         replace H : (if 0 ≤ (ji53) then (if (ji53) < (t739.length : Int) then ((laws_dSame.f kj11 (rd_L1 t739 (ji53)) (([1, 1, 1] : List Int))).bind fun t763 => (if t763 = true then (if 2 < (t736.length : Int) then (if (t748 != (decide ((rd t736 2) ≥ 5))) = true then (laws_FnMarkovWords.j1 kj11 l1 t736 t739 t747 t748 t751 ji53 true) else (if t748 = true then (laws_FnMarkovWords.j1 kj11 l1 t736 t739 t747 t748 t751 ji53 ((t747.size : Int) != (wrap64 ((ji53) - 2)))) else (laws_FnMarkovWords.j1 kj11 l1 t736 t739 t747 t748 t751 ji53 false))) else (none)) else (laws_FnMarkovWords.j1 kj11 l1 t736 t739 t747 t748 t751 ji53 true))) else (none)) else (none)) = some r := by first | (rw [hji53] at H; exact H) | (simp only [hji53] at H ⊢; exact H)
         (try rw [hji53] at A51)
         have hji53w : (IntKind.i64.wrap ((t739.length : Int) - 1)) = ji53 := (i64_w _).trans hji53
         by_cases c54 : 0 ≤ (ji53)
         rotate_left
         ·rw [if_neg c54] at H
          exact absurd H (by simp)
         as_aux_lemma =>
         rw [if_pos c54] at H
         have c54b0 : decide (0 ≤ (ji53)) = true := decide_eq_true c54
         clear c54
         by_cases c55 : (ji53) < (t739.length : Int)
         rotate_left
         ·rw [if_neg c55] at H
          exact absurd H (by simp)
         as_aux_lemma =>
         rw [if_pos c55] at H
         have c55b0 : decide ((ji53) < (t739.length : Int)) = true := decide_eq_true c55
         clear c55
         obtain ⟨y760, hy760⟩ : ∃ y_ : List Int, y_ = (([1, 1, 1] : List Int)) := ⟨_, rfl⟩
         replace H : ((laws_dSame.f kj11 (rd_L1 t739 (ji53)) y760).bind fun t763 => (if t763 = true then (if 2 < (t736.length : Int) then (if (t748 != (decide ((rd t736 2) ≥ 5))) = true then (laws_FnMarkovWords.j1 kj11 l1 t736 t739 t747 t748 t751 ji53 true) else (if t748 = true then (laws_FnMarkovWords.j1 kj11 l1 t736 t739 t747 t748 t751 ji53 ((t747.size : Int) != (wrap64 ((ji53) - 2)))) else (laws_FnMarkovWords.j1 kj11 l1 t736 t739 t747 t748 t751 ji53 false))) else (none)) else (laws_FnMarkovWords.j1 kj11 l1 t736 t739 t747 t748 t751 ji53 true))) = some r := by first | (rw [hy760]; with_reducible exact H) | (have H2_ := (Option.bind_some _ _).symm.trans H; rw [hy760]; with_reducible exact H2_) | (have H2_ := (Option.bind_some _ _).symm.trans H; with_reducible exact H2_) | with_reducible exact H | (rw [hy760]; exact H) | exact H
         have Ny760 := Aside0.mk hy760
         clear hy760
         replace H := Option.bind_eq_some_iff.mp H
         obtain ⟨t763, A560, H⟩ := H
         replace H : (if t763 = true then (if 2 < (t736.length : Int) then (if (t748 != (decide ((rd t736 2) ≥ 5))) = true then (laws_FnMarkovWords.j1 kj11 l1 t736 t739 t747 t748 t751 ji53 true) else (if t748 = true then (laws_FnMarkovWords.j1 kj11 l1 t736 t739 t747 t748 t751 ji53 ((t747.size : Int) != (wrap64 ((ji53) - 2)))) else (laws_FnMarkovWords.j1 kj11 l1 t736 t739 t747 t748 t751 ji53 false))) else (none)) else (laws_FnMarkovWords.j1 kj11 l1 t736 t739 t747 t748 t751 ji53 true)) = some r := H
         have A56 := Aside0.mk A560
         clear A560
         by_cases c57 : t763 = true
         ·as_aux_lemma =>
          subst c57
          have H1 : (if 2 < (t736.length : Int) then (if (t748 != (decide ((rd t736 2) ≥ 5))) = true then (laws_FnMarkovWords.j1 kj11 l1 t736 t739 t747 t748 t751 ji53 true) else (if t748 = true then (laws_FnMarkovWords.j1 kj11 l1 t736 t739 t747 t748 t751 ji53 ((t747.size : Int) != (wrap64 ((ji53) - 2)))) else (laws_FnMarkovWords.j1 kj11 l1 t736 t739 t747 t748 t751 ji53 false))) else (none)) = some r := by rw [if_pos rfl] at H; exact H
          clear H; have H := H1; clear H1
          by_cases c58 : 2 < (t736.length : Int)
          rotate_left
          ·rw [if_neg c58] at H
           exact absurd H (by simp)
          as_aux_lemma =>
          rw [if_pos c58] at H
          have c58b0 : decide (2 < (t736.length : Int)) = true := decide_eq_true c58
          have c58b1 : decide (2 < t736.length) = true := decide_eq_true (by omega)
          clear c58
          by_cases c59 : (t748 != (decide ((rd t736 2) ≥ 5))) = true
          ·as_aux_lemma =>
           rw [if_pos c59] at H
           have c59b0 : (t748 != (decide ((rd t736 2) ≥ 5))) = true := c59
           (try (have c59b1 : decide (t748 = (decide ((rd t736 2) ≥ 5))) = false := by simpa using c59))
           (try (have c59b2 : (t748 == (decide ((rd t736 2) ≥ 5))) = false := by simpa using c59))
           (try (have c59b3 : ¬ (t748 = (decide ((rd t736 2) ≥ 5))) := by simpa using c59))
           clear c59
           have H' := Aside0.mk H
           clear H
           have p757 : 0 ≤ (0 : Int) := (by omega)
           have q757 : 0 < (t739.length : Int) := of_decide_eq_true (by first | (with_reducible assumption) | assumption)
           obtain ⟨ad757, A757_0, c757_0, e757, hx757_0, hl757_0, hi757_0⟩ := at_L1 (Kd.S_reads' HO_6.out).2.2 0 p757 q757
           cases e757
           obtain ⟨ce757, hce757, hMe757, hcc757⟩ := Kd.S_get HO_6.out [] 0 p757 (by first | exact q757 | exact of_decide_eq_true (by first | (with_reducible assumption) | assumption) | (have e_ := (Kd.S_reads' HO_6.out).1; omega))
           obtain ⟨ve757_0, rfl, ge757_0⟩ := hMe757
           have hv757_0 := hcc757 0 _ rfl
           rw [Nat.add_zero, show ((Kd.slice 3 (Kd.int .i64))).sz = 1 from rfl, Nat.mul_one] at hv757_0
           replace hv757_0 := Option.some.inj (hv757_0.symm.trans hx757_0)
           rw [hv757_0] at ge757_0
           have HL757_0 := Aside0.mk (show Kd.R (Kd.int .i64) 3 _ _ _ _ (rd_L1 t739 0) from ge757_0)
           clear hv757_0 ge757_0; clear hcc757 hce757
           have qi757 : (0 < t739.length) = True := eq_true (by omega)
           (try rw [show ((0 : Int)).toNat = 0 from rfl] at hx757_0)
           (try rw [Addr.add_zero'] at hx757_0)
           have HR757_0 := Aside0.mk hi757_0
           have HC757_0 := Aside0.mk hl757_0
           clear hi757_0 hl757_0; replace p757 := eq_true p757; replace q757 := eq_true q757
           go_wp2_with (first | ((with_reducible refine gate_callee (f := 40) rfl ?_); refine goesL_ (some 113) rfl rfl Try.func40 (by kernel_rfl) rfl #[.slice A757_0 (rd_L1 t739 0).length c757_0, .slice Ao14 t736.length co14] rfl (by (try simp only [List.map_toArray, List.map_cons, List.map_nil]); first | done | rfl) ?_; (with_reducible refine (laws_dSame.calls kj11 _ _ (rd_L1 t739 0) _ _ t736 true _ ?side1 ?side2 ?side3 ?side4 A51.out).mono ?_); (case side1 => repeat (first | exact (by repeat (first | (with_reducible exact HR757_0.out) | (with_reducible refine Kd.C_alloc ?_ _) | (with_reducible refine Kd.C_drewN ?_ _) | (with_reducible refine Kd.C_drew ?_) | exact HR757_0.out)) | (with_reducible refine Kd.C_alloc ?_ _) | (with_reducible refine Kd.C_drewN ?_ _) | (with_reducible refine Kd.C_drew ?_))); (case side2 => exact HC757_0.out); (case side3 => repeat (first | exact (Kd.R_reads' HO_5.out).2.2 | (with_reducible refine Kd.C_alloc ?_ _) | (with_reducible refine Kd.C_drewN ?_ _) | (with_reducible refine Kd.C_drew ?_))); (case side4 => exact (Kd.R_reads' HO_5.out).2.1); rintro e w' ⟨rfl, ⟨nd, rfl⟩⟩; refine ⟨_, rfl, ?_⟩; have p759 : 0 ≤ ((ji53) : Int) := of_decide_eq_true (by first | (with_reducible assumption) | assumption); have q759 : (ji53) < (t739.length : Int) := of_decide_eq_true (by first | (with_reducible assumption) | assumption); obtain ⟨ad759, A759_0, c759_0, e759, hx759_0, hl759_0, hi759_0⟩ := at_L1 (Kd.S_reads' HO_6.out).2.2 (ji53) p759 q759; obtain rfl : ad757 = ad759 := (by injection e759); obtain ⟨ce759, hce759, hMe759, hcc759⟩ := Kd.S_get HO_6.out [] (ji53) p759 (by first | exact q759 | exact of_decide_eq_true (by first | (with_reducible assumption) | assumption) | (have e_ := (Kd.S_reads' HO_6.out).1; omega)); obtain ⟨ve759_0, rfl, ge759_0⟩ := hMe759; have hv759_0 := hcc759 0 _ rfl; rw [Nat.add_zero, show ((Kd.slice 3 (Kd.int .i64))).sz = 1 from rfl, Nat.mul_one] at hv759_0; replace hv759_0 := Option.some.inj (hv759_0.symm.trans hx759_0); rw [hv759_0] at ge759_0; have HL759_0 := Aside0.mk (show Kd.R (Kd.int .i64) 3 _ _ _ _ (rd_L1 t739 (ji53)) from ge759_0); clear hv759_0 ge759_0; clear hcc759 hce759; have HR759_0 := Aside0.mk hi759_0; have HC759_0 := Aside0.mk hl759_0; clear hi759_0 hl759_0; replace p759 := eq_true p759; replace q759 := eq_true q759) | ((with_reducible refine gate_dst (N := 120) rfl ?_); refine R_lit_g (Kd.int .i64) _ 3 ?hg (N := 120) ?hd (xs := ([1, 1, 1] : List Int)) (inner := [.int .i64 1, .int .i64 1, .int .i64 1]) (ok := fun _ => True) (okp := fun _ => True) ?hr ?hp (fun _ hk => hk) trivial (Below.refl _ _) (Nat.le_refl _) (by simp) ?_; (case hd => rfl); (case hg => rfl); (case hr => first | (go_simp; done) | (go_simp; rfl)); (case hp => exact (Reps.one (show Kd.M (Kd.int .i64) _ _ _ 1 [.int .i64 1] from rfl) (Reps.one (show Kd.M (Kd.int .i64) _ _ _ 1 [.int .i64 1] from rfl) (Reps.one (show Kd.M (Kd.int .i64) _ _ _ 1 [.int .i64 1] from rfl) (Reps.none _ _))))); intro v761 w60 ho61 hb hg_ hnew_; clear hg_ hnew_; (first | rw [← Ny760.out] at ho61 | (simp only [Int.reduceToNat] at ho61; rw [← Ny760.out] at ho61)); have n0_ := Aside0.mk (Kd.R_elder' (by (with_reducible repeat (first | apply Kd.R_alloc | apply Kd.R_drewN | apply Kd.R_drew)); exact HO_5.out) (Kd.R_base ho61) hb); have n1_ := Aside0.mk (Kd.S_elder' (by (with_reducible repeat (first | apply Kd.S_alloc | apply Kd.S_drewN | apply Kd.S_drew)); exact HO_6.out) (Kd.R_base ho61) hb); have n2_ := Aside0.mk (Kd.R_elder' (by (with_reducible repeat (first | apply Kd.R_alloc | apply Kd.R_drewN | apply Kd.R_drew)); exact HL757_0.out) (Kd.R_base ho61) hb); have n3_ := Aside0.mk (Kd.R_elder' (by (with_reducible repeat (first | apply Kd.R_alloc | apply Kd.R_drewN | apply Kd.R_drew)); exact HL759_0.out) (Kd.R_base ho61) hb); have n4_ := Aside0.mk (Kd.R_lower (Kd.R_new' (Kd.R_new' (Kd.R_new' ho61 (Kd.R_lt (by (with_reducible repeat (first | apply Kd.R_alloc | apply Kd.R_drewN | apply Kd.R_drew)); exact HO_5.out))) (Kd.R_lt (by (with_reducible repeat (first | apply Kd.R_alloc | apply Kd.R_drewN | apply Kd.R_drew)); exact HL757_0.out))) (Kd.R_lt (by (with_reducible repeat (first | apply Kd.R_alloc | apply Kd.R_drewN | apply Kd.R_drew)); exact HL759_0.out))) (below_size (by repeat (first | (with_reducible first | exact HB.out | apply below_alloc | apply pw_below_drewN | apply below_drew1) | exact HB.out)))); have n5_ := Aside0.mk (Kd.C_below (Kd.C_drewN HR757_0.out _) hb); have n6_ := Aside0.mk (Kd.C_below (Kd.C_drewN HR759_0.out _) hb); have n7_ := Aside0.mk (below_step (by repeat (first | (with_reducible first | exact HB.out | apply below_alloc | apply pw_below_drewN | apply below_drew1) | exact HB.out)) hb); clear HO_5; clear HO_6; clear HL757_0; clear HL759_0; clear HR757_0; clear HR759_0; clear HB; have HO_5 := n0_; have HO_6 := n1_; have HL757_0 := n2_; have HL759_0 := n3_; have HO762 := n4_; have HR757_0 := n5_; have HR759_0 := n6_; have HB := n7_; clear n0_ n1_ n2_ n3_ n4_ n5_ n6_ n7_; clear hb ho61; obtain ⟨Ao62, co62, eo62⟩ := Kd.R_slice HO762.out; subst eo62) | (go_at_call 40; (with_reducible refine (laws_dSame.calls kj11 _ _ (rd_L1 t739 (ji53)) _ _ y760 true _ ?side1 ?side2 ?side3 ?side4 A56.out).mono ?_); (case side1 => repeat (first | exact (by repeat (first | (with_reducible exact HR759_0.out) | (with_reducible refine Kd.C_alloc ?_ _) | (with_reducible refine Kd.C_drewN ?_ _) | (with_reducible refine Kd.C_drew ?_) | exact HR759_0.out)) | (with_reducible refine Kd.C_alloc ?_ _) | (with_reducible refine Kd.C_drewN ?_ _) | (with_reducible refine Kd.C_drew ?_))); (case side2 => exact HC759_0.out); (case side3 => repeat (first | exact (Kd.R_reads' HO762.out).2.2 | (with_reducible refine Kd.C_alloc ?_ _) | (with_reducible refine Kd.C_drewN ?_ _) | (with_reducible refine Kd.C_drew ?_))); (case side4 => exact (Kd.R_reads' HO762.out).2.1); rintro e w' ⟨rfl, ⟨nd, rfl⟩⟩; have p764 : 0 ≤ (2 : Int) := (by omega); have q764 : 2 < (t736.length : Int) := of_decide_eq_true (by first | (with_reducible assumption) | assumption); obtain ⟨ad764, e764, hx764_0⟩ := Kd.at_int (Kd.R_reads' HO_5.out).2.2 2 p764 q764; cases e764; (try simp only [show (2 : Int).toNat = 2 from rfl, Nat.reduceMul, Nat.reduceEqDiff, Go.Addr.add, ↓reduceIte] at hx764_0); have qi764 : (2 < t736.length) = True := eq_true (by omega); (try rw [show ((2 : Int)).toNat = 2 from rfl] at hx764_0); replace p764 := eq_true p764; replace q764 := eq_true q764))
           subst hji53
           go_meet
           case rel => exact ⟨_, (true), (by first | rfl | (simp; done) | (simp [*]; done)), H', ⟨by have := HJ11.out; first | omega | exact Nat.le_refl _⟩, ⟨by (with_reducible repeat (first | apply Kd.R_alloc | apply Kd.R_drewN | apply Kd.R_drew)); exact Kd.R_mono HO_5.out (fun _ hk => trivial)⟩, ⟨by (with_reducible repeat (first | apply Kd.S_alloc | apply Kd.S_drewN | apply Kd.S_drew)); exact Kd.S_mono HO_6.out (fun _ hk => hk.1)⟩, ⟨by repeat (first | (with_reducible first | exact HB.out | apply below_alloc | apply pw_below_drewN | apply below_drew1) | exact HB.out)⟩⟩
          ·as_aux_lemma =>
           rw [if_neg c59] at H
           have c59b0 : (t748 != (decide ((rd t736 2) ≥ 5))) = false := by simpa using c59
           (try (have c59b1 : decide (t748 = (decide ((rd t736 2) ≥ 5))) = true := by simpa using c59))
           (try (have c59b2 : (t748 == (decide ((rd t736 2) ≥ 5))) = true := by simpa using c59))
           clear c59
           by_cases c63 : t748 = true
           ·as_aux_lemma =>
            subst c63
            have H1 : (laws_FnMarkovWords.j1 kj11 l1 t736 t739 t747 true t751 ji53 ((t747.size : Int) != (wrap64 ((ji53) - 2)))) = some r := by rw [if_pos rfl] at H; exact H
            clear H; have H := H1; clear H1
            have H' := Aside0.mk H
            clear H
            have p757 : 0 ≤ (0 : Int) := (by omega)
            have q757 : 0 < (t739.length : Int) := of_decide_eq_true (by first | (with_reducible assumption) | assumption)
            obtain ⟨ad757, A757_0, c757_0, e757, hx757_0, hl757_0, hi757_0⟩ := at_L1 (Kd.S_reads' HO_6.out).2.2 0 p757 q757
            cases e757
            obtain ⟨ce757, hce757, hMe757, hcc757⟩ := Kd.S_get HO_6.out [] 0 p757 (by first | exact q757 | exact of_decide_eq_true (by first | (with_reducible assumption) | assumption) | (have e_ := (Kd.S_reads' HO_6.out).1; omega))
            obtain ⟨ve757_0, rfl, ge757_0⟩ := hMe757
            have hv757_0 := hcc757 0 _ rfl
            rw [Nat.add_zero, show ((Kd.slice 3 (Kd.int .i64))).sz = 1 from rfl, Nat.mul_one] at hv757_0
            replace hv757_0 := Option.some.inj (hv757_0.symm.trans hx757_0)
            rw [hv757_0] at ge757_0
            have HL757_0 := Aside0.mk (show Kd.R (Kd.int .i64) 3 _ _ _ _ (rd_L1 t739 0) from ge757_0)
            clear hv757_0 ge757_0; clear hcc757 hce757
            have qi757 : (0 < t739.length) = True := eq_true (by omega)
            (try rw [show ((0 : Int)).toNat = 0 from rfl] at hx757_0)
            (try rw [Addr.add_zero'] at hx757_0)
            have HR757_0 := Aside0.mk hi757_0
            have HC757_0 := Aside0.mk hl757_0
            clear hi757_0 hl757_0; replace p757 := eq_true p757; replace q757 := eq_true q757
            go_wp2_with (first | ((with_reducible refine gate_callee (f := 40) rfl ?_); refine goesL_ (some 113) rfl rfl Try.func40 (by kernel_rfl) rfl #[.slice A757_0 (rd_L1 t739 0).length c757_0, .slice Ao14 t736.length co14] rfl (by (try simp only [List.map_toArray, List.map_cons, List.map_nil]); first | done | rfl) ?_; (with_reducible refine (laws_dSame.calls kj11 _ _ (rd_L1 t739 0) _ _ t736 true _ ?side1 ?side2 ?side3 ?side4 A51.out).mono ?_); (case side1 => repeat (first | exact (by repeat (first | (with_reducible exact HR757_0.out) | (with_reducible refine Kd.C_alloc ?_ _) | (with_reducible refine Kd.C_drewN ?_ _) | (with_reducible refine Kd.C_drew ?_) | exact HR757_0.out)) | (with_reducible refine Kd.C_alloc ?_ _) | (with_reducible refine Kd.C_drewN ?_ _) | (with_reducible refine Kd.C_drew ?_))); (case side2 => exact HC757_0.out); (case side3 => repeat (first | exact (Kd.R_reads' HO_5.out).2.2 | (with_reducible refine Kd.C_alloc ?_ _) | (with_reducible refine Kd.C_drewN ?_ _) | (with_reducible refine Kd.C_drew ?_))); (case side4 => exact (Kd.R_reads' HO_5.out).2.1); rintro e w' ⟨rfl, ⟨nd, rfl⟩⟩; refine ⟨_, rfl, ?_⟩; have p759 : 0 ≤ ((ji53) : Int) := of_decide_eq_true (by first | (with_reducible assumption) | assumption); have q759 : (ji53) < (t739.length : Int) := of_decide_eq_true (by first | (with_reducible assumption) | assumption); obtain ⟨ad759, A759_0, c759_0, e759, hx759_0, hl759_0, hi759_0⟩ := at_L1 (Kd.S_reads' HO_6.out).2.2 (ji53) p759 q759; obtain rfl : ad757 = ad759 := (by injection e759); obtain ⟨ce759, hce759, hMe759, hcc759⟩ := Kd.S_get HO_6.out [] (ji53) p759 (by first | exact q759 | exact of_decide_eq_true (by first | (with_reducible assumption) | assumption) | (have e_ := (Kd.S_reads' HO_6.out).1; omega)); obtain ⟨ve759_0, rfl, ge759_0⟩ := hMe759; have hv759_0 := hcc759 0 _ rfl; rw [Nat.add_zero, show ((Kd.slice 3 (Kd.int .i64))).sz = 1 from rfl, Nat.mul_one] at hv759_0; replace hv759_0 := Option.some.inj (hv759_0.symm.trans hx759_0); rw [hv759_0] at ge759_0; have HL759_0 := Aside0.mk (show Kd.R (Kd.int .i64) 3 _ _ _ _ (rd_L1 t739 (ji53)) from ge759_0); clear hv759_0 ge759_0; clear hcc759 hce759; have HR759_0 := Aside0.mk hi759_0; have HC759_0 := Aside0.mk hl759_0; clear hi759_0 hl759_0; replace p759 := eq_true p759; replace q759 := eq_true q759) | ((with_reducible refine gate_dst (N := 120) rfl ?_); refine R_lit_g (Kd.int .i64) _ 3 ?hg (N := 120) ?hd (xs := ([1, 1, 1] : List Int)) (inner := [.int .i64 1, .int .i64 1, .int .i64 1]) (ok := fun _ => True) (okp := fun _ => True) ?hr ?hp (fun _ hk => hk) trivial (Below.refl _ _) (Nat.le_refl _) (by simp) ?_; (case hd => rfl); (case hg => rfl); (case hr => first | (go_simp; done) | (go_simp; rfl)); (case hp => exact (Reps.one (show Kd.M (Kd.int .i64) _ _ _ 1 [.int .i64 1] from rfl) (Reps.one (show Kd.M (Kd.int .i64) _ _ _ 1 [.int .i64 1] from rfl) (Reps.one (show Kd.M (Kd.int .i64) _ _ _ 1 [.int .i64 1] from rfl) (Reps.none _ _))))); intro v761 w64 ho65 hb hg_ hnew_; clear hg_ hnew_; (first | rw [← Ny760.out] at ho65 | (simp only [Int.reduceToNat] at ho65; rw [← Ny760.out] at ho65)); have n0_ := Aside0.mk (Kd.R_elder' (by (with_reducible repeat (first | apply Kd.R_alloc | apply Kd.R_drewN | apply Kd.R_drew)); exact HO_5.out) (Kd.R_base ho65) hb); have n1_ := Aside0.mk (Kd.S_elder' (by (with_reducible repeat (first | apply Kd.S_alloc | apply Kd.S_drewN | apply Kd.S_drew)); exact HO_6.out) (Kd.R_base ho65) hb); have n2_ := Aside0.mk (Kd.R_elder' (by (with_reducible repeat (first | apply Kd.R_alloc | apply Kd.R_drewN | apply Kd.R_drew)); exact HL757_0.out) (Kd.R_base ho65) hb); have n3_ := Aside0.mk (Kd.R_elder' (by (with_reducible repeat (first | apply Kd.R_alloc | apply Kd.R_drewN | apply Kd.R_drew)); exact HL759_0.out) (Kd.R_base ho65) hb); have n4_ := Aside0.mk (Kd.R_lower (Kd.R_new' (Kd.R_new' (Kd.R_new' ho65 (Kd.R_lt (by (with_reducible repeat (first | apply Kd.R_alloc | apply Kd.R_drewN | apply Kd.R_drew)); exact HO_5.out))) (Kd.R_lt (by (with_reducible repeat (first | apply Kd.R_alloc | apply Kd.R_drewN | apply Kd.R_drew)); exact HL757_0.out))) (Kd.R_lt (by (with_reducible repeat (first | apply Kd.R_alloc | apply Kd.R_drewN | apply Kd.R_drew)); exact HL759_0.out))) (below_size (by repeat (first | (with_reducible first | exact HB.out | apply below_alloc | apply pw_below_drewN | apply below_drew1) | exact HB.out)))); have n5_ := Aside0.mk (Kd.C_below (Kd.C_drewN HR757_0.out _) hb); have n6_ := Aside0.mk (Kd.C_below (Kd.C_drewN HR759_0.out _) hb); have n7_ := Aside0.mk (below_step (by repeat (first | (with_reducible first | exact HB.out | apply below_alloc | apply pw_below_drewN | apply below_drew1) | exact HB.out)) hb); clear HO_5; clear HO_6; clear HL757_0; clear HL759_0; clear HR757_0; clear HR759_0; clear HB; have HO_5 := n0_; have HO_6 := n1_; have HL757_0 := n2_; have HL759_0 := n3_; have HO762 := n4_; have HR757_0 := n5_; have HR759_0 := n6_; have HB := n7_; clear n0_ n1_ n2_ n3_ n4_ n5_ n6_ n7_; clear hb ho65; obtain ⟨Ao66, co66, eo66⟩ := Kd.R_slice HO762.out; subst eo66) | (go_at_call 40; (with_reducible refine (laws_dSame.calls kj11 _ _ (rd_L1 t739 (ji53)) _ _ y760 true _ ?side1 ?side2 ?side3 ?side4 A56.out).mono ?_); (case side1 => repeat (first | exact (by repeat (first | (with_reducible exact HR759_0.out) | (with_reducible refine Kd.C_alloc ?_ _) | (with_reducible refine Kd.C_drewN ?_ _) | (with_reducible refine Kd.C_drew ?_) | exact HR759_0.out)) | (with_reducible refine Kd.C_alloc ?_ _) | (with_reducible refine Kd.C_drewN ?_ _) | (with_reducible refine Kd.C_drew ?_))); (case side2 => exact HC759_0.out); (case side3 => repeat (first | exact (Kd.R_reads' HO762.out).2.2 | (with_reducible refine Kd.C_alloc ?_ _) | (with_reducible refine Kd.C_drewN ?_ _) | (with_reducible refine Kd.C_drew ?_))); (case side4 => exact (Kd.R_reads' HO762.out).2.1); rintro e w' ⟨rfl, ⟨nd, rfl⟩⟩; have p764 : 0 ≤ (2 : Int) := (by omega); have q764 : 2 < (t736.length : Int) := of_decide_eq_true (by first | (with_reducible assumption) | assumption); obtain ⟨ad764, e764, hx764_0⟩ := Kd.at_int (Kd.R_reads' HO_5.out).2.2 2 p764 q764; cases e764; (try simp only [show (2 : Int).toNat = 2 from rfl, Nat.reduceMul, Nat.reduceEqDiff, Go.Addr.add, ↓reduceIte] at hx764_0); have qi764 : (2 < t736.length) = True := eq_true (by omega); (try rw [show ((2 : Int)).toNat = 2 from rfl] at hx764_0); replace p764 := eq_true p764; replace q764 := eq_true q764))
            subst hji53
            go_meet
            case rel => exact ⟨_, (((t747.size : Int) != (wrap64 ((wrap64 ((t739.length : Int) - 1)) - 2)))), (by first | rfl | (simp; done) | (simp [*]; done) | (simp only [i64_w]; done) | (simp [i64_w]; done) | (simp only [hji53w]; first | rfl | simp)), H', ⟨by have := HJ11.out; first | omega | exact Nat.le_refl _⟩, ⟨by (with_reducible repeat (first | apply Kd.R_alloc | apply Kd.R_drewN | apply Kd.R_drew)); exact Kd.R_mono HO_5.out (fun _ hk => trivial)⟩, ⟨by (with_reducible repeat (first | apply Kd.S_alloc | apply Kd.S_drewN | apply Kd.S_drew)); exact Kd.S_mono HO_6.out (fun _ hk => hk.1)⟩, ⟨by repeat (first | (with_reducible first | exact HB.out | apply below_alloc | apply pw_below_drewN | apply below_drew1) | exact HB.out)⟩⟩
           ·as_aux_lemma =>
            replace c63 := Bool.eq_false_iff.mpr c63
            subst c63
            have H1 : (laws_FnMarkovWords.j1 kj11 l1 t736 t739 t747 false t751 ji53 false) = some r := by rw [if_neg (show ¬ (false = true) by decide)] at H; exact H
            clear H; have H := H1; clear H1
            have H' := Aside0.mk H
            clear H
            have p757 : 0 ≤ (0 : Int) := (by omega)
            have q757 : 0 < (t739.length : Int) := of_decide_eq_true (by first | (with_reducible assumption) | assumption)
            obtain ⟨ad757, A757_0, c757_0, e757, hx757_0, hl757_0, hi757_0⟩ := at_L1 (Kd.S_reads' HO_6.out).2.2 0 p757 q757
            cases e757
            obtain ⟨ce757, hce757, hMe757, hcc757⟩ := Kd.S_get HO_6.out [] 0 p757 (by first | exact q757 | exact of_decide_eq_true (by first | (with_reducible assumption) | assumption) | (have e_ := (Kd.S_reads' HO_6.out).1; omega))
            obtain ⟨ve757_0, rfl, ge757_0⟩ := hMe757
            have hv757_0 := hcc757 0 _ rfl
            rw [Nat.add_zero, show ((Kd.slice 3 (Kd.int .i64))).sz = 1 from rfl, Nat.mul_one] at hv757_0
            replace hv757_0 := Option.some.inj (hv757_0.symm.trans hx757_0)
            rw [hv757_0] at ge757_0
            have HL757_0 := Aside0.mk (show Kd.R (Kd.int .i64) 3 _ _ _ _ (rd_L1 t739 0) from ge757_0)
            clear hv757_0 ge757_0; clear hcc757 hce757
            have qi757 : (0 < t739.length) = True := eq_true (by omega)
            (try rw [show ((0 : Int)).toNat = 0 from rfl] at hx757_0)
            (try rw [Addr.add_zero'] at hx757_0)
            have HR757_0 := Aside0.mk hi757_0
            have HC757_0 := Aside0.mk hl757_0
            clear hi757_0 hl757_0; replace p757 := eq_true p757; replace q757 := eq_true q757
            go_wp2_with (first | ((with_reducible refine gate_callee (f := 40) rfl ?_); refine goesL_ (some 113) rfl rfl Try.func40 (by kernel_rfl) rfl #[.slice A757_0 (rd_L1 t739 0).length c757_0, .slice Ao14 t736.length co14] rfl (by (try simp only [List.map_toArray, List.map_cons, List.map_nil]); first | done | rfl) ?_; (with_reducible refine (laws_dSame.calls kj11 _ _ (rd_L1 t739 0) _ _ t736 true _ ?side1 ?side2 ?side3 ?side4 A51.out).mono ?_); (case side1 => repeat (first | exact (by repeat (first | (with_reducible exact HR757_0.out) | (with_reducible refine Kd.C_alloc ?_ _) | (with_reducible refine Kd.C_drewN ?_ _) | (with_reducible refine Kd.C_drew ?_) | exact HR757_0.out)) | (with_reducible refine Kd.C_alloc ?_ _) | (with_reducible refine Kd.C_drewN ?_ _) | (with_reducible refine Kd.C_drew ?_))); (case side2 => exact HC757_0.out); (case side3 => repeat (first | exact (Kd.R_reads' HO_5.out).2.2 | (with_reducible refine Kd.C_alloc ?_ _) | (with_reducible refine Kd.C_drewN ?_ _) | (with_reducible refine Kd.C_drew ?_))); (case side4 => exact (Kd.R_reads' HO_5.out).2.1); rintro e w' ⟨rfl, ⟨nd, rfl⟩⟩; refine ⟨_, rfl, ?_⟩; have p759 : 0 ≤ ((ji53) : Int) := of_decide_eq_true (by first | (with_reducible assumption) | assumption); have q759 : (ji53) < (t739.length : Int) := of_decide_eq_true (by first | (with_reducible assumption) | assumption); obtain ⟨ad759, A759_0, c759_0, e759, hx759_0, hl759_0, hi759_0⟩ := at_L1 (Kd.S_reads' HO_6.out).2.2 (ji53) p759 q759; obtain rfl : ad757 = ad759 := (by injection e759); obtain ⟨ce759, hce759, hMe759, hcc759⟩ := Kd.S_get HO_6.out [] (ji53) p759 (by first | exact q759 | exact of_decide_eq_true (by first | (with_reducible assumption) | assumption) | (have e_ := (Kd.S_reads' HO_6.out).1; omega)); obtain ⟨ve759_0, rfl, ge759_0⟩ := hMe759; have hv759_0 := hcc759 0 _ rfl; rw [Nat.add_zero, show ((Kd.slice 3 (Kd.int .i64))).sz = 1 from rfl, Nat.mul_one] at hv759_0; replace hv759_0 := Option.some.inj (hv759_0.symm.trans hx759_0); rw [hv759_0] at ge759_0; have HL759_0 := Aside0.mk (show Kd.R (Kd.int .i64) 3 _ _ _ _ (rd_L1 t739 (ji53)) from ge759_0); clear hv759_0 ge759_0; clear hcc759 hce759; have HR759_0 := Aside0.mk hi759_0; have HC759_0 := Aside0.mk hl759_0; clear hi759_0 hl759_0; replace p759 := eq_true p759; replace q759 := eq_true q759) | ((with_reducible refine gate_dst (N := 120) rfl ?_); refine R_lit_g (Kd.int .i64) _ 3 ?hg (N := 120) ?hd (xs := ([1, 1, 1] : List Int)) (inner := [.int .i64 1, .int .i64 1, .int .i64 1]) (ok := fun _ => True) (okp := fun _ => True) ?hr ?hp (fun _ hk => hk) trivial (Below.refl _ _) (Nat.le_refl _) (by simp) ?_; (case hd => rfl); (case hg => rfl); (case hr => first | (go_simp; done) | (go_simp; rfl)); (case hp => exact (Reps.one (show Kd.M (Kd.int .i64) _ _ _ 1 [.int .i64 1] from rfl) (Reps.one (show Kd.M (Kd.int .i64) _ _ _ 1 [.int .i64 1] from rfl) (Reps.one (show Kd.M (Kd.int .i64) _ _ _ 1 [.int .i64 1] from rfl) (Reps.none _ _))))); intro v761 w67 ho68 hb hg_ hnew_; clear hg_ hnew_; (first | rw [← Ny760.out] at ho68 | (simp only [Int.reduceToNat] at ho68; rw [← Ny760.out] at ho68)); have n0_ := Aside0.mk (Kd.R_elder' (by (with_reducible repeat (first | apply Kd.R_alloc | apply Kd.R_drewN | apply Kd.R_drew)); exact HO_5.out) (Kd.R_base ho68) hb); have n1_ := Aside0.mk (Kd.S_elder' (by (with_reducible repeat (first | apply Kd.S_alloc | apply Kd.S_drewN | apply Kd.S_drew)); exact HO_6.out) (Kd.R_base ho68) hb); have n2_ := Aside0.mk (Kd.R_elder' (by (with_reducible repeat (first | apply Kd.R_alloc | apply Kd.R_drewN | apply Kd.R_drew)); exact HL757_0.out) (Kd.R_base ho68) hb); have n3_ := Aside0.mk (Kd.R_elder' (by (with_reducible repeat (first | apply Kd.R_alloc | apply Kd.R_drewN | apply Kd.R_drew)); exact HL759_0.out) (Kd.R_base ho68) hb); have n4_ := Aside0.mk (Kd.R_lower (Kd.R_new' (Kd.R_new' (Kd.R_new' ho68 (Kd.R_lt (by (with_reducible repeat (first | apply Kd.R_alloc | apply Kd.R_drewN | apply Kd.R_drew)); exact HO_5.out))) (Kd.R_lt (by (with_reducible repeat (first | apply Kd.R_alloc | apply Kd.R_drewN | apply Kd.R_drew)); exact HL757_0.out))) (Kd.R_lt (by (with_reducible repeat (first | apply Kd.R_alloc | apply Kd.R_drewN | apply Kd.R_drew)); exact HL759_0.out))) (below_size (by repeat (first | (with_reducible first | exact HB.out | apply below_alloc | apply pw_below_drewN | apply below_drew1) | exact HB.out)))); have n5_ := Aside0.mk (Kd.C_below (Kd.C_drewN HR757_0.out _) hb); have n6_ := Aside0.mk (Kd.C_below (Kd.C_drewN HR759_0.out _) hb); have n7_ := Aside0.mk (below_step (by repeat (first | (with_reducible first | exact HB.out | apply below_alloc | apply pw_below_drewN | apply below_drew1) | exact HB.out)) hb); clear HO_5; clear HO_6; clear HL757_0; clear HL759_0; clear HR757_0; clear HR759_0; clear HB; have HO_5 := n0_; have HO_6 := n1_; have HL757_0 := n2_; have HL759_0 := n3_; have HO762 := n4_; have HR757_0 := n5_; have HR759_0 := n6_; have HB := n7_; clear n0_ n1_ n2_ n3_ n4_ n5_ n6_ n7_; clear hb ho68; obtain ⟨Ao69, co69, eo69⟩ := Kd.R_slice HO762.out; subst eo69) | (go_at_call 40; (with_reducible refine (laws_dSame.calls kj11 _ _ (rd_L1 t739 (ji53)) _ _ y760 true _ ?side1 ?side2 ?side3 ?side4 A56.out).mono ?_); (case side1 => repeat (first | exact (by repeat (first | (with_reducible exact HR759_0.out) | (with_reducible refine Kd.C_alloc ?_ _) | (with_reducible refine Kd.C_drewN ?_ _) | (with_reducible refine Kd.C_drew ?_) | exact HR759_0.out)) | (with_reducible refine Kd.C_alloc ?_ _) | (with_reducible refine Kd.C_drewN ?_ _) | (with_reducible refine Kd.C_drew ?_))); (case side2 => exact HC759_0.out); (case side3 => repeat (first | exact (Kd.R_reads' HO762.out).2.2 | (with_reducible refine Kd.C_alloc ?_ _) | (with_reducible refine Kd.C_drewN ?_ _) | (with_reducible refine Kd.C_drew ?_))); (case side4 => exact (Kd.R_reads' HO762.out).2.1); rintro e w' ⟨rfl, ⟨nd, rfl⟩⟩; have p764 : 0 ≤ (2 : Int) := (by omega); have q764 : 2 < (t736.length : Int) := of_decide_eq_true (by first | (with_reducible assumption) | assumption); obtain ⟨ad764, e764, hx764_0⟩ := Kd.at_int (Kd.R_reads' HO_5.out).2.2 2 p764 q764; cases e764; (try simp only [show (2 : Int).toNat = 2 from rfl, Nat.reduceMul, Nat.reduceEqDiff, Go.Addr.add, ↓reduceIte] at hx764_0); have qi764 : (2 < t736.length) = True := eq_true (by omega); (try rw [show ((2 : Int)).toNat = 2 from rfl] at hx764_0); replace p764 := eq_true p764; replace q764 := eq_true q764))
            subst hji53
            go_meet
            case rel => exact ⟨_, (false), (by first | rfl | (simp; done) | (simp [*]; done)), H', ⟨by have := HJ11.out; first | omega | exact Nat.le_refl _⟩, ⟨by (with_reducible repeat (first | apply Kd.R_alloc | apply Kd.R_drewN | apply Kd.R_drew)); exact Kd.R_mono HO_5.out (fun _ hk => trivial)⟩, ⟨by (with_reducible repeat (first | apply Kd.S_alloc | apply Kd.S_drewN | apply Kd.S_drew)); exact Kd.S_mono HO_6.out (fun _ hk => hk.1)⟩, ⟨by repeat (first | (with_reducible first | exact HB.out | apply below_alloc | apply pw_below_drewN | apply below_drew1) | exact HB.out)⟩⟩
         ·as_aux_lemma =>
          replace c57 := Bool.eq_false_iff.mpr c57
          subst c57
          have H1 : (laws_FnMarkovWords.j1 kj11 l1 t736 t739 t747 t748 t751 ji53 true) = some r := by rw [if_neg (show ¬ (false = true) by decide)] at H; exact H
          clear H; have H := H1; clear H1
          have H' := Aside0.mk H
          clear H
          have p757 : 0 ≤ (0 : Int) := (by omega)
          have q757 : 0 < (t739.length : Int) := of_decide_eq_true (by first | (with_reducible assumption) | assumption)
          obtain ⟨ad757, A757_0, c757_0, e757, hx757_0, hl757_0, hi757_0⟩ := at_L1 (Kd.S_reads' HO_6.out).2.2 0 p757 q757
          cases e757
          obtain ⟨ce757, hce757, hMe757, hcc757⟩ := Kd.S_get HO_6.out [] 0 p757 (by first | exact q757 | exact of_decide_eq_true (by first | (with_reducible assumption) | assumption) | (have e_ := (Kd.S_reads' HO_6.out).1; omega))
          obtain ⟨ve757_0, rfl, ge757_0⟩ := hMe757
          have hv757_0 := hcc757 0 _ rfl
          rw [Nat.add_zero, show ((Kd.slice 3 (Kd.int .i64))).sz = 1 from rfl, Nat.mul_one] at hv757_0
          replace hv757_0 := Option.some.inj (hv757_0.symm.trans hx757_0)
          rw [hv757_0] at ge757_0
          have HL757_0 := Aside0.mk (show Kd.R (Kd.int .i64) 3 _ _ _ _ (rd_L1 t739 0) from ge757_0)
          clear hv757_0 ge757_0; clear hcc757 hce757
          have qi757 : (0 < t739.length) = True := eq_true (by omega)
          (try rw [show ((0 : Int)).toNat = 0 from rfl] at hx757_0)
          (try rw [Addr.add_zero'] at hx757_0)
          have HR757_0 := Aside0.mk hi757_0
          have HC757_0 := Aside0.mk hl757_0
          clear hi757_0 hl757_0; replace p757 := eq_true p757; replace q757 := eq_true q757
          go_wp2_with (first | ((with_reducible refine gate_callee (f := 40) rfl ?_); refine goesL_ (some 113) rfl rfl Try.func40 (by kernel_rfl) rfl #[.slice A757_0 (rd_L1 t739 0).length c757_0, .slice Ao14 t736.length co14] rfl (by (try simp only [List.map_toArray, List.map_cons, List.map_nil]); first | done | rfl) ?_; (with_reducible refine (laws_dSame.calls kj11 _ _ (rd_L1 t739 0) _ _ t736 true _ ?side1 ?side2 ?side3 ?side4 A51.out).mono ?_); (case side1 => repeat (first | exact (by repeat (first | (with_reducible exact HR757_0.out) | (with_reducible refine Kd.C_alloc ?_ _) | (with_reducible refine Kd.C_drewN ?_ _) | (with_reducible refine Kd.C_drew ?_) | exact HR757_0.out)) | (with_reducible refine Kd.C_alloc ?_ _) | (with_reducible refine Kd.C_drewN ?_ _) | (with_reducible refine Kd.C_drew ?_))); (case side2 => exact HC757_0.out); (case side3 => repeat (first | exact (Kd.R_reads' HO_5.out).2.2 | (with_reducible refine Kd.C_alloc ?_ _) | (with_reducible refine Kd.C_drewN ?_ _) | (with_reducible refine Kd.C_drew ?_))); (case side4 => exact (Kd.R_reads' HO_5.out).2.1); rintro e w' ⟨rfl, ⟨nd, rfl⟩⟩; refine ⟨_, rfl, ?_⟩; have p759 : 0 ≤ ((ji53) : Int) := of_decide_eq_true (by first | (with_reducible assumption) | assumption); have q759 : (ji53) < (t739.length : Int) := of_decide_eq_true (by first | (with_reducible assumption) | assumption); obtain ⟨ad759, A759_0, c759_0, e759, hx759_0, hl759_0, hi759_0⟩ := at_L1 (Kd.S_reads' HO_6.out).2.2 (ji53) p759 q759; obtain rfl : ad757 = ad759 := (by injection e759); obtain ⟨ce759, hce759, hMe759, hcc759⟩ := Kd.S_get HO_6.out [] (ji53) p759 (by first | exact q759 | exact of_decide_eq_true (by first | (with_reducible assumption) | assumption) | (have e_ := (Kd.S_reads' HO_6.out).1; omega)); obtain ⟨ve759_0, rfl, ge759_0⟩ := hMe759; have hv759_0 := hcc759 0 _ rfl; rw [Nat.add_zero, show ((Kd.slice 3 (Kd.int .i64))).sz = 1 from rfl, Nat.mul_one] at hv759_0; replace hv759_0 := Option.some.inj (hv759_0.symm.trans hx759_0); rw [hv759_0] at ge759_0; have HL759_0 := Aside0.mk (show Kd.R (Kd.int .i64) 3 _ _ _ _ (rd_L1 t739 (ji53)) from ge759_0); clear hv759_0 ge759_0; clear hcc759 hce759; have HR759_0 := Aside0.mk hi759_0; have HC759_0 := Aside0.mk hl759_0; clear hi759_0 hl759_0; replace p759 := eq_true p759; replace q759 := eq_true q759) | ((with_reducible refine gate_dst (N := 120) rfl ?_); refine R_lit_g (Kd.int .i64) _ 3 ?hg (N := 120) ?hd (xs := ([1, 1, 1] : List Int)) (inner := [.int .i64 1, .int .i64 1, .int .i64 1]) (ok := fun _ => True) (okp := fun _ => True) ?hr ?hp (fun _ hk => hk) trivial (Below.refl _ _) (Nat.le_refl _) (by simp) ?_; (case hd => rfl); (case hg => rfl); (case hr => first | (go_simp; done) | (go_simp; rfl)); (case hp => exact (Reps.one (show Kd.M (Kd.int .i64) _ _ _ 1 [.int .i64 1] from rfl) (Reps.one (show Kd.M (Kd.int .i64) _ _ _ 1 [.int .i64 1] from rfl) (Reps.one (show Kd.M (Kd.int .i64) _ _ _ 1 [.int .i64 1] from rfl) (Reps.none _ _))))); intro v761 w70 ho71 hb hg_ hnew_; clear hg_ hnew_; (first | rw [← Ny760.out] at ho71 | (simp only [Int.reduceToNat] at ho71; rw [← Ny760.out] at ho71)); have n0_ := Aside0.mk (Kd.R_elder' (by (with_reducible repeat (first | apply Kd.R_alloc | apply Kd.R_drewN | apply Kd.R_drew)); exact HO_5.out) (Kd.R_base ho71) hb); have n1_ := Aside0.mk (Kd.S_elder' (by (with_reducible repeat (first | apply Kd.S_alloc | apply Kd.S_drewN | apply Kd.S_drew)); exact HO_6.out) (Kd.R_base ho71) hb); have n2_ := Aside0.mk (Kd.R_elder' (by (with_reducible repeat (first | apply Kd.R_alloc | apply Kd.R_drewN | apply Kd.R_drew)); exact HL757_0.out) (Kd.R_base ho71) hb); have n3_ := Aside0.mk (Kd.R_elder' (by (with_reducible repeat (first | apply Kd.R_alloc | apply Kd.R_drewN | apply Kd.R_drew)); exact HL759_0.out) (Kd.R_base ho71) hb); have n4_ := Aside0.mk (Kd.R_lower (Kd.R_new' (Kd.R_new' (Kd.R_new' ho71 (Kd.R_lt (by (with_reducible repeat (first | apply Kd.R_alloc | apply Kd.R_drewN | apply Kd.R_drew)); exact HO_5.out))) (Kd.R_lt (by (with_reducible repeat (first | apply Kd.R_alloc | apply Kd.R_drewN | apply Kd.R_drew)); exact HL757_0.out))) (Kd.R_lt (by (with_reducible repeat (first | apply Kd.R_alloc | apply Kd.R_drewN | apply Kd.R_drew)); exact HL759_0.out))) (below_size (by repeat (first | (with_reducible first | exact HB.out | apply below_alloc | apply pw_below_drewN | apply below_drew1) | exact HB.out)))); have n5_ := Aside0.mk (Kd.C_below (Kd.C_drewN HR757_0.out _) hb); have n6_ := Aside0.mk (Kd.C_below (Kd.C_drewN HR759_0.out _) hb); have n7_ := Aside0.mk (below_step (by repeat (first | (with_reducible first | exact HB.out | apply below_alloc | apply pw_below_drewN | apply below_drew1) | exact HB.out)) hb); clear HO_5; clear HO_6; clear HL757_0; clear HL759_0; clear HR757_0; clear HR759_0; clear HB; have HO_5 := n0_; have HO_6 := n1_; have HL757_0 := n2_; have HL759_0 := n3_; have HO762 := n4_; have HR757_0 := n5_; have HR759_0 := n6_; have HB := n7_; clear n0_ n1_ n2_ n3_ n4_ n5_ n6_ n7_; clear hb ho71; obtain ⟨Ao72, co72, eo72⟩ := Kd.R_slice HO762.out; subst eo72) | (go_at_call 40; (with_reducible refine (laws_dSame.calls kj11 _ _ (rd_L1 t739 (ji53)) _ _ y760 false _ ?side1 ?side2 ?side3 ?side4 A56.out).mono ?_); (case side1 => repeat (first | exact (by repeat (first | (with_reducible exact HR759_0.out) | (with_reducible refine Kd.C_alloc ?_ _) | (with_reducible refine Kd.C_drewN ?_ _) | (with_reducible refine Kd.C_drew ?_) | exact HR759_0.out)) | (with_reducible refine Kd.C_alloc ?_ _) | (with_reducible refine Kd.C_drewN ?_ _) | (with_reducible refine Kd.C_drew ?_))); (case side2 => exact HC759_0.out); (case side3 => repeat (first | exact (Kd.R_reads' HO762.out).2.2 | (with_reducible refine Kd.C_alloc ?_ _) | (with_reducible refine Kd.C_drewN ?_ _) | (with_reducible refine Kd.C_drew ?_))); (case side4 => exact (Kd.R_reads' HO762.out).2.1); rintro e w' ⟨rfl, ⟨nd, rfl⟩⟩))
          subst hji53
          go_meet
          case rel => exact ⟨_, (true), (by first | rfl | (simp; done) | (simp [*]; done)), H', ⟨by have := HJ11.out; first | omega | exact Nat.le_refl _⟩, ⟨by (with_reducible repeat (first | apply Kd.R_alloc | apply Kd.R_drewN | apply Kd.R_drew)); exact Kd.R_mono HO_5.out (fun _ hk => trivial)⟩, ⟨by (with_reducible repeat (first | apply Kd.S_alloc | apply Kd.S_drewN | apply Kd.S_drew)); exact Kd.S_mono HO_6.out (fun _ hk => hk.1)⟩, ⟨by repeat (first | (with_reducible first | exact HB.out | apply below_alloc | apply pw_below_drewN | apply below_drew1) | exact HB.out)⟩⟩
        ·as_aux_lemma =>
         replace c52 := Bool.eq_false_iff.mpr c52
         subst c52
         have H1 : (laws_FnMarkovWords.j1 kj11 l1 t736 t739 t747 t748 t751 (wrap64 ((t739.length : Int) - 1)) true) = some r := by rw [if_neg (show ¬ (false = true) by decide)] at H; exact H
         clear H; have H := H1; clear H1
         have H' := Aside0.mk H
         clear H
         have p757 : 0 ≤ (0 : Int) := (by omega)
         have q757 : 0 < (t739.length : Int) := of_decide_eq_true (by first | (with_reducible assumption) | assumption)
         obtain ⟨ad757, A757_0, c757_0, e757, hx757_0, hl757_0, hi757_0⟩ := at_L1 (Kd.S_reads' HO_6.out).2.2 0 p757 q757
         cases e757
         obtain ⟨ce757, hce757, hMe757, hcc757⟩ := Kd.S_get HO_6.out [] 0 p757 (by first | exact q757 | exact of_decide_eq_true (by first | (with_reducible assumption) | assumption) | (have e_ := (Kd.S_reads' HO_6.out).1; omega))
         obtain ⟨ve757_0, rfl, ge757_0⟩ := hMe757
         have hv757_0 := hcc757 0 _ rfl
         rw [Nat.add_zero, show ((Kd.slice 3 (Kd.int .i64))).sz = 1 from rfl, Nat.mul_one] at hv757_0
         replace hv757_0 := Option.some.inj (hv757_0.symm.trans hx757_0)
         rw [hv757_0] at ge757_0
         have HL757_0 := Aside0.mk (show Kd.R (Kd.int .i64) 3 _ _ _ _ (rd_L1 t739 0) from ge757_0)
         clear hv757_0 ge757_0; clear hcc757 hce757
         have qi757 : (0 < t739.length) = True := eq_true (by omega)
         (try rw [show ((0 : Int)).toNat = 0 from rfl] at hx757_0)
         (try rw [Addr.add_zero'] at hx757_0)
         have HR757_0 := Aside0.mk hi757_0
         have HC757_0 := Aside0.mk hl757_0
         clear hi757_0 hl757_0; replace p757 := eq_true p757; replace q757 := eq_true q757
         go_wp2_with (first | ((with_reducible refine gate_callee (f := 40) rfl ?_); refine goesL_ (some 113) rfl rfl Try.func40 (by kernel_rfl) rfl #[.slice A757_0 (rd_L1 t739 0).length c757_0, .slice Ao14 t736.length co14] rfl (by (try simp only [List.map_toArray, List.map_cons, List.map_nil]); first | done | rfl) ?_; (with_reducible refine (laws_dSame.calls kj11 _ _ (rd_L1 t739 0) _ _ t736 false _ ?side1 ?side2 ?side3 ?side4 A51.out).mono ?_); (case side1 => repeat (first | exact (by repeat (first | (with_reducible exact HR757_0.out) | (with_reducible refine Kd.C_alloc ?_ _) | (with_reducible refine Kd.C_drewN ?_ _) | (with_reducible refine Kd.C_drew ?_) | exact HR757_0.out)) | (with_reducible refine Kd.C_alloc ?_ _) | (with_reducible refine Kd.C_drewN ?_ _) | (with_reducible refine Kd.C_drew ?_))); (case side2 => exact HC757_0.out); (case side3 => repeat (first | exact (Kd.R_reads' HO_5.out).2.2 | (with_reducible refine Kd.C_alloc ?_ _) | (with_reducible refine Kd.C_drewN ?_ _) | (with_reducible refine Kd.C_drew ?_))); (case side4 => exact (Kd.R_reads' HO_5.out).2.1); rintro e w' ⟨rfl, ⟨nd, rfl⟩⟩; refine ⟨_, rfl, ?_⟩))
         go_meet
         case rel => exact ⟨_, (true), (by first | rfl | (simp; done) | (simp [*]; done)), H', ⟨by have := HJ11.out; first | omega | exact Nat.le_refl _⟩, ⟨by (with_reducible repeat (first | apply Kd.R_alloc | apply Kd.R_drewN | apply Kd.R_drew)); exact HO_5.out⟩, ⟨by (with_reducible repeat (first | apply Kd.S_alloc | apply Kd.S_drewN | apply Kd.S_drew)); exact HO_6.out⟩, ⟨by repeat (first | (with_reducible first | exact HB.out | apply below_alloc | apply pw_below_drewN | apply below_drew1) | exact HB.out)⟩⟩
       case rest => as_aux_lemma =>
        clear HC48
        try clear c1
        try clear c2
        try clear p2
        try clear c3
        try clear c4
        try clear c5
        try clear c6
        try clear p6
        try clear c7
        try clear p7
        try clear q7
        try clear hx7
        try clear qi7
        try clear c12
        try clear c15
        try clear c17
        try clear c20
        try clear c20b0
        try clear c20b1
        try clear c20b2
        try clear c22
        try clear c23
        try clear c23b0
        try clear c23b1
        try clear c23b2
        try clear c26
        try clear c26b0
        try clear c26b1
        try clear c27
        try clear c27b0
        try clear c27b1
        try clear c27b2
        try clear c29
        try clear c30
        try clear c30b0
        try clear c30b1
        try clear c31
        try clear c32
        try clear c32b0
        try clear c32b1
        try clear c32b2
        try clear c38
        try clear c40
        try clear c45
        try clear c47
        try clear c50
        try clear c50b0
        try clear c50b1
        try clear c52
        try clear c54
        try clear c54b0
        try clear c55
        try clear c55b0
        try clear c57
        try clear c58
        try clear c58b0
        try clear c58b1
        try clear c59
        try clear c59b0
        try clear c59b1
        try clear c59b2
        try clear c63
        try clear p64
        try clear hx757_0
        try clear hx759_0
        try clear hx764_0
        try clear p2
        try clear p757
        try clear p759
        try clear p764
        try clear q757
        try clear q759
        try clear q764
        obtain ⟨kq, x141_47, rfl, HA, HJ47, HO_5, HO_6, HB⟩ := hcut
        cases kq with
        | zero => exact absurd HA.out (by simp [laws_FnMarkovWords.j1])
        | succ kj47 =>
         have H := HA.out; clear HA
         simp only [laws_FnMarkovWords.j1] at H
         by_cases c73 : x141_47 = true
         ·subst c73
          have H1 : (some false) = some r := by rw [if_pos rfl] at H; exact H
          clear H; have H := H1; clear H1
          obtain rfl := Option.some.inj H
          go_wp2
          go_ret
          exact ⟨by first | rfl | (simp [errW_none, errW_some] <;> rfl) | (simp [*, errW_none, errW_some] <;> rfl), by repeat (first | (with_reducible first | exact HB.out | apply below_alloc | apply pw_below_drewN | apply below_drew1) | exact HB.out)⟩
         ·as_aux_lemma =>
          replace c73 := Bool.eq_false_iff.mpr c73
          subst c73
          have H1 : (laws_FnMarkovWords.l0 kj47 l1 t736 t739 t747 t748 t751 (wrap64 ((t739.length : Int) - 1)) 1) = some r := by rw [if_neg (show ¬ (false = true) by decide)] at H; exact H
          clear H; have H := H1; clear H1
          have H' := Aside0.mk H
          clear H
          go_wp2
          go_loopg [19] kj47 (fun kq v19 w' => ∃ (x19_3 : Int), v19 = .int .i64 x19_3 ∧ Aside0 (laws_FnMarkovWords.l0 kq l1 t736 t739 t747 t748 t751 (wrap64 ((t739.length : Int) - 1)) x19_3 = some r) ∧ Aside0 (kq ≤ kj47) ∧ Aside0 (Kd.R (Kd.int .i64) 3 w' w.heap.size (fun _ => True) (.slice Ao14 t736.length co14) t736) ∧ Aside0 (Kd.S (Kd.slice 3 (Kd.int .i64)) 22 w' w.heap.size (fun k_ => some k_ ≠ ((.slice Ao14 t736.length co14) : Value).ownBlock) (.slice Ao49 t739.length co49) t739) ∧ Aside0 (Below w.heap.size w w'))
          case atStart => exact ⟨(1), (by first | rfl | (simp; done) | (simp [*]; done)), H', ⟨Nat.le_refl _⟩, ⟨by (with_reducible repeat (first | apply Kd.R_alloc | apply Kd.R_drewN | apply Kd.R_drew)); exact HO_5.out⟩, ⟨by (with_reducible repeat (first | apply Kd.S_alloc | apply Kd.S_drewN | apply Kd.S_drew)); exact HO_6.out⟩, ⟨by repeat (first | (with_reducible first | exact HB.out | apply below_alloc | apply pw_below_drewN | apply below_drew1) | exact HB.out)⟩⟩
          case round => as_aux_lemma =>
           clear H'
           try clear c1
           try clear c2
           try clear p2
           try clear c3
           try clear c4
           try clear c5
           try clear c6
           try clear p6
           try clear c7
           try clear p7
           try clear q7
           try clear hx7
           try clear qi7
           try clear c12
           try clear c15
           try clear c17
           try clear c20
           try clear c20b0
           try clear c20b1
           try clear c20b2
           try clear c22
           try clear c23
           try clear c23b0
           try clear c23b1
           try clear c23b2
           try clear c26
           try clear c26b0
           try clear c26b1
           try clear c27
           try clear c27b0
           try clear c27b1
           try clear c27b2
           try clear c29
           try clear c30
           try clear c30b0
           try clear c30b1
           try clear c31
           try clear c32
           try clear c32b0
           try clear c32b1
           try clear c32b2
           try clear c38
           try clear c40
           try clear c45
           try clear c47
           try clear c50
           try clear c50b0
           try clear c50b1
           try clear c52
           try clear c54
           try clear c54b0
           try clear c55
           try clear c55b0
           try clear c57
           try clear c58
           try clear c58b0
           try clear c58b1
           try clear c59
           try clear c59b0
           try clear c59b1
           try clear c59b2
           try clear c63
           try clear p64
           try clear c73
           try clear hx757_0
           try clear hx759_0
           try clear hx764_0
           try clear p2
           try clear p6
           try clear p64
           try clear p7
           try clear p757
           try clear p759
           try clear p764
           try clear q7
           try clear q757
           try clear q759
           try clear q764
           obtain ⟨x19_3, rfl, HA, HK3, HO_5, HO_6, HB⟩ := hrel
           cases gk with
           | zero => exact absurd HA.out (by simp [laws_FnMarkovWords.l0])
           | succ k3 =>
            have H := HA.out; clear HA
            simp only [laws_FnMarkovWords.l0] at H
            by_cases c74 : x19_3 ≤ (wrap64 ((t739.length : Int) - 1))
            ·as_aux_lemma =>
             rw [if_pos c74] at H
             have c74b0 : decide (x19_3 ≤ (wrap64 ((t739.length : Int) - 1))) = true := decide_eq_true c74
             clear c74
             by_cases c75 : 0 ≤ x19_3
             rotate_left
             ·rw [if_neg c75] at H
              exact absurd H (by simp)
             as_aux_lemma =>
             rw [if_pos c75] at H
             have c75b0 : decide (0 ≤ x19_3) = true := decide_eq_true c75
             clear c75
             by_cases c76 : x19_3 < (t739.length : Int)
             rotate_left
             ·rw [if_neg c76] at H
              exact absurd H (by simp)
             as_aux_lemma =>
             rw [if_pos c76] at H
             have c76b0 : decide (x19_3 < (t739.length : Int)) = true := decide_eq_true c76
             clear c76
             by_cases c77 : 2 < ((rd_L1 t739 x19_3).length : Int)
             rotate_left
             ·rw [if_neg c77] at H
              exact absurd H (by simp)
             as_aux_lemma =>
             rw [if_pos c77] at H
             have c77b0 : decide (2 < ((rd_L1 t739 x19_3).length : Int)) = true := decide_eq_true c77
             have c77b1 : decide (2 < (rd_L1 t739 x19_3).length) = true := decide_eq_true (by omega)
             clear c77
             obtain ⟨ji78, hji78⟩ : ∃ j_ : Int, (wrap64 (x19_3 - 1)) = j_ := ⟨_, rfl⟩
             replace H : (if 0 ≤ (ji78) then (if (ji78) < (t739.length : Int) then (if 2 < ((rd_L1 t739 (ji78)).length : Int) then (if (rd (rd_L1 t739 x19_3) 2) ≥ (rd (rd_L1 t739 (ji78)) 2) then (some false) else ((impl_IsMarkov.f k3 (rd_L1 t739 x19_3)).bind fun t770 => (if t770 = true then (laws_FnMarkovWords.l0 k3 l1 t736 t739 t747 t748 t751 (wrap64 ((t739.length : Int) - 1)) (wrap64 (x19_3 + 1))) else (some false)))) else (none)) else (none)) else (none)) = some r := by first | (rw [hji78] at H; exact H) | (simp only [hji78] at H ⊢; exact H)
             have hji78w : (IntKind.i64.wrap (x19_3 - 1)) = ji78 := (i64_w _).trans hji78
             by_cases c79 : 0 ≤ (ji78)
             rotate_left
             ·rw [if_neg c79] at H
              exact absurd H (by simp)
             as_aux_lemma =>
             rw [if_pos c79] at H
             have c79b0 : decide (0 ≤ (ji78)) = true := decide_eq_true c79
             clear c79
             by_cases c80 : (ji78) < (t739.length : Int)
             rotate_left
             ·rw [if_neg c80] at H
              exact absurd H (by simp)
             as_aux_lemma =>
             rw [if_pos c80] at H
             have c80b0 : decide ((ji78) < (t739.length : Int)) = true := decide_eq_true c80
             clear c80
             by_cases c81 : 2 < ((rd_L1 t739 (ji78)).length : Int)
             rotate_left
             ·rw [if_neg c81] at H
              exact absurd H (by simp)
             as_aux_lemma =>
             rw [if_pos c81] at H
             have c81b0 : decide (2 < ((rd_L1 t739 (ji78)).length : Int)) = true := decide_eq_true c81
             have c81b1 : decide (2 < (rd_L1 t739 (ji78)).length) = true := decide_eq_true (by omega)
             clear c81
             by_cases c82 : (rd (rd_L1 t739 x19_3) 2) ≥ (rd (rd_L1 t739 (ji78)) 2)
             ·as_aux_lemma =>
              rw [if_pos c82] at H
              have c82b0 : decide ((rd (rd_L1 t739 (ji78)) 2) ≤ (rd (rd_L1 t739 x19_3) 2)) = true := decide_eq_true c82
              clear c82
              obtain rfl := Option.some.inj H
              try go_wp2
              have n0_ := Aside0.mk (Kd.R_drew HO_5.out)
              have n1_ := Aside0.mk (Kd.S_drew HO_6.out)
              have n2_ := Aside0.mk (below_drew1 HB.out)
              clear HO_5; clear HO_6; clear HB; have HO_5 := n0_; have HO_6 := n1_; have HB := n2_; clear n0_ n1_ n2_
              have p765 : 0 ≤ (x19_3 : Int) := of_decide_eq_true (by first | (with_reducible assumption) | assumption)
              have q765 : x19_3 < (t739.length : Int) := of_decide_eq_true (by first | (with_reducible assumption) | assumption)
              obtain ⟨ad765, A765_0, c765_0, e765, hx765_0, hl765_0, hi765_0⟩ := at_L1 (Kd.S_reads' HO_6.out).2.2 x19_3 p765 q765
              cases e765
              obtain ⟨ce765, hce765, hMe765, hcc765⟩ := Kd.S_get HO_6.out [] x19_3 p765 (by first | exact q765 | exact of_decide_eq_true (by first | (with_reducible assumption) | assumption) | (have e_ := (Kd.S_reads' HO_6.out).1; omega))
              obtain ⟨ve765_0, rfl, ge765_0⟩ := hMe765
              have hv765_0 := hcc765 0 _ rfl
              rw [Nat.add_zero, show ((Kd.slice 3 (Kd.int .i64))).sz = 1 from rfl, Nat.mul_one] at hv765_0
              replace hv765_0 := Option.some.inj (hv765_0.symm.trans hx765_0)
              rw [hv765_0] at ge765_0
              have HL765_0 := Aside0.mk (show Kd.R (Kd.int .i64) 3 _ _ _ _ (rd_L1 t739 x19_3) from ge765_0)
              clear hv765_0 ge765_0; clear hcc765 hce765
              have HR765_0 := Aside0.mk hi765_0
              have HC765_0 := Aside0.mk hl765_0
              clear hi765_0 hl765_0; replace p765 := eq_true p765; replace q765 := eq_true q765
              have p766 : 0 ≤ (2 : Int) := (by omega)
              have q766 : 2 < ((rd_L1 t739 x19_3).length : Int) := of_decide_eq_true (by first | (with_reducible assumption) | assumption)
              obtain ⟨ad766, e766, hx766_0⟩ := Kd.at_int (by repeat (first | (with_reducible exact HR765_0.out) | (with_reducible refine Kd.C_alloc ?_ _) | (with_reducible refine Kd.C_drewN ?_ _) | (with_reducible refine Kd.C_drew ?_) | exact HR765_0.out)) 2 p766 q766
              cases e766
              (try simp only [show (2 : Int).toNat = 2 from rfl, Nat.reduceMul, Nat.reduceEqDiff, Go.Addr.add, ↓reduceIte] at hx766_0)
              have qi766 : (2 < (rd_L1 t739 x19_3).length) = True := eq_true (by omega)
              (try rw [show ((2 : Int)).toNat = 2 from rfl] at hx766_0)
              replace p766 := eq_true p766; replace q766 := eq_true q766
              have p767 : 0 ≤ ((ji78) : Int) := of_decide_eq_true (by first | (with_reducible assumption) | assumption)
              have q767 : (ji78) < (t739.length : Int) := of_decide_eq_true (by first | (with_reducible assumption) | assumption)
              obtain ⟨ad767, A767_0, c767_0, e767, hx767_0, hl767_0, hi767_0⟩ := at_L1 (Kd.S_reads' HO_6.out).2.2 (ji78) p767 q767
              obtain rfl : ad765 = ad767 := (by injection e767)
              obtain ⟨ce767, hce767, hMe767, hcc767⟩ := Kd.S_get HO_6.out [] (ji78) p767 (by first | exact q767 | exact of_decide_eq_true (by first | (with_reducible assumption) | assumption) | (have e_ := (Kd.S_reads' HO_6.out).1; omega))
              obtain ⟨ve767_0, rfl, ge767_0⟩ := hMe767
              have hv767_0 := hcc767 0 _ rfl
              rw [Nat.add_zero, show ((Kd.slice 3 (Kd.int .i64))).sz = 1 from rfl, Nat.mul_one] at hv767_0
              replace hv767_0 := Option.some.inj (hv767_0.symm.trans hx767_0)
              rw [hv767_0] at ge767_0
              have HL767_0 := Aside0.mk (show Kd.R (Kd.int .i64) 3 _ _ _ _ (rd_L1 t739 (ji78)) from ge767_0)
              clear hv767_0 ge767_0; clear hcc767 hce767
              have HR767_0 := Aside0.mk hi767_0
              have HC767_0 := Aside0.mk hl767_0
              clear hi767_0 hl767_0; replace p767 := eq_true p767; replace q767 := eq_true q767
              have p768 : 0 ≤ (2 : Int) := (by omega)
              have q768 : 2 < ((rd_L1 t739 (ji78)).length : Int) := of_decide_eq_true (by first | (with_reducible assumption) | assumption)
              obtain ⟨ad768, e768, hx768_0⟩ := Kd.at_int (by repeat (first | (with_reducible exact HR767_0.out) | (with_reducible refine Kd.C_alloc ?_ _) | (with_reducible refine Kd.C_drewN ?_ _) | (with_reducible refine Kd.C_drew ?_) | exact HR767_0.out)) 2 p768 q768
              cases e768
              (try simp only [show (2 : Int).toNat = 2 from rfl, Nat.reduceMul, Nat.reduceEqDiff, Go.Addr.add, ↓reduceIte] at hx768_0)
              have qi768 : (2 < (rd_L1 t739 (ji78)).length) = True := eq_true (by omega)
              (try rw [show ((2 : Int)).toNat = 2 from rfl] at hx768_0)
              replace p768 := eq_true p768; replace q768 := eq_true q768
              refine start_ (n := 22) (S := fun w' => w'.cell? (ad765.add (x19_3).toNat) = some (.slice (some ad766) (rd_L1 t739 x19_3).length c765_0) ∧ w'.cell? ⟨ad766.block, ad766.off + 2, none⟩ = some (.int .i64 (rd (rd_L1 t739 x19_3) 2)) ∧ w'.cell? (ad765.add ((ji78)).toNat) = some (.slice (some ad768) (rd_L1 t739 (ji78)).length c767_0) ∧ w'.cell? ⟨ad768.block, ad768.off + 2, none⟩ = some (.int .i64 (rd (rd_L1 t739 (ji78)) 2))) (ds := []) b0MW (by kernel_rfl) rfl rfl ⟨hx765_0, hx766_0, hx767_0, hx768_0⟩ (fun hHeld => ?_); refine with_tabW laws_FnMarkovWords.tab19 laws_FnMarkovWords.bits19 (fun HT_ HW_ => ?_)
              generalize wr.drew = w83 at HO_5 HO_6 HB HL765_0 HL767_0 HR765_0 HR767_0 hx765_0 hx766_0 hx767_0 hx768_0 hHeld ⊢
              refine pure_ (i := 0) (N := some 147) (v := ?_) (a' := ?_) b1MW rfl rfl (any_of HT_.out (by kernel_rfl)) (fun _ _ _ h => h) (Or.inl ⟨by rfl, ?_⟩) ?_ ?_
              rotate_left; (intro w'; go_simp; with_reducible rfl); rotate_left; (simp only [Act.put, List.setIfInBounds_toArray, List.set_cons_zero, List.set_cons_succ, i64_w]; rfl)
              refine pure_ (i := 1) (N := some 148) (v := ?_) (a' := ?_) b2MW rfl rfl (any_of HT_.out (by kernel_rfl)) (fun _ _ _ h => h) (Or.inl ⟨by rfl, ?_⟩) ?_ ?_
              rotate_left; (intro w'; go_simp; with_reducible rfl); rotate_left; (simp only [Act.put, List.setIfInBounds_toArray, List.set_cons_zero, List.set_cons_succ, i64_w]; rfl)
              refine pure_ (i := 2) (N := some 149) (v := ?_) (a' := ?_) b3MW rfl rfl (any_of HT_.out (by kernel_rfl)) (fun _ _ _ h => h) (Or.inl ⟨by rfl, ?_⟩) ?_ ?_
              rotate_left; (intro w'; go_simp; with_reducible rfl); rotate_left; (simp only [Act.put, List.setIfInBounds_toArray, List.set_cons_zero, List.set_cons_succ, i64_w]; rfl)
              refine pure_ (i := 6) (N := some 153) (v := ?_) (a' := ?_) b4MW rfl rfl (any_of HT_.out (by kernel_rfl)) (fun _ _ _ h => h) (Or.inl ⟨by rfl, ?_⟩) ?_ ?_
              rotate_left; (intro w'; go_simp; with_reducible rfl); rotate_left; (simp only [Act.put, List.setIfInBounds_toArray, List.set_cons_zero, List.set_cons_succ, i64_w]; rfl)
              refine pure_ (i := 7) (N := some 154) (v := ?_) (a' := ?_) b5MW rfl rfl (any_of HT_.out (by kernel_rfl)) (fun _ _ _ h => h) (Or.inl ⟨by rfl, ?_⟩) ?_ ?_
              rotate_left; (intro w'; go_simp; with_reducible rfl); rotate_left; (simp only [Act.put, List.setIfInBounds_toArray, List.set_cons_zero, List.set_cons_succ, i64_w]; rfl)
              refine pure_ (i := 8) (N := some 155) (v := ?_) (a' := ?_) b6MW rfl rfl (any_of HT_.out (by kernel_rfl)) (fun _ _ _ h => h) (Or.inl ⟨by rfl, ?_⟩) ?_ ?_
              rotate_left; (intro w'; go_simp; with_reducible rfl); rotate_left; (simp only [Act.put, List.setIfInBounds_toArray, List.set_cons_zero, List.set_cons_succ, i64_w]; rfl)
              refine pure_ (i := 9) (N := some 156) (v := ?_) (a' := ?_) b7MW rfl rfl (any_of HT_.out (by kernel_rfl)) (fun _ _ _ h => h) (Or.inl ⟨by rfl, ?_⟩) ?_ ?_
              rotate_left; (intro w'; go_simp; with_reducible rfl); rotate_left; (simp only [Act.put, List.setIfInBounds_toArray, List.set_cons_zero, List.set_cons_succ, i64_w]; rfl)
              refine take_ (i := 3) (N := some 150) (v := ?_) (a' := ?_) b8MW rfl rfl (take_ofW HT_.out HW_.out (by kernel_rfl)) (fun _ _ _ h => h) (Or.inl ⟨by rfl, ?_⟩) hHeld ?_ ?_
              rotate_left
              ·rintro w' ⟨s0, s1, s2, s3⟩
               go_simp
               with_reducible rfl
              rotate_left
              ·simp only [Act.put, List.setIfInBounds_toArray, List.set_cons_zero, List.set_cons_succ, i64_w]
               rfl
              refine pure_ (i := 4) (N := some 151) (v := ?_) (a' := ?_) b9MW rfl rfl (any_of HT_.out (by kernel_rfl)) (fun _ _ _ h => h) (Or.inl ⟨by rfl, ?_⟩) ?_ ?_
              rotate_left; (intro w'; go_simp; with_reducible rfl); rotate_left; (simp only [Act.put, List.setIfInBounds_toArray, List.set_cons_zero, List.set_cons_succ, i64_w]; rfl)
              refine take_ (i := 5) (N := some 152) (v := ?_) (a' := ?_) b10MW rfl rfl (take_ofW HT_.out HW_.out (by kernel_rfl)) (fun _ _ _ h => h) (Or.inl ⟨by rfl, ?_⟩) hHeld ?_ ?_
              rotate_left
              ·rintro w' ⟨s0, s1, s2, s3⟩
               go_simp
               with_reducible rfl
              rotate_left
              ·simp only [Act.put, List.setIfInBounds_toArray, List.set_cons_zero, List.set_cons_succ, i64_w]
               rfl
              refine take_ (i := 10) (N := some 157) (v := ?_) (a' := ?_) b11MW rfl rfl (take_ofW HT_.out HW_.out (by kernel_rfl)) (fun _ _ _ h => h) (Or.inl ⟨by rfl, ?_⟩) hHeld ?_ ?_
              rotate_left
              ·rintro w' ⟨s0, s1, s2, s3⟩
               go_simp
               with_reducible rfl
              rotate_left
              ·simp only [Act.put, List.setIfInBounds_toArray, List.set_cons_zero, List.set_cons_succ, i64_w]
               rfl
              refine pure_ (i := 11) (N := some 158) (v := ?_) (a' := ?_) b12MW rfl rfl (any_of HT_.out (by kernel_rfl)) (fun _ _ _ h => h) (Or.inl ⟨by rfl, ?_⟩) ?_ ?_
              rotate_left; (intro w'; go_simp; with_reducible rfl); rotate_left; (simp only [Act.put, List.setIfInBounds_toArray, List.set_cons_zero, List.set_cons_succ, i64_w]; rfl)
              refine take_ (i := 12) (N := some 159) (v := ?_) (a' := ?_) b13MW rfl rfl (take_ofW HT_.out HW_.out (by kernel_rfl)) (fun _ _ _ h => h) (Or.inl ⟨by rfl, ?_⟩) hHeld ?_ ?_
              rotate_left
              ·rintro w' ⟨s0, s1, s2, s3⟩
               go_simp
               with_reducible rfl
              rotate_left
              ·simp only [Act.put, List.setIfInBounds_toArray, List.set_cons_zero, List.set_cons_succ, i64_w]
               rfl
              refine pure_ (i := 13) (N := some 160) (v := ?_) (a' := ?_) b14MW rfl rfl (any_of HT_.out (by kernel_rfl)) (fun _ _ _ h => h) (Or.inl ⟨by rfl, ?_⟩) ?_ ?_
              rotate_left; (intro w'; go_simp; with_reducible rfl); rotate_left; (simp only [Act.put, List.setIfInBounds_toArray, List.set_cons_zero, List.set_cons_succ, i64_w]; rfl)
              refine pure_ (i := 14) (N := some 161) (v := ?_) (a' := ?_) b15MW rfl rfl (any_of HT_.out (by kernel_rfl)) (fun _ _ _ h => h) (Or.inl ⟨by rfl, ?_⟩) ?_ ?_
              rotate_left; (intro w'; go_simp; with_reducible rfl); rotate_left; (simp only [Act.put, List.setIfInBounds_toArray, List.set_cons_zero, List.set_cons_succ, i64_w]; rfl)
              refine pure_ (i := 15) (N := some 162) (v := undef) (a' := ?_) b16MW rfl rfl (any_of HT_.out (by kernel_rfl)) (fun _ _ _ h => h) (Or.inr ⟨by rfl, rfl⟩) ?_ ?_
              rotate_left
              ·simp only [Act.put, List.setIfInBounds_toArray, List.set_cons_zero, List.set_cons_succ, i64_w]
               rfl
              refine pure_ (i := 16) (N := some 163) (v := undef) (a' := ?_) b17MW rfl rfl (any_of HT_.out (by kernel_rfl)) (fun _ _ _ h => h) (Or.inr ⟨by rfl, rfl⟩) ?_ ?_
              rotate_left
              ·simp only [Act.put, List.setIfInBounds_toArray, List.set_cons_zero, List.set_cons_succ, i64_w]
               rfl
              refine pure_ (i := 17) (N := some 164) (v := undef) (a' := ?_) b18MW rfl rfl (any_of HT_.out (by kernel_rfl)) (fun _ _ _ h => h) (Or.inr ⟨by rfl, rfl⟩) ?_ ?_
              rotate_left
              ·simp only [Act.put, List.setIfInBounds_toArray, List.set_cons_zero, List.set_cons_succ, i64_w]
               rfl
              refine pure_ (i := 18) (N := some 165) (v := undef) (a' := ?_) b19MW rfl rfl (any_of HT_.out (by kernel_rfl)) (fun _ _ _ h => h) (Or.inr ⟨by rfl, rfl⟩) ?_ ?_
              rotate_left
              ·simp only [Act.put, List.setIfInBounds_toArray, List.set_cons_zero, List.set_cons_succ, i64_w]
               rfl
              refine pure_ (i := 19) (N := some 166) (v := undef) (a' := ?_) b20MW rfl rfl (any_of HT_.out (by kernel_rfl)) (fun _ _ _ h => h) (Or.inr ⟨by rfl, rfl⟩) ?_ ?_
              rotate_left
              ·simp only [Act.put, List.setIfInBounds_toArray, List.set_cons_zero, List.set_cons_succ, i64_w]
               rfl
              refine pure_ (i := 20) (N := some 167) (v := undef) (a' := ?_) b21MW rfl rfl (any_of HT_.out (by kernel_rfl)) (fun _ _ _ h => h) (Or.inr ⟨by rfl, rfl⟩) ?_ ?_
              rotate_left
              ·simp only [Act.put, List.setIfInBounds_toArray, List.set_cons_zero, List.set_cons_succ, i64_w]
               rfl
              refine pure_ (i := 21) (N := some 168) (v := ?_) (a' := ?_) b22MW rfl rfl (any_of HT_.out (by kernel_rfl)) (fun _ _ _ h => h) (Or.inl ⟨by rfl, ?_⟩) ?_ ?_
              rotate_left; (intro w'; go_simp; with_reducible rfl); rotate_left; (simp only [Act.put, List.setIfInBounds_toArray, List.set_cons_zero, List.set_cons_succ, i64_w]; rfl)
              refine done_ (done_of HT_.out (by kernel_rfl)) ?_
              try go_wp2
              go_ret
              exact ⟨by first | rfl | (simp [errW_none, errW_some] <;> rfl) | (simp only [← hji78]; first | rfl | (simp [errW_none, errW_some] <;> rfl)) | (simp [*, errW_none, errW_some] <;> rfl), by repeat (first | (with_reducible first | exact HB.out | apply below_alloc | apply pw_below_drewN | apply below_drew1) | exact HB.out)⟩
             ·as_aux_lemma =>
              rw [if_neg c82] at H
              have c82b0 : decide ((rd (rd_L1 t739 (ji78)) 2) ≤ (rd (rd_L1 t739 x19_3) 2)) = false := decide_eq_false c82
              clear c82
              replace H := Option.bind_eq_some_iff.mp H
              obtain ⟨t770, A840, H⟩ := H
              replace H : (if t770 = true then (laws_FnMarkovWords.l0 k3 l1 t736 t739 t747 t748 t751 (wrap64 ((t739.length : Int) - 1)) (wrap64 (x19_3 + 1))) else (some false)) = some r := H
              have A84 := Aside0.mk A840
              clear A840
              by_cases c85 : t770 = true
              ·as_aux_lemma =>
               subst c85
               have H1 : (laws_FnMarkovWords.l0 k3 l1 t736 t739 t747 t748 t751 (wrap64 ((t739.length : Int) - 1)) (wrap64 (x19_3 + 1))) = some r := by rw [if_pos rfl] at H; exact H
               clear H; have H := H1; clear H1
               have H' := Aside0.mk H
               clear H
               try go_wp2
               have n0_ := Aside0.mk (Kd.R_drew HO_5.out)
               have n1_ := Aside0.mk (Kd.S_drew HO_6.out)
               have n2_ := Aside0.mk (below_drew1 HB.out)
               clear HO_5; clear HO_6; clear HB; have HO_5 := n0_; have HO_6 := n1_; have HB := n2_; clear n0_ n1_ n2_
               have p765 : 0 ≤ (x19_3 : Int) := of_decide_eq_true (by first | (with_reducible assumption) | assumption)
               have q765 : x19_3 < (t739.length : Int) := of_decide_eq_true (by first | (with_reducible assumption) | assumption)
               obtain ⟨ad765, A765_0, c765_0, e765, hx765_0, hl765_0, hi765_0⟩ := at_L1 (Kd.S_reads' HO_6.out).2.2 x19_3 p765 q765
               cases e765
               obtain ⟨ce765, hce765, hMe765, hcc765⟩ := Kd.S_get HO_6.out [] x19_3 p765 (by first | exact q765 | exact of_decide_eq_true (by first | (with_reducible assumption) | assumption) | (have e_ := (Kd.S_reads' HO_6.out).1; omega))
               obtain ⟨ve765_0, rfl, ge765_0⟩ := hMe765
               have hv765_0 := hcc765 0 _ rfl
               rw [Nat.add_zero, show ((Kd.slice 3 (Kd.int .i64))).sz = 1 from rfl, Nat.mul_one] at hv765_0
               replace hv765_0 := Option.some.inj (hv765_0.symm.trans hx765_0)
               rw [hv765_0] at ge765_0
               have HL765_0 := Aside0.mk (show Kd.R (Kd.int .i64) 3 _ _ _ _ (rd_L1 t739 x19_3) from ge765_0)
               clear hv765_0 ge765_0; clear hcc765 hce765
               have HR765_0 := Aside0.mk hi765_0
               have HC765_0 := Aside0.mk hl765_0
               clear hi765_0 hl765_0; replace p765 := eq_true p765; replace q765 := eq_true q765
               have p766 : 0 ≤ (2 : Int) := (by omega)
               have q766 : 2 < ((rd_L1 t739 x19_3).length : Int) := of_decide_eq_true (by first | (with_reducible assumption) | assumption)
               obtain ⟨ad766, e766, hx766_0⟩ := Kd.at_int (by repeat (first | (with_reducible exact HR765_0.out) | (with_reducible refine Kd.C_alloc ?_ _) | (with_reducible refine Kd.C_drewN ?_ _) | (with_reducible refine Kd.C_drew ?_) | exact HR765_0.out)) 2 p766 q766
               cases e766
               (try simp only [show (2 : Int).toNat = 2 from rfl, Nat.reduceMul, Nat.reduceEqDiff, Go.Addr.add, ↓reduceIte] at hx766_0)
               have qi766 : (2 < (rd_L1 t739 x19_3).length) = True := eq_true (by omega)
               (try rw [show ((2 : Int)).toNat = 2 from rfl] at hx766_0)
               replace p766 := eq_true p766; replace q766 := eq_true q766
               have p767 : 0 ≤ ((ji78) : Int) := of_decide_eq_true (by first | (with_reducible assumption) | assumption)
               have q767 : (ji78) < (t739.length : Int) := of_decide_eq_true (by first | (with_reducible assumption) | assumption)
               obtain ⟨ad767, A767_0, c767_0, e767, hx767_0, hl767_0, hi767_0⟩ := at_L1 (Kd.S_reads' HO_6.out).2.2 (ji78) p767 q767
               obtain rfl : ad765 = ad767 := (by injection e767)
               obtain ⟨ce767, hce767, hMe767, hcc767⟩ := Kd.S_get HO_6.out [] (ji78) p767 (by first | exact q767 | exact of_decide_eq_true (by first | (with_reducible assumption) | assumption) | (have e_ := (Kd.S_reads' HO_6.out).1; omega))
               obtain ⟨ve767_0, rfl, ge767_0⟩ := hMe767
               have hv767_0 := hcc767 0 _ rfl
               rw [Nat.add_zero, show ((Kd.slice 3 (Kd.int .i64))).sz = 1 from rfl, Nat.mul_one] at hv767_0
               replace hv767_0 := Option.some.inj (hv767_0.symm.trans hx767_0)
               rw [hv767_0] at ge767_0
               have HL767_0 := Aside0.mk (show Kd.R (Kd.int .i64) 3 _ _ _ _ (rd_L1 t739 (ji78)) from ge767_0)
               clear hv767_0 ge767_0; clear hcc767 hce767
               have HR767_0 := Aside0.mk hi767_0
               have HC767_0 := Aside0.mk hl767_0
               clear hi767_0 hl767_0; replace p767 := eq_true p767; replace q767 := eq_true q767
               have p768 : 0 ≤ (2 : Int) := (by omega)
               have q768 : 2 < ((rd_L1 t739 (ji78)).length : Int) := of_decide_eq_true (by first | (with_reducible assumption) | assumption)
               obtain ⟨ad768, e768, hx768_0⟩ := Kd.at_int (by repeat (first | (with_reducible exact HR767_0.out) | (with_reducible refine Kd.C_alloc ?_ _) | (with_reducible refine Kd.C_drewN ?_ _) | (with_reducible refine Kd.C_drew ?_) | exact HR767_0.out)) 2 p768 q768
               cases e768
               (try simp only [show (2 : Int).toNat = 2 from rfl, Nat.reduceMul, Nat.reduceEqDiff, Go.Addr.add, ↓reduceIte] at hx768_0)
               have qi768 : (2 < (rd_L1 t739 (ji78)).length) = True := eq_true (by omega)
               (try rw [show ((2 : Int)).toNat = 2 from rfl] at hx768_0)
               replace p768 := eq_true p768; replace q768 := eq_true q768
               have p769 : 0 ≤ (x19_3 : Int) := of_decide_eq_true (by first | (with_reducible assumption) | assumption)
               have q769 : x19_3 < (t739.length : Int) := of_decide_eq_true (by first | (with_reducible assumption) | assumption)
               obtain ⟨ad769, A769_0, c769_0, e769, hx769_0, hl769_0, hi769_0⟩ := at_L1 (Kd.S_reads' HO_6.out).2.2 x19_3 p769 q769
               obtain rfl : ad765 = ad769 := (by injection e769)
               obtain ⟨ce769, hce769, hMe769, hcc769⟩ := Kd.S_get HO_6.out [] x19_3 p769 (by first | exact q769 | exact of_decide_eq_true (by first | (with_reducible assumption) | assumption) | (have e_ := (Kd.S_reads' HO_6.out).1; omega))
               obtain ⟨ve769_0, rfl, ge769_0⟩ := hMe769
               have hv769_0 := hcc769 0 _ rfl
               rw [Nat.add_zero, show ((Kd.slice 3 (Kd.int .i64))).sz = 1 from rfl, Nat.mul_one] at hv769_0
               replace hv769_0 := Option.some.inj (hv769_0.symm.trans hx769_0)
               rw [hv769_0] at ge769_0
               have HL769_0 := Aside0.mk (show Kd.R (Kd.int .i64) 3 _ _ _ _ (rd_L1 t739 x19_3) from ge769_0)
               clear hv769_0 ge769_0; clear hcc769 hce769
               have HR769_0 := Aside0.mk hi769_0
               have HC769_0 := Aside0.mk hl769_0
               clear hi769_0 hl769_0; replace p769 := eq_true p769; replace q769 := eq_true q769
               have ea_ := Option.some.inj (hx765_0.symm.trans hx769_0)
               injection ea_ with ea_ en_ ec_
               subst ea_; subst ec_; clear en_
               refine start_ (n := 22) (S := fun w' => w'.cell? (ad765.add (x19_3).toNat) = some (.slice (some ad766) (rd_L1 t739 x19_3).length c765_0) ∧ w'.cell? ⟨ad766.block, ad766.off + 2, none⟩ = some (.int .i64 (rd (rd_L1 t739 x19_3) 2)) ∧ w'.cell? (ad765.add ((ji78)).toNat) = some (.slice (some ad768) (rd_L1 t739 (ji78)).length c767_0) ∧ w'.cell? ⟨ad768.block, ad768.off + 2, none⟩ = some (.int .i64 (rd (rd_L1 t739 (ji78)) 2)) ∧ w'.cell? (ad765.add (x19_3).toNat) = some (.slice (some ad766) (rd_L1 t739 x19_3).length c765_0)) (ds := []) b0MW (by kernel_rfl) rfl rfl ⟨hx765_0, hx766_0, hx767_0, hx768_0, hx769_0⟩ (fun hHeld => ?_); refine with_tabW laws_FnMarkovWords.tab19 laws_FnMarkovWords.bits19 (fun HT_ HW_ => ?_)
               generalize wr.drew = w86 at HO_5 HO_6 HB HL765_0 HL767_0 HL769_0 HR765_0 HR767_0 HR769_0 hx765_0 hx766_0 hx767_0 hx768_0 hx769_0 hHeld ⊢
               refine pure_ (i := 0) (N := some 147) (v := ?_) (a' := ?_) b1MW rfl rfl (any_of HT_.out (by kernel_rfl)) (fun _ _ _ h => h) (Or.inl ⟨by rfl, ?_⟩) ?_ ?_
               rotate_left; (intro w'; go_simp; with_reducible rfl); rotate_left; (simp only [Act.put, List.setIfInBounds_toArray, List.set_cons_zero, List.set_cons_succ, i64_w]; rfl)
               refine pure_ (i := 1) (N := some 148) (v := ?_) (a' := ?_) b2MW rfl rfl (any_of HT_.out (by kernel_rfl)) (fun _ _ _ h => h) (Or.inl ⟨by rfl, ?_⟩) ?_ ?_
               rotate_left; (intro w'; go_simp; with_reducible rfl); rotate_left; (simp only [Act.put, List.setIfInBounds_toArray, List.set_cons_zero, List.set_cons_succ, i64_w]; rfl)
               refine pure_ (i := 2) (N := some 149) (v := ?_) (a' := ?_) b3MW rfl rfl (any_of HT_.out (by kernel_rfl)) (fun _ _ _ h => h) (Or.inl ⟨by rfl, ?_⟩) ?_ ?_
               rotate_left; (intro w'; go_simp; with_reducible rfl); rotate_left; (simp only [Act.put, List.setIfInBounds_toArray, List.set_cons_zero, List.set_cons_succ, i64_w]; rfl)
               refine pure_ (i := 6) (N := some 153) (v := ?_) (a' := ?_) b4MW rfl rfl (any_of HT_.out (by kernel_rfl)) (fun _ _ _ h => h) (Or.inl ⟨by rfl, ?_⟩) ?_ ?_
               rotate_left; (intro w'; go_simp; with_reducible rfl); rotate_left; (simp only [Act.put, List.setIfInBounds_toArray, List.set_cons_zero, List.set_cons_succ, i64_w]; rfl)
               refine pure_ (i := 7) (N := some 154) (v := ?_) (a' := ?_) b5MW rfl rfl (any_of HT_.out (by kernel_rfl)) (fun _ _ _ h => h) (Or.inl ⟨by rfl, ?_⟩) ?_ ?_
               rotate_left; (intro w'; go_simp; with_reducible rfl); rotate_left; (simp only [Act.put, List.setIfInBounds_toArray, List.set_cons_zero, List.set_cons_succ, i64_w]; rfl)
               refine pure_ (i := 8) (N := some 155) (v := ?_) (a' := ?_) b6MW rfl rfl (any_of HT_.out (by kernel_rfl)) (fun _ _ _ h => h) (Or.inl ⟨by rfl, ?_⟩) ?_ ?_
               rotate_left; (intro w'; go_simp; with_reducible rfl); rotate_left; (simp only [Act.put, List.setIfInBounds_toArray, List.set_cons_zero, List.set_cons_succ, i64_w]; rfl)
               refine pure_ (i := 9) (N := some 156) (v := ?_) (a' := ?_) b7MW rfl rfl (any_of HT_.out (by kernel_rfl)) (fun _ _ _ h => h) (Or.inl ⟨by rfl, ?_⟩) ?_ ?_
               rotate_left; (intro w'; go_simp; with_reducible rfl); rotate_left; (simp only [Act.put, List.setIfInBounds_toArray, List.set_cons_zero, List.set_cons_succ, i64_w]; rfl)
               refine take_ (i := 3) (N := some 150) (v := ?_) (a' := ?_) b8MW rfl rfl (take_ofW HT_.out HW_.out (by kernel_rfl)) (fun _ _ _ h => h) (Or.inl ⟨by rfl, ?_⟩) hHeld ?_ ?_
               rotate_left
               ·rintro w' ⟨s0, s1, s2, s3, s4⟩
                go_simp
                with_reducible rfl
               rotate_left
               ·simp only [Act.put, List.setIfInBounds_toArray, List.set_cons_zero, List.set_cons_succ, i64_w]
                rfl
               refine pure_ (i := 4) (N := some 151) (v := ?_) (a' := ?_) b9MW rfl rfl (any_of HT_.out (by kernel_rfl)) (fun _ _ _ h => h) (Or.inl ⟨by rfl, ?_⟩) ?_ ?_
               rotate_left; (intro w'; go_simp; with_reducible rfl); rotate_left; (simp only [Act.put, List.setIfInBounds_toArray, List.set_cons_zero, List.set_cons_succ, i64_w]; rfl)
               refine take_ (i := 5) (N := some 152) (v := ?_) (a' := ?_) b10MW rfl rfl (take_ofW HT_.out HW_.out (by kernel_rfl)) (fun _ _ _ h => h) (Or.inl ⟨by rfl, ?_⟩) hHeld ?_ ?_
               rotate_left
               ·rintro w' ⟨s0, s1, s2, s3, s4⟩
                go_simp
                with_reducible rfl
               rotate_left
               ·simp only [Act.put, List.setIfInBounds_toArray, List.set_cons_zero, List.set_cons_succ, i64_w]
                rfl
               refine take_ (i := 10) (N := some 157) (v := ?_) (a' := ?_) b11MW rfl rfl (take_ofW HT_.out HW_.out (by kernel_rfl)) (fun _ _ _ h => h) (Or.inl ⟨by rfl, ?_⟩) hHeld ?_ ?_
               rotate_left
               ·rintro w' ⟨s0, s1, s2, s3, s4⟩
                go_simp
                with_reducible rfl
               rotate_left
               ·simp only [Act.put, List.setIfInBounds_toArray, List.set_cons_zero, List.set_cons_succ, i64_w]
                rfl
               refine pure_ (i := 11) (N := some 158) (v := ?_) (a' := ?_) b12MW rfl rfl (any_of HT_.out (by kernel_rfl)) (fun _ _ _ h => h) (Or.inl ⟨by rfl, ?_⟩) ?_ ?_
               rotate_left; (intro w'; go_simp; with_reducible rfl); rotate_left; (simp only [Act.put, List.setIfInBounds_toArray, List.set_cons_zero, List.set_cons_succ, i64_w]; rfl)
               refine take_ (i := 12) (N := some 159) (v := ?_) (a' := ?_) b13MW rfl rfl (take_ofW HT_.out HW_.out (by kernel_rfl)) (fun _ _ _ h => h) (Or.inl ⟨by rfl, ?_⟩) hHeld ?_ ?_
               rotate_left
               ·rintro w' ⟨s0, s1, s2, s3, s4⟩
                go_simp
                with_reducible rfl
               rotate_left
               ·simp only [Act.put, List.setIfInBounds_toArray, List.set_cons_zero, List.set_cons_succ, i64_w]
                rfl
               refine pure_ (i := 13) (N := some 160) (v := ?_) (a' := ?_) b14MW rfl rfl (any_of HT_.out (by kernel_rfl)) (fun _ _ _ h => h) (Or.inl ⟨by rfl, ?_⟩) ?_ ?_
               rotate_left; (intro w'; go_simp; with_reducible rfl); rotate_left; (simp only [Act.put, List.setIfInBounds_toArray, List.set_cons_zero, List.set_cons_succ, i64_w]; rfl)
               refine pure_ (i := 14) (N := some 161) (v := ?_) (a' := ?_) b15MW rfl rfl (any_of HT_.out (by kernel_rfl)) (fun _ _ _ h => h) (Or.inl ⟨by rfl, ?_⟩) ?_ ?_
               rotate_left; (intro w'; go_simp; with_reducible rfl); rotate_left; (simp only [Act.put, List.setIfInBounds_toArray, List.set_cons_zero, List.set_cons_succ, i64_w]; rfl)
               refine pure_ (i := 15) (N := some 162) (v := ?_) (a' := ?_) b16MW rfl rfl (any_of HT_.out (by kernel_rfl)) (fun _ _ _ h => h) (Or.inl ⟨by rfl, ?_⟩) ?_ ?_
               rotate_left; (intro w'; go_simp; with_reducible rfl); rotate_left; (simp only [Act.put, List.setIfInBounds_toArray, List.set_cons_zero, List.set_cons_succ, i64_w]; rfl)
               refine pure_ (i := 16) (N := some 163) (v := ?_) (a' := ?_) b17MW rfl rfl (any_of HT_.out (by kernel_rfl)) (fun _ _ _ h => h) (Or.inl ⟨by rfl, ?_⟩) ?_ ?_
               rotate_left; (intro w'; go_simp; with_reducible rfl); rotate_left; (simp only [Act.put, List.setIfInBounds_toArray, List.set_cons_zero, List.set_cons_succ, i64_w]; rfl)
               refine pure_ (i := 17) (N := some 164) (v := ?_) (a' := ?_) b18MW rfl rfl (any_of HT_.out (by kernel_rfl)) (fun _ _ _ h => h) (Or.inl ⟨by rfl, ?_⟩) ?_ ?_
               rotate_left; (intro w'; go_simp; with_reducible rfl); rotate_left; (simp only [Act.put, List.setIfInBounds_toArray, List.set_cons_zero, List.set_cons_succ, i64_w]; rfl)
               refine take_ (i := 18) (N := some 165) (v := ?_) (a' := ?_) b19MW rfl rfl (take_ofW HT_.out HW_.out (by kernel_rfl)) (fun _ _ _ h => h) (Or.inl ⟨by rfl, ?_⟩) hHeld ?_ ?_
               rotate_left
               ·rintro w' ⟨s0, s1, s2, s3, s4⟩
                go_simp
                with_reducible rfl
               rotate_left
               ·simp only [Act.put, List.setIfInBounds_toArray, List.set_cons_zero, List.set_cons_succ, i64_w]
                rfl
               refine one_ (i := 19) (N := some 166) b20MW rfl rfl (one_of HT_.out (by kernel_rfl)) (by decide) (fun K hK => ?_)
               refine goes_ Try.func48 (by kernel_rfl) rfl #[.slice (some ad766) (rd_L1 t739 x19_3).length c765_0] (by rfl) rfl rfl (by (try simp only [List.map_toArray, List.map_cons, List.map_nil]); first | done | rfl) ?_
               with_reducible refine (impl_IsMarkov.calls k3 _ _ (rd_L1 t739 x19_3) true _ ?side1 ?side2 A84.out).mono ?_
               (case side1 => first | (obtain ⟨ad_, A_, c_, e_, hx_, hl_, hi_⟩ := at_L1 (Kd.S_reads' HO_6.out).2.2 x19_3 (of_eq_true p769) (of_eq_true q769); cases e_; have hq_ := hx_.symm.trans hHeld; injection hq_ with hq_; injection hq_ with e1_ e2_ e3_; subst e1_; exact hi_) | (obtain ⟨ad_, A_, c_, e_, hx_, hl_, hi_⟩ := at_L1 (Kd.S_reads' HO_6.out).2.2 x19_3 (of_eq_true p769) (of_eq_true q769); cases e_; have hq_ := hx_.symm.trans hHeld.1; injection hq_ with hq_; injection hq_ with e1_ e2_ e3_; subst e1_; exact hi_) | (obtain ⟨ad_, A_, c_, e_, hx_, hl_, hi_⟩ := at_L1 (Kd.S_reads' HO_6.out).2.2 x19_3 (of_eq_true p769) (of_eq_true q769); cases e_; have hq_ := hx_.symm.trans hHeld.2; injection hq_ with hq_; injection hq_ with e1_ e2_ e3_; subst e1_; exact hi_) | (repeat (first | exact (by repeat (first | (with_reducible exact HR769_0.out) | (with_reducible refine Kd.C_alloc ?_ _) | (with_reducible refine Kd.C_drewN ?_ _) | (with_reducible refine Kd.C_drew ?_) | exact HR769_0.out)) | (with_reducible refine Kd.C_alloc ?_ _) | (with_reducible refine Kd.C_drewN ?_ _) | (with_reducible refine Kd.C_drew ?_))))
               (case side2 => exact HC769_0.out)
               rintro e w87 ⟨rfl, hb⟩
               have HS0_ := (hb.cell (World.block_lt_of_cell? _ _ (hHeld.1))).trans (hHeld.1)
               have HS1_ := (hb.cell (World.block_lt_of_cell? _ _ (hHeld.2.1))).trans (hHeld.2.1)
               have HS2_ := (hb.cell (World.block_lt_of_cell? _ _ (hHeld.2.2.1))).trans (hHeld.2.2.1)
               have HS3_ := (hb.cell (World.block_lt_of_cell? _ _ (hHeld.2.2.2.1))).trans (hHeld.2.2.2.1)
               have HS4_ := (hb.cell (World.block_lt_of_cell? _ _ (hHeld.2.2.2.2))).trans (hHeld.2.2.2.2)
               refine ⟨_, rfl, ?_⟩
               have n0_ := Aside0.mk (Kd.R_below (by (with_reducible repeat (first | apply Kd.R_alloc | apply Kd.R_drewN | apply Kd.R_drew)); exact HO_5.out) hb)
               have n1_ := Aside0.mk (Kd.S_below (by (with_reducible repeat (first | apply Kd.S_alloc | apply Kd.S_drewN | apply Kd.S_drew)); exact HO_6.out) hb)
               have n2_ := Aside0.mk (Kd.R_below (by (with_reducible repeat (first | apply Kd.R_alloc | apply Kd.R_drewN | apply Kd.R_drew)); exact HL765_0.out) hb)
               have n3_ := Aside0.mk (Kd.R_below (by (with_reducible repeat (first | apply Kd.R_alloc | apply Kd.R_drewN | apply Kd.R_drew)); exact HL767_0.out) hb)
               have n4_ := Aside0.mk (Kd.R_below (by (with_reducible repeat (first | apply Kd.R_alloc | apply Kd.R_drewN | apply Kd.R_drew)); exact HL769_0.out) hb)
               have n5_ := Aside0.mk (Kd.C_below (by repeat (first | (with_reducible exact HR765_0.out) | (with_reducible refine Kd.C_alloc ?_ _) | (with_reducible refine Kd.C_drewN ?_ _) | (with_reducible refine Kd.C_drew ?_) | exact HR765_0.out)) hb)
               have n6_ := Aside0.mk (Kd.C_below (by repeat (first | (with_reducible exact HR767_0.out) | (with_reducible refine Kd.C_alloc ?_ _) | (with_reducible refine Kd.C_drewN ?_ _) | (with_reducible refine Kd.C_drew ?_) | exact HR767_0.out)) hb)
               have n7_ := Aside0.mk (Kd.C_below (by repeat (first | (with_reducible exact HR769_0.out) | (with_reducible refine Kd.C_alloc ?_ _) | (with_reducible refine Kd.C_drewN ?_ _) | (with_reducible refine Kd.C_drew ?_) | exact HR769_0.out)) hb)
               have n8_ := Aside0.mk (below_step (by repeat (first | (with_reducible first | exact HB.out | apply below_alloc | apply pw_below_drewN | apply below_drew1) | exact HB.out)) hb)
               clear HO_5; clear HO_6; clear HL765_0; clear HL767_0; clear HL769_0; clear HR765_0; clear HR767_0; clear HR769_0; clear HB; have HO_5 := n0_; have HO_6 := n1_; have HL765_0 := n2_; have HL767_0 := n3_; have HL769_0 := n4_; have HR765_0 := n5_; have HR767_0 := n6_; have HR769_0 := n7_; have HB := n8_; clear n0_ n1_ n2_ n3_ n4_ n5_ n6_ n7_ n8_; (try clear hb); (try clear hb2); (try clear hk); (try clear hi)
               refine hK.out _ _ ⟨HS0_, HS1_, HS2_, HS3_, HS4_⟩ (fun hHeld => ?_)
               clear hK K
               refine norm_ (a' := ?_) ?_ ?_
               rotate_left
               ·show Act.put _ (some 166) _ = _
                simp only [Act.put, List.setIfInBounds_toArray, List.set_cons_zero, List.set_cons_succ, i64_w]
                rfl
               refine pure_ (i := 20) (N := some 167) (v := ?_) (a' := ?_) b21MW rfl rfl (any_of HT_.out (by kernel_rfl)) (fun _ _ _ h => h) (Or.inl ⟨by rfl, ?_⟩) ?_ ?_
               rotate_left; (intro w'; go_simp; with_reducible rfl); rotate_left; (simp only [Act.put, List.setIfInBounds_toArray, List.set_cons_zero, List.set_cons_succ, i64_w]; rfl)
               refine pure_ (i := 21) (N := some 168) (v := ?_) (a' := ?_) b22MW rfl rfl (any_of HT_.out (by kernel_rfl)) (fun _ _ _ h => h) (Or.inl ⟨by rfl, ?_⟩) ?_ ?_
               rotate_left; (intro w'; go_simp; with_reducible rfl); rotate_left; (simp only [Act.put, List.setIfInBounds_toArray, List.set_cons_zero, List.set_cons_succ, i64_w]; rfl)
               refine done_ (done_of HT_.out (by kernel_rfl)) ?_
               try go_wp2
               go_roundg k3
               case measure => have := HJ11.out; have := HJ47.out; have := HK3.out; omega
               case rel => exact ⟨(wrap64 (x19_3 + 1)), (by first | rfl | (simp; done) | (simp [*]; done)), H', ⟨by have := HJ11.out; have := HJ47.out; have := HK3.out; omega⟩, ⟨by (with_reducible repeat (first | apply Kd.R_alloc | apply Kd.R_drewN | apply Kd.R_drew)); exact HO_5.out⟩, ⟨by (with_reducible repeat (first | apply Kd.S_alloc | apply Kd.S_drewN | apply Kd.S_drew)); exact HO_6.out⟩, ⟨by repeat (first | (with_reducible first | exact HB.out | apply below_alloc | apply pw_below_drewN | apply below_drew1) | exact HB.out)⟩⟩
              ·as_aux_lemma =>
               replace c85 := Bool.eq_false_iff.mpr c85
               subst c85
               have H1 : (some false) = some r := by rw [if_neg (show ¬ (false = true) by decide)] at H; exact H
               clear H; have H := H1; clear H1
               obtain rfl := Option.some.inj H
               try go_wp2
               have n0_ := Aside0.mk (Kd.R_drew HO_5.out)
               have n1_ := Aside0.mk (Kd.S_drew HO_6.out)
               have n2_ := Aside0.mk (below_drew1 HB.out)
               clear HO_5; clear HO_6; clear HB; have HO_5 := n0_; have HO_6 := n1_; have HB := n2_; clear n0_ n1_ n2_
               have p765 : 0 ≤ (x19_3 : Int) := of_decide_eq_true (by first | (with_reducible assumption) | assumption)
               have q765 : x19_3 < (t739.length : Int) := of_decide_eq_true (by first | (with_reducible assumption) | assumption)
               obtain ⟨ad765, A765_0, c765_0, e765, hx765_0, hl765_0, hi765_0⟩ := at_L1 (Kd.S_reads' HO_6.out).2.2 x19_3 p765 q765
               cases e765
               obtain ⟨ce765, hce765, hMe765, hcc765⟩ := Kd.S_get HO_6.out [] x19_3 p765 (by first | exact q765 | exact of_decide_eq_true (by first | (with_reducible assumption) | assumption) | (have e_ := (Kd.S_reads' HO_6.out).1; omega))
               obtain ⟨ve765_0, rfl, ge765_0⟩ := hMe765
               have hv765_0 := hcc765 0 _ rfl
               rw [Nat.add_zero, show ((Kd.slice 3 (Kd.int .i64))).sz = 1 from rfl, Nat.mul_one] at hv765_0
               replace hv765_0 := Option.some.inj (hv765_0.symm.trans hx765_0)
               rw [hv765_0] at ge765_0
               have HL765_0 := Aside0.mk (show Kd.R (Kd.int .i64) 3 _ _ _ _ (rd_L1 t739 x19_3) from ge765_0)
               clear hv765_0 ge765_0; clear hcc765 hce765
               have HR765_0 := Aside0.mk hi765_0
               have HC765_0 := Aside0.mk hl765_0
               clear hi765_0 hl765_0; replace p765 := eq_true p765; replace q765 := eq_true q765
               have p766 : 0 ≤ (2 : Int) := (by omega)
               have q766 : 2 < ((rd_L1 t739 x19_3).length : Int) := of_decide_eq_true (by first | (with_reducible assumption) | assumption)
               obtain ⟨ad766, e766, hx766_0⟩ := Kd.at_int (by repeat (first | (with_reducible exact HR765_0.out) | (with_reducible refine Kd.C_alloc ?_ _) | (with_reducible refine Kd.C_drewN ?_ _) | (with_reducible refine Kd.C_drew ?_) | exact HR765_0.out)) 2 p766 q766
               cases e766
               (try simp only [show (2 : Int).toNat = 2 from rfl, Nat.reduceMul, Nat.reduceEqDiff, Go.Addr.add, ↓reduceIte] at hx766_0)
               have qi766 : (2 < (rd_L1 t739 x19_3).length) = True := eq_true (by omega)
               (try rw [show ((2 : Int)).toNat = 2 from rfl] at hx766_0)
               replace p766 := eq_true p766; replace q766 := eq_true q766
               have p767 : 0 ≤ ((ji78) : Int) := of_decide_eq_true (by first | (with_reducible assumption) | assumption)
               have q767 : (ji78) < (t739.length : Int) := of_decide_eq_true (by first | (with_reducible assumption) | assumption)
               obtain ⟨ad767, A767_0, c767_0, e767, hx767_0, hl767_0, hi767_0⟩ := at_L1 (Kd.S_reads' HO_6.out).2.2 (ji78) p767 q767
               obtain rfl : ad765 = ad767 := (by injection e767)
               obtain ⟨ce767, hce767, hMe767, hcc767⟩ := Kd.S_get HO_6.out [] (ji78) p767 (by first | exact q767 | exact of_decide_eq_true (by first | (with_reducible assumption) | assumption) | (have e_ := (Kd.S_reads' HO_6.out).1; omega))
               obtain ⟨ve767_0, rfl, ge767_0⟩ := hMe767
               have hv767_0 := hcc767 0 _ rfl
               rw [Nat.add_zero, show ((Kd.slice 3 (Kd.int .i64))).sz = 1 from rfl, Nat.mul_one] at hv767_0
               replace hv767_0 := Option.some.inj (hv767_0.symm.trans hx767_0)
               rw [hv767_0] at ge767_0
               have HL767_0 := Aside0.mk (show Kd.R (Kd.int .i64) 3 _ _ _ _ (rd_L1 t739 (ji78)) from ge767_0)
               clear hv767_0 ge767_0; clear hcc767 hce767
               have HR767_0 := Aside0.mk hi767_0
               have HC767_0 := Aside0.mk hl767_0
               clear hi767_0 hl767_0; replace p767 := eq_true p767; replace q767 := eq_true q767
               have p768 : 0 ≤ (2 : Int) := (by omega)
               have q768 : 2 < ((rd_L1 t739 (ji78)).length : Int) := of_decide_eq_true (by first | (with_reducible assumption) | assumption)
               obtain ⟨ad768, e768, hx768_0⟩ := Kd.at_int (by repeat (first | (with_reducible exact HR767_0.out) | (with_reducible refine Kd.C_alloc ?_ _) | (with_reducible refine Kd.C_drewN ?_ _) | (with_reducible refine Kd.C_drew ?_) | exact HR767_0.out)) 2 p768 q768
               cases e768
               (try simp only [show (2 : Int).toNat = 2 from rfl, Nat.reduceMul, Nat.reduceEqDiff, Go.Addr.add, ↓reduceIte] at hx768_0)
               have qi768 : (2 < (rd_L1 t739 (ji78)).length) = True := eq_true (by omega)
               (try rw [show ((2 : Int)).toNat = 2 from rfl] at hx768_0)
               replace p768 := eq_true p768; replace q768 := eq_true q768
               have p769 : 0 ≤ (x19_3 : Int) := of_decide_eq_true (by first | (with_reducible assumption) | assumption)
               have q769 : x19_3 < (t739.length : Int) := of_decide_eq_true (by first | (with_reducible assumption) | assumption)
               obtain ⟨ad769, A769_0, c769_0, e769, hx769_0, hl769_0, hi769_0⟩ := at_L1 (Kd.S_reads' HO_6.out).2.2 x19_3 p769 q769
               obtain rfl : ad765 = ad769 := (by injection e769)
               obtain ⟨ce769, hce769, hMe769, hcc769⟩ := Kd.S_get HO_6.out [] x19_3 p769 (by first | exact q769 | exact of_decide_eq_true (by first | (with_reducible assumption) | assumption) | (have e_ := (Kd.S_reads' HO_6.out).1; omega))
               obtain ⟨ve769_0, rfl, ge769_0⟩ := hMe769
               have hv769_0 := hcc769 0 _ rfl
               rw [Nat.add_zero, show ((Kd.slice 3 (Kd.int .i64))).sz = 1 from rfl, Nat.mul_one] at hv769_0
               replace hv769_0 := Option.some.inj (hv769_0.symm.trans hx769_0)
               rw [hv769_0] at ge769_0
               have HL769_0 := Aside0.mk (show Kd.R (Kd.int .i64) 3 _ _ _ _ (rd_L1 t739 x19_3) from ge769_0)
               clear hv769_0 ge769_0; clear hcc769 hce769
               have HR769_0 := Aside0.mk hi769_0
               have HC769_0 := Aside0.mk hl769_0
               clear hi769_0 hl769_0; replace p769 := eq_true p769; replace q769 := eq_true q769
               have ea_ := Option.some.inj (hx765_0.symm.trans hx769_0)
               injection ea_ with ea_ en_ ec_
               subst ea_; subst ec_; clear en_
               refine start_ (n := 22) (S := fun w' => w'.cell? (ad765.add (x19_3).toNat) = some (.slice (some ad766) (rd_L1 t739 x19_3).length c765_0) ∧ w'.cell? ⟨ad766.block, ad766.off + 2, none⟩ = some (.int .i64 (rd (rd_L1 t739 x19_3) 2)) ∧ w'.cell? (ad765.add ((ji78)).toNat) = some (.slice (some ad768) (rd_L1 t739 (ji78)).length c767_0) ∧ w'.cell? ⟨ad768.block, ad768.off + 2, none⟩ = some (.int .i64 (rd (rd_L1 t739 (ji78)) 2)) ∧ w'.cell? (ad765.add (x19_3).toNat) = some (.slice (some ad766) (rd_L1 t739 x19_3).length c765_0)) (ds := []) b0MW (by kernel_rfl) rfl rfl ⟨hx765_0, hx766_0, hx767_0, hx768_0, hx769_0⟩ (fun hHeld => ?_); refine with_tabW laws_FnMarkovWords.tab19 laws_FnMarkovWords.bits19 (fun HT_ HW_ => ?_)
               generalize wr.drew = w88 at HO_5 HO_6 HB HL765_0 HL767_0 HL769_0 HR765_0 HR767_0 HR769_0 hx765_0 hx766_0 hx767_0 hx768_0 hx769_0 hHeld ⊢
               refine pure_ (i := 0) (N := some 147) (v := ?_) (a' := ?_) b1MW rfl rfl (any_of HT_.out (by kernel_rfl)) (fun _ _ _ h => h) (Or.inl ⟨by rfl, ?_⟩) ?_ ?_
               rotate_left; (intro w'; go_simp; with_reducible rfl); rotate_left; (simp only [Act.put, List.setIfInBounds_toArray, List.set_cons_zero, List.set_cons_succ, i64_w]; rfl)
               refine pure_ (i := 1) (N := some 148) (v := ?_) (a' := ?_) b2MW rfl rfl (any_of HT_.out (by kernel_rfl)) (fun _ _ _ h => h) (Or.inl ⟨by rfl, ?_⟩) ?_ ?_
               rotate_left; (intro w'; go_simp; with_reducible rfl); rotate_left; (simp only [Act.put, List.setIfInBounds_toArray, List.set_cons_zero, List.set_cons_succ, i64_w]; rfl)
               refine pure_ (i := 2) (N := some 149) (v := ?_) (a' := ?_) b3MW rfl rfl (any_of HT_.out (by kernel_rfl)) (fun _ _ _ h => h) (Or.inl ⟨by rfl, ?_⟩) ?_ ?_
               rotate_left; (intro w'; go_simp; with_reducible rfl); rotate_left; (simp only [Act.put, List.setIfInBounds_toArray, List.set_cons_zero, List.set_cons_succ, i64_w]; rfl)
               refine pure_ (i := 6) (N := some 153) (v := ?_) (a' := ?_) b4MW rfl rfl (any_of HT_.out (by kernel_rfl)) (fun _ _ _ h => h) (Or.inl ⟨by rfl, ?_⟩) ?_ ?_
               rotate_left; (intro w'; go_simp; with_reducible rfl); rotate_left; (simp only [Act.put, List.setIfInBounds_toArray, List.set_cons_zero, List.set_cons_succ, i64_w]; rfl)
               refine pure_ (i := 7) (N := some 154) (v := ?_) (a' := ?_) b5MW rfl rfl (any_of HT_.out (by kernel_rfl)) (fun _ _ _ h => h) (Or.inl ⟨by rfl, ?_⟩) ?_ ?_
               rotate_left; (intro w'; go_simp; with_reducible rfl); rotate_left; (simp only [Act.put, List.setIfInBounds_toArray, List.set_cons_zero, List.set_cons_succ, i64_w]; rfl)
               refine pure_ (i := 8) (N := some 155) (v := ?_) (a' := ?_) b6MW rfl rfl (any_of HT_.out (by kernel_rfl)) (fun _ _ _ h => h) (Or.inl ⟨by rfl, ?_⟩) ?_ ?_
               rotate_left; (intro w'; go_simp; with_reducible rfl); rotate_left; (simp only [Act.put, List.setIfInBounds_toArray, List.set_cons_zero, List.set_cons_succ, i64_w]; rfl)
               refine pure_ (i := 9) (N := some 156) (v := ?_) (a' := ?_) b7MW rfl rfl (any_of HT_.out (by kernel_rfl)) (fun _ _ _ h => h) (Or.inl ⟨by rfl, ?_⟩) ?_ ?_
               rotate_left; (intro w'; go_simp; with_reducible rfl); rotate_left; (simp only [Act.put, List.setIfInBounds_toArray, List.set_cons_zero, List.set_cons_succ, i64_w]; rfl)
               refine take_ (i := 3) (N := some 150) (v := ?_) (a' := ?_) b8MW rfl rfl (take_ofW HT_.out HW_.out (by kernel_rfl)) (fun _ _ _ h => h) (Or.inl ⟨by rfl, ?_⟩) hHeld ?_ ?_
               rotate_left
               ·rintro w' ⟨s0, s1, s2, s3, s4⟩
                go_simp
                with_reducible rfl
               rotate_left
               ·simp only [Act.put, List.setIfInBounds_toArray, List.set_cons_zero, List.set_cons_succ, i64_w]
                rfl
               refine pure_ (i := 4) (N := some 151) (v := ?_) (a' := ?_) b9MW rfl rfl (any_of HT_.out (by kernel_rfl)) (fun _ _ _ h => h) (Or.inl ⟨by rfl, ?_⟩) ?_ ?_
               rotate_left; (intro w'; go_simp; with_reducible rfl); rotate_left; (simp only [Act.put, List.setIfInBounds_toArray, List.set_cons_zero, List.set_cons_succ, i64_w]; rfl)
               refine take_ (i := 5) (N := some 152) (v := ?_) (a' := ?_) b10MW rfl rfl (take_ofW HT_.out HW_.out (by kernel_rfl)) (fun _ _ _ h => h) (Or.inl ⟨by rfl, ?_⟩) hHeld ?_ ?_
               rotate_left
               ·rintro w' ⟨s0, s1, s2, s3, s4⟩
                go_simp
                with_reducible rfl
               rotate_left
               ·simp only [Act.put, List.setIfInBounds_toArray, List.set_cons_zero, List.set_cons_succ, i64_w]
                rfl
               refine take_ (i := 10) (N := some 157) (v := ?_) (a' := ?_) b11MW rfl rfl (take_ofW HT_.out HW_.out (by kernel_rfl)) (fun _ _ _ h => h) (Or.inl ⟨by rfl, ?_⟩) hHeld ?_ ?_
               rotate_left
               ·rintro w' ⟨s0, s1, s2, s3, s4⟩
                go_simp
                with_reducible rfl
               rotate_left
               ·simp only [Act.put, List.setIfInBounds_toArray, List.set_cons_zero, List.set_cons_succ, i64_w]
                rfl
               refine pure_ (i := 11) (N := some 158) (v := ?_) (a' := ?_) b12MW rfl rfl (any_of HT_.out (by kernel_rfl)) (fun _ _ _ h => h) (Or.inl ⟨by rfl, ?_⟩) ?_ ?_
               rotate_left; (intro w'; go_simp; with_reducible rfl); rotate_left; (simp only [Act.put, List.setIfInBounds_toArray, List.set_cons_zero, List.set_cons_succ, i64_w]; rfl)
               refine take_ (i := 12) (N := some 159) (v := ?_) (a' := ?_) b13MW rfl rfl (take_ofW HT_.out HW_.out (by kernel_rfl)) (fun _ _ _ h => h) (Or.inl ⟨by rfl, ?_⟩) hHeld ?_ ?_
               rotate_left
               ·rintro w' ⟨s0, s1, s2, s3, s4⟩
                go_simp
                with_reducible rfl
               rotate_left
               ·simp only [Act.put, List.setIfInBounds_toArray, List.set_cons_zero, List.set_cons_succ, i64_w]
                rfl
               refine pure_ (i := 13) (N := some 160) (v := ?_) (a' := ?_) b14MW rfl rfl (any_of HT_.out (by kernel_rfl)) (fun _ _ _ h => h) (Or.inl ⟨by rfl, ?_⟩) ?_ ?_
               rotate_left; (intro w'; go_simp; with_reducible rfl); rotate_left; (simp only [Act.put, List.setIfInBounds_toArray, List.set_cons_zero, List.set_cons_succ, i64_w]; rfl)
               refine pure_ (i := 14) (N := some 161) (v := ?_) (a' := ?_) b15MW rfl rfl (any_of HT_.out (by kernel_rfl)) (fun _ _ _ h => h) (Or.inl ⟨by rfl, ?_⟩) ?_ ?_
               rotate_left; (intro w'; go_simp; with_reducible rfl); rotate_left; (simp only [Act.put, List.setIfInBounds_toArray, List.set_cons_zero, List.set_cons_succ, i64_w]; rfl)
               refine pure_ (i := 15) (N := some 162) (v := ?_) (a' := ?_) b16MW rfl rfl (any_of HT_.out (by kernel_rfl)) (fun _ _ _ h => h) (Or.inl ⟨by rfl, ?_⟩) ?_ ?_
               rotate_left; (intro w'; go_simp; with_reducible rfl); rotate_left; (simp only [Act.put, List.setIfInBounds_toArray, List.set_cons_zero, List.set_cons_succ, i64_w]; rfl)
               refine pure_ (i := 16) (N := some 163) (v := ?_) (a' := ?_) b17MW rfl rfl (any_of HT_.out (by kernel_rfl)) (fun _ _ _ h => h) (Or.inl ⟨by rfl, ?_⟩) ?_ ?_
               rotate_left; (intro w'; go_simp; with_reducible rfl); rotate_left; (simp only [Act.put, List.setIfInBounds_toArray, List.set_cons_zero, List.set_cons_succ, i64_w]; rfl)
               refine pure_ (i := 17) (N := some 164) (v := ?_) (a' := ?_) b18MW rfl rfl (any_of HT_.out (by kernel_rfl)) (fun _ _ _ h => h) (Or.inl ⟨by rfl, ?_⟩) ?_ ?_
               rotate_left; (intro w'; go_simp; with_reducible rfl); rotate_left; (simp only [Act.put, List.setIfInBounds_toArray, List.set_cons_zero, List.set_cons_succ, i64_w]; rfl)
               refine take_ (i := 18) (N := some 165) (v := ?_) (a' := ?_) b19MW rfl rfl (take_ofW HT_.out HW_.out (by kernel_rfl)) (fun _ _ _ h => h) (Or.inl ⟨by rfl, ?_⟩) hHeld ?_ ?_
               rotate_left
               ·rintro w' ⟨s0, s1, s2, s3, s4⟩
                go_simp
                with_reducible rfl
               rotate_left
               ·simp only [Act.put, List.setIfInBounds_toArray, List.set_cons_zero, List.set_cons_succ, i64_w]
                rfl
               refine one_ (i := 19) (N := some 166) b20MW rfl rfl (one_of HT_.out (by kernel_rfl)) (by decide) (fun K hK => ?_)
               refine goes_ Try.func48 (by kernel_rfl) rfl #[.slice (some ad766) (rd_L1 t739 x19_3).length c765_0] (by rfl) rfl rfl (by (try simp only [List.map_toArray, List.map_cons, List.map_nil]); first | done | rfl) ?_
               with_reducible refine (impl_IsMarkov.calls k3 _ _ (rd_L1 t739 x19_3) false _ ?side1 ?side2 A84.out).mono ?_
               (case side1 => first | (obtain ⟨ad_, A_, c_, e_, hx_, hl_, hi_⟩ := at_L1 (Kd.S_reads' HO_6.out).2.2 x19_3 (of_eq_true p769) (of_eq_true q769); cases e_; have hq_ := hx_.symm.trans hHeld; injection hq_ with hq_; injection hq_ with e1_ e2_ e3_; subst e1_; exact hi_) | (obtain ⟨ad_, A_, c_, e_, hx_, hl_, hi_⟩ := at_L1 (Kd.S_reads' HO_6.out).2.2 x19_3 (of_eq_true p769) (of_eq_true q769); cases e_; have hq_ := hx_.symm.trans hHeld.1; injection hq_ with hq_; injection hq_ with e1_ e2_ e3_; subst e1_; exact hi_) | (obtain ⟨ad_, A_, c_, e_, hx_, hl_, hi_⟩ := at_L1 (Kd.S_reads' HO_6.out).2.2 x19_3 (of_eq_true p769) (of_eq_true q769); cases e_; have hq_ := hx_.symm.trans hHeld.2; injection hq_ with hq_; injection hq_ with e1_ e2_ e3_; subst e1_; exact hi_) | (repeat (first | exact (by repeat (first | (with_reducible exact HR769_0.out) | (with_reducible refine Kd.C_alloc ?_ _) | (with_reducible refine Kd.C_drewN ?_ _) | (with_reducible refine Kd.C_drew ?_) | exact HR769_0.out)) | (with_reducible refine Kd.C_alloc ?_ _) | (with_reducible refine Kd.C_drewN ?_ _) | (with_reducible refine Kd.C_drew ?_))))
               (case side2 => exact HC769_0.out)
               rintro e w89 ⟨rfl, hb⟩
               have HS0_ := (hb.cell (World.block_lt_of_cell? _ _ (hHeld.1))).trans (hHeld.1)
               have HS1_ := (hb.cell (World.block_lt_of_cell? _ _ (hHeld.2.1))).trans (hHeld.2.1)
               have HS2_ := (hb.cell (World.block_lt_of_cell? _ _ (hHeld.2.2.1))).trans (hHeld.2.2.1)
               have HS3_ := (hb.cell (World.block_lt_of_cell? _ _ (hHeld.2.2.2.1))).trans (hHeld.2.2.2.1)
               have HS4_ := (hb.cell (World.block_lt_of_cell? _ _ (hHeld.2.2.2.2))).trans (hHeld.2.2.2.2)
               refine ⟨_, rfl, ?_⟩
               have n0_ := Aside0.mk (Kd.R_below (by (with_reducible repeat (first | apply Kd.R_alloc | apply Kd.R_drewN | apply Kd.R_drew)); exact HO_5.out) hb)
               have n1_ := Aside0.mk (Kd.S_below (by (with_reducible repeat (first | apply Kd.S_alloc | apply Kd.S_drewN | apply Kd.S_drew)); exact HO_6.out) hb)
               have n2_ := Aside0.mk (Kd.R_below (by (with_reducible repeat (first | apply Kd.R_alloc | apply Kd.R_drewN | apply Kd.R_drew)); exact HL765_0.out) hb)
               have n3_ := Aside0.mk (Kd.R_below (by (with_reducible repeat (first | apply Kd.R_alloc | apply Kd.R_drewN | apply Kd.R_drew)); exact HL767_0.out) hb)
               have n4_ := Aside0.mk (Kd.R_below (by (with_reducible repeat (first | apply Kd.R_alloc | apply Kd.R_drewN | apply Kd.R_drew)); exact HL769_0.out) hb)
               have n5_ := Aside0.mk (Kd.C_below (by repeat (first | (with_reducible exact HR765_0.out) | (with_reducible refine Kd.C_alloc ?_ _) | (with_reducible refine Kd.C_drewN ?_ _) | (with_reducible refine Kd.C_drew ?_) | exact HR765_0.out)) hb)
               have n6_ := Aside0.mk (Kd.C_below (by repeat (first | (with_reducible exact HR767_0.out) | (with_reducible refine Kd.C_alloc ?_ _) | (with_reducible refine Kd.C_drewN ?_ _) | (with_reducible refine Kd.C_drew ?_) | exact HR767_0.out)) hb)
               have n7_ := Aside0.mk (Kd.C_below (by repeat (first | (with_reducible exact HR769_0.out) | (with_reducible refine Kd.C_alloc ?_ _) | (with_reducible refine Kd.C_drewN ?_ _) | (with_reducible refine Kd.C_drew ?_) | exact HR769_0.out)) hb)
               have n8_ := Aside0.mk (below_step (by repeat (first | (with_reducible first | exact HB.out | apply below_alloc | apply pw_below_drewN | apply below_drew1) | exact HB.out)) hb)
               clear HO_5; clear HO_6; clear HL765_0; clear HL767_0; clear HL769_0; clear HR765_0; clear HR767_0; clear HR769_0; clear HB; have HO_5 := n0_; have HO_6 := n1_; have HL765_0 := n2_; have HL767_0 := n3_; have HL769_0 := n4_; have HR765_0 := n5_; have HR767_0 := n6_; have HR769_0 := n7_; have HB := n8_; clear n0_ n1_ n2_ n3_ n4_ n5_ n6_ n7_ n8_; (try clear hb); (try clear hb2); (try clear hk); (try clear hi)
               refine hK.out _ _ ⟨HS0_, HS1_, HS2_, HS3_, HS4_⟩ (fun hHeld => ?_)
               clear hK K
               refine norm_ (a' := ?_) ?_ ?_
               rotate_left
               ·show Act.put _ (some 166) _ = _
                simp only [Act.put, List.setIfInBounds_toArray, List.set_cons_zero, List.set_cons_succ, i64_w]
                rfl
               refine pure_ (i := 20) (N := some 167) (v := ?_) (a' := ?_) b21MW rfl rfl (any_of HT_.out (by kernel_rfl)) (fun _ _ _ h => h) (Or.inl ⟨by rfl, ?_⟩) ?_ ?_
               rotate_left; (intro w'; go_simp; with_reducible rfl); rotate_left; (simp only [Act.put, List.setIfInBounds_toArray, List.set_cons_zero, List.set_cons_succ, i64_w]; rfl)
               refine pure_ (i := 21) (N := some 168) (v := ?_) (a' := ?_) b22MW rfl rfl (any_of HT_.out (by kernel_rfl)) (fun _ _ _ h => h) (Or.inl ⟨by rfl, ?_⟩) ?_ ?_
               rotate_left; (intro w'; go_simp; with_reducible rfl); rotate_left; (simp only [Act.put, List.setIfInBounds_toArray, List.set_cons_zero, List.set_cons_succ, i64_w]; rfl)
               refine done_ (done_of HT_.out (by kernel_rfl)) ?_
               try go_wp2
               go_ret
               exact ⟨by first | rfl | (simp [errW_none, errW_some] <;> rfl) | (simp only [← hji78]; first | rfl | (simp [errW_none, errW_some] <;> rfl)) | (simp [*, errW_none, errW_some] <;> rfl), by repeat (first | (with_reducible first | exact HB.out | apply below_alloc | apply pw_below_drewN | apply below_drew1) | exact HB.out)⟩
            ·as_aux_lemma =>
             rw [if_neg c74] at H
             have c74b0 : decide (x19_3 ≤ (wrap64 ((t739.length : Int) - 1))) = false := decide_eq_false c74
             clear c74
             by_cases c90 : 2 < (t736.length : Int)
             rotate_left
             ·rw [if_neg c90] at H
              exact absurd H (by simp)
             as_aux_lemma =>
             rw [if_pos c90] at H
             have c90b0 : decide (2 < (t736.length : Int)) = true := decide_eq_true c90
             have c90b1 : decide (2 < t736.length) = true := decide_eq_true (by omega)
             clear c90
             have HC91 := Aside0.mk H
             clear H
             have p771 : 0 ≤ (2 : Int) := (by omega)
             have q771 : 2 < (t736.length : Int) := of_decide_eq_true (by first | (with_reducible assumption) | assumption)
             obtain ⟨ad771, e771, hx771_0⟩ := Kd.at_int (Kd.R_reads' HO_5.out).2.2 2 p771 q771
             cases e771
             (try simp only [show (2 : Int).toNat = 2 from rfl, Nat.reduceMul, Nat.reduceEqDiff, Go.Addr.add, ↓reduceIte] at hx771_0)
             have qi771 : (2 < t736.length) = True := eq_true (by omega)
             (try rw [show ((2 : Int)).toNat = 2 from rfl] at hx771_0)
             replace p771 := eq_true p771; replace q771 := eq_true q771
             go_upto_region 22 with (fail)
             go_cut [201] (fun v201 wc => ∃ (kq : Nat) (x201_90 : Bool), v201 = .bool x201_90 ∧ Aside0 (laws_FnMarkovWords.j3 kq l1 t736 t747 t748 x201_90 = some r) ∧ Aside0 (kq ≤ k3) ∧ Aside0 (Kd.R (Kd.int .i64) 3 wc w.heap.size (fun _ => True) (.slice (some ad771) t736.length co14) t736) ∧ Aside0 (Below w.heap.size w wc))
             case first => as_aux_lemma =>
              have H := HC91.out; clear HC91
              by_cases c92 : t751 < 0
              ·as_aux_lemma =>
               rw [if_pos c92] at H
               have c92b0 : decide (t751 < 0) = true := decide_eq_true c92
               clear c92
               (first | rw [c92b0] | (simp only [i64_w, i32_w]; rw [c92b0]) | skip)
               have H' := Aside0.mk H
               clear H
               try go_wp2
               have n0_ := Aside0.mk (Kd.R_drew HO_5.out)
               have n1_ := Aside0.mk (Kd.S_drew HO_6.out)
               have n2_ := Aside0.mk (below_drew1 HB.out)
               clear HO_5; clear HO_6; clear HB; have HO_5 := n0_; have HO_6 := n1_; have HB := n2_; clear n0_ n1_ n2_
               refine start_ (n := 30) (S := fun w' => True) (ds := []) b23MW (by kernel_rfl) rfl rfl trivial (fun hHeld => ?_); refine with_tabW laws_FnMarkovWords.tab22 laws_FnMarkovWords.bits22 (fun HT_ HW_ => ?_)
               generalize wr.drew = w93 at HO_5 HO_6 HB hHeld ⊢
               refine pure_ (i := 0) (N := some 172) (v := ?_) (a' := ?_) b24MW rfl rfl (any_of HT_.out (by kernel_rfl)) (fun _ _ _ h => h) (Or.inl ⟨by rfl, ?_⟩) ?_ ?_
               rotate_left; (intro w'; go_simp; with_reducible rfl); rotate_left; (simp only [Act.put, List.setIfInBounds_toArray, List.set_cons_zero, List.set_cons_succ, i64_w]; rfl)
               refine pure_ (i := 1) (N := some 173) (v := ?_) (a' := ?_) b25MW rfl rfl (any_of HT_.out (by kernel_rfl)) (fun _ _ _ h => h) (Or.inl ⟨by rfl, ?_⟩) ?_ ?_
               rotate_left; (intro w'; go_simp; with_reducible rfl); rotate_left; (simp only [Act.put, List.setIfInBounds_toArray, List.set_cons_zero, List.set_cons_succ, i64_w]; rfl)
               refine pure_ (i := 2) (N := some 174) (v := ?_) (a' := ?_) b26MW rfl rfl (any_of HT_.out (by kernel_rfl)) (fun _ _ _ h => h) (Or.inl ⟨by rfl, ?_⟩) ?_ ?_
               rotate_left; (intro w'; go_simp; with_reducible rfl); rotate_left; (simp only [Act.put, List.setIfInBounds_toArray, List.set_cons_zero, List.set_cons_succ, i64_w]; rfl)
               refine pure_ (i := 3) (N := some 175) (v := undef) (a' := ?_) b27MW rfl rfl (any_of HT_.out (by kernel_rfl)) (fun _ _ _ h => h) (Or.inr ⟨by rfl, rfl⟩) ?_ ?_
               rotate_left
               ·simp only [Act.put, List.setIfInBounds_toArray, List.set_cons_zero, List.set_cons_succ, i64_w]
                rfl
               refine pure_ (i := 4) (N := some 176) (v := undef) (a' := ?_) b28MW rfl rfl (any_of HT_.out (by kernel_rfl)) (fun _ _ _ h => h) (Or.inr ⟨by rfl, rfl⟩) ?_ ?_
               rotate_left
               ·simp only [Act.put, List.setIfInBounds_toArray, List.set_cons_zero, List.set_cons_succ, i64_w]
                rfl
               refine pure_ (i := 5) (N := some 177) (v := undef) (a' := ?_) b29MW rfl rfl (any_of HT_.out (by kernel_rfl)) (fun _ _ _ h => h) (Or.inr ⟨by rfl, rfl⟩) ?_ ?_
               rotate_left
               ·simp only [Act.put, List.setIfInBounds_toArray, List.set_cons_zero, List.set_cons_succ, i64_w]
                rfl
               refine pure_ (i := 6) (N := some 178) (v := ?_) (a' := ?_) b30MW rfl rfl (any_of HT_.out (by kernel_rfl)) (fun _ _ _ h => h) (Or.inl ⟨by rfl, ?_⟩) ?_ ?_
               rotate_left; (intro w'; go_simp; with_reducible rfl); rotate_left; (simp only [Act.put, List.setIfInBounds_toArray, List.set_cons_zero, List.set_cons_succ, i64_w]; rfl)
               refine pure_ (i := 7) (N := some 179) (v := ?_) (a' := ?_) b31MW rfl rfl (any_of HT_.out (by kernel_rfl)) (fun _ _ _ h => h) (Or.inl ⟨by rfl, ?_⟩) ?_ ?_
               rotate_left; (intro w'; go_simp; with_reducible rfl); rotate_left; (simp only [Act.put, List.setIfInBounds_toArray, List.set_cons_zero, List.set_cons_succ, i64_w]; rfl)
               refine pure_ (i := 8) (N := some 180) (v := undef) (a' := ?_) b32MW rfl rfl (any_of HT_.out (by kernel_rfl)) (fun _ _ _ h => h) (Or.inr ⟨by rfl, rfl⟩) ?_ ?_
               rotate_left
               ·simp only [Act.put, List.setIfInBounds_toArray, List.set_cons_zero, List.set_cons_succ, i64_w]
                rfl
               refine pure_ (i := 9) (N := some 181) (v := undef) (a' := ?_) b33MW rfl rfl (any_of HT_.out (by kernel_rfl)) (fun _ _ _ h => h) (Or.inr ⟨by rfl, rfl⟩) ?_ ?_
               rotate_left
               ·simp only [Act.put, List.setIfInBounds_toArray, List.set_cons_zero, List.set_cons_succ, i64_w]
                rfl
               refine pure_ (i := 10) (N := some 182) (v := undef) (a' := ?_) b34MW rfl rfl (any_of HT_.out (by kernel_rfl)) (fun _ _ _ h => h) (Or.inr ⟨by rfl, rfl⟩) ?_ ?_
               rotate_left
               ·simp only [Act.put, List.setIfInBounds_toArray, List.set_cons_zero, List.set_cons_succ, i64_w]
                rfl
               refine pure_ (i := 11) (N := some 183) (v := undef) (a' := ?_) b35MW rfl rfl (any_of HT_.out (by kernel_rfl)) (fun _ _ _ h => h) (Or.inr ⟨by rfl, rfl⟩) ?_ ?_
               rotate_left
               ·simp only [Act.put, List.setIfInBounds_toArray, List.set_cons_zero, List.set_cons_succ, i64_w]
                rfl
               refine pure_ (i := 12) (N := some 184) (v := undef) (a' := ?_) b36MW rfl rfl (any_of HT_.out (by kernel_rfl)) (fun _ _ _ h => h) (Or.inr ⟨by rfl, rfl⟩) ?_ ?_
               rotate_left
               ·simp only [Act.put, List.setIfInBounds_toArray, List.set_cons_zero, List.set_cons_succ, i64_w]
                rfl
               refine pure_ (i := 13) (N := some 185) (v := undef) (a' := ?_) b37MW rfl rfl (any_of HT_.out (by kernel_rfl)) (fun _ _ _ h => h) (Or.inr ⟨by rfl, rfl⟩) ?_ ?_
               rotate_left
               ·simp only [Act.put, List.setIfInBounds_toArray, List.set_cons_zero, List.set_cons_succ, i64_w]
                rfl
               refine pure_ (i := 14) (N := some 186) (v := undef) (a' := ?_) b38MW rfl rfl (any_of HT_.out (by kernel_rfl)) (fun _ _ _ h => h) (Or.inr ⟨by rfl, rfl⟩) ?_ ?_
               rotate_left
               ·simp only [Act.put, List.setIfInBounds_toArray, List.set_cons_zero, List.set_cons_succ, i64_w]
                rfl
               refine pure_ (i := 15) (N := some 187) (v := ?_) (a' := ?_) b39MW rfl rfl (any_of HT_.out (by kernel_rfl)) (fun _ _ _ h => h) (Or.inl ⟨by rfl, ?_⟩) ?_ ?_
               rotate_left; (intro w'; go_simp; with_reducible rfl); rotate_left; (simp only [Act.put, List.setIfInBounds_toArray, List.set_cons_zero, List.set_cons_succ, i64_w]; rfl)
               refine pure_ (i := 16) (N := some 188) (v := ?_) (a' := ?_) b40MW rfl rfl (any_of HT_.out (by kernel_rfl)) (fun _ _ _ h => h) (Or.inl ⟨by rfl, ?_⟩) ?_ ?_
               rotate_left; (intro w'; go_simp; with_reducible rfl); rotate_left; (simp only [Act.put, List.setIfInBounds_toArray, List.set_cons_zero, List.set_cons_succ, i64_w]; rfl)
               refine pure_ (i := 17) (N := some 189) (v := undef) (a' := ?_) b41MW rfl rfl (any_of HT_.out (by kernel_rfl)) (fun _ _ _ h => h) (Or.inr ⟨by rfl, rfl⟩) ?_ ?_
               rotate_left
               ·simp only [Act.put, List.setIfInBounds_toArray, List.set_cons_zero, List.set_cons_succ, i64_w]
                rfl
               refine pure_ (i := 18) (N := some 190) (v := undef) (a' := ?_) b42MW rfl rfl (any_of HT_.out (by kernel_rfl)) (fun _ _ _ h => h) (Or.inr ⟨by rfl, rfl⟩) ?_ ?_
               rotate_left
               ·simp only [Act.put, List.setIfInBounds_toArray, List.set_cons_zero, List.set_cons_succ, i64_w]
                rfl
               refine pure_ (i := 19) (N := some 191) (v := undef) (a' := ?_) b43MW rfl rfl (any_of HT_.out (by kernel_rfl)) (fun _ _ _ h => h) (Or.inr ⟨by rfl, rfl⟩) ?_ ?_
               rotate_left
               ·simp only [Act.put, List.setIfInBounds_toArray, List.set_cons_zero, List.set_cons_succ, i64_w]
                rfl
               refine pure_ (i := 20) (N := some 192) (v := undef) (a' := ?_) b44MW rfl rfl (any_of HT_.out (by kernel_rfl)) (fun _ _ _ h => h) (Or.inr ⟨by rfl, rfl⟩) ?_ ?_
               rotate_left
               ·simp only [Act.put, List.setIfInBounds_toArray, List.set_cons_zero, List.set_cons_succ, i64_w]
                rfl
               refine pure_ (i := 21) (N := some 193) (v := undef) (a' := ?_) b45MW rfl rfl (any_of HT_.out (by kernel_rfl)) (fun _ _ _ h => h) (Or.inr ⟨by rfl, rfl⟩) ?_ ?_
               rotate_left
               ·simp only [Act.put, List.setIfInBounds_toArray, List.set_cons_zero, List.set_cons_succ, i64_w]
                rfl
               refine pure_ (i := 22) (N := some 194) (v := undef) (a' := ?_) b46MW rfl rfl (any_of HT_.out (by kernel_rfl)) (fun _ _ _ h => h) (Or.inr ⟨by rfl, rfl⟩) ?_ ?_
               rotate_left
               ·simp only [Act.put, List.setIfInBounds_toArray, List.set_cons_zero, List.set_cons_succ, i64_w]
                rfl
               refine pure_ (i := 23) (N := some 195) (v := undef) (a' := ?_) b47MW rfl rfl (any_of HT_.out (by kernel_rfl)) (fun _ _ _ h => h) (Or.inr ⟨by rfl, rfl⟩) ?_ ?_
               rotate_left
               ·simp only [Act.put, List.setIfInBounds_toArray, List.set_cons_zero, List.set_cons_succ, i64_w]
                rfl
               refine pure_ (i := 24) (N := some 196) (v := undef) (a' := ?_) b48MW rfl rfl (any_of HT_.out (by kernel_rfl)) (fun _ _ _ h => h) (Or.inr ⟨by rfl, rfl⟩) ?_ ?_
               rotate_left
               ·simp only [Act.put, List.setIfInBounds_toArray, List.set_cons_zero, List.set_cons_succ, i64_w]
                rfl
               refine pure_ (i := 25) (N := some 197) (v := undef) (a' := ?_) b49MW rfl rfl (any_of HT_.out (by kernel_rfl)) (fun _ _ _ h => h) (Or.inr ⟨by rfl, rfl⟩) ?_ ?_
               rotate_left
               ·simp only [Act.put, List.setIfInBounds_toArray, List.set_cons_zero, List.set_cons_succ, i64_w]
                rfl
               refine pure_ (i := 26) (N := some 198) (v := undef) (a' := ?_) b50MW rfl rfl (any_of HT_.out (by kernel_rfl)) (fun _ _ _ h => h) (Or.inr ⟨by rfl, rfl⟩) ?_ ?_
               rotate_left
               ·simp only [Act.put, List.setIfInBounds_toArray, List.set_cons_zero, List.set_cons_succ, i64_w]
                rfl
               refine pure_ (i := 27) (N := some 199) (v := undef) (a' := ?_) b51MW rfl rfl (any_of HT_.out (by kernel_rfl)) (fun _ _ _ h => h) (Or.inr ⟨by rfl, rfl⟩) ?_ ?_
               rotate_left
               ·simp only [Act.put, List.setIfInBounds_toArray, List.set_cons_zero, List.set_cons_succ, i64_w]
                rfl
               refine pure_ (i := 28) (N := some 200) (v := undef) (a' := ?_) b52MW rfl rfl (any_of HT_.out (by kernel_rfl)) (fun _ _ _ h => h) (Or.inr ⟨by rfl, rfl⟩) ?_ ?_
               rotate_left
               ·simp only [Act.put, List.setIfInBounds_toArray, List.set_cons_zero, List.set_cons_succ, i64_w]
                rfl
               refine pure_ (i := 29) (N := some 201) (v := ?_) (a' := ?_) b53MW rfl rfl (any_of HT_.out (by kernel_rfl)) (fun _ _ _ h => h) (Or.inl ⟨by rfl, ?_⟩) ?_ ?_
               rotate_left; (intro w'; go_simp; with_reducible rfl); rotate_left; (simp only [Act.put, List.setIfInBounds_toArray, List.set_cons_zero, List.set_cons_succ, i64_w]; rfl)
               refine done_ (done_of HT_.out (by kernel_rfl)) ?_
               try go_wp2
               go_meet
               case rel => exact ⟨_, (true), (by first | rfl | (simp; done) | (simp [*]; done)), H', ⟨by have := HJ11.out; have := HJ47.out; have := HK3.out; first | omega | exact Nat.le_refl _⟩, ⟨by (with_reducible repeat (first | apply Kd.R_alloc | apply Kd.R_drewN | apply Kd.R_drew)); exact HO_5.out⟩, ⟨by repeat (first | (with_reducible first | exact HB.out | apply below_alloc | apply pw_below_drewN | apply below_drew1) | exact HB.out)⟩⟩
              ·as_aux_lemma =>
               rw [if_neg c92] at H
               have c92b0 : decide (t751 < 0) = false := decide_eq_false c92
               clear c92
               (first | rw [c92b0] | (simp only [i64_w, i32_w]; rw [c92b0]) | skip)
               by_cases c94 : t751 ≥ (rd t736 2)
               ·as_aux_lemma =>
                rw [if_pos c94] at H
                have c94b0 : decide ((rd t736 2) ≤ t751) = true := decide_eq_true c94
                clear c94
                have H' := Aside0.mk H
                clear H
                try go_wp2
                have n0_ := Aside0.mk (Kd.R_drew HO_5.out)
                have n1_ := Aside0.mk (Kd.S_drew HO_6.out)
                have n2_ := Aside0.mk (below_drew1 HB.out)
                clear HO_5; clear HO_6; clear HB; have HO_5 := n0_; have HO_6 := n1_; have HB := n2_; clear n0_ n1_ n2_
                refine start_ (n := 30) (S := fun w' => True) (ds := []) b23MW (by kernel_rfl) rfl rfl trivial (fun hHeld => ?_); refine with_tabW laws_FnMarkovWords.tab22 laws_FnMarkovWords.bits22 (fun HT_ HW_ => ?_)
                generalize wr.drew = w95 at HO_5 HO_6 HB hHeld ⊢
                refine pure_ (i := 0) (N := some 172) (v := ?_) (a' := ?_) b24MW rfl rfl (any_of HT_.out (by kernel_rfl)) (fun _ _ _ h => h) (Or.inl ⟨by rfl, ?_⟩) ?_ ?_
                rotate_left; (intro w'; go_simp; with_reducible rfl); rotate_left; (simp only [Act.put, List.setIfInBounds_toArray, List.set_cons_zero, List.set_cons_succ, i64_w]; rfl)
                refine pure_ (i := 1) (N := some 173) (v := ?_) (a' := ?_) b25MW rfl rfl (any_of HT_.out (by kernel_rfl)) (fun _ _ _ h => h) (Or.inl ⟨by rfl, ?_⟩) ?_ ?_
                rotate_left; (intro w'; go_simp; with_reducible rfl); rotate_left; (simp only [Act.put, List.setIfInBounds_toArray, List.set_cons_zero, List.set_cons_succ, i64_w]; rfl)
                refine pure_ (i := 2) (N := some 174) (v := ?_) (a' := ?_) b26MW rfl rfl (any_of HT_.out (by kernel_rfl)) (fun _ _ _ h => h) (Or.inl ⟨by rfl, ?_⟩) ?_ ?_
                rotate_left; (intro w'; go_simp; with_reducible rfl); rotate_left; (simp only [Act.put, List.setIfInBounds_toArray, List.set_cons_zero, List.set_cons_succ, i64_w]; rfl)
                refine pure_ (i := 3) (N := some 175) (v := ?_) (a' := ?_) b27MW rfl rfl (any_of HT_.out (by kernel_rfl)) (fun _ _ _ h => h) (Or.inl ⟨by rfl, ?_⟩) ?_ ?_
                rotate_left; (intro w'; go_simp; with_reducible rfl); rotate_left; (simp only [Act.put, List.setIfInBounds_toArray, List.set_cons_zero, List.set_cons_succ, i64_w]; rfl)
                refine pure_ (i := 4) (N := some 176) (v := ?_) (a' := ?_) b28MW rfl rfl (any_of HT_.out (by kernel_rfl)) (fun _ _ _ h => h) (Or.inl ⟨by rfl, ?_⟩) ?_ ?_
                rotate_left; (intro w'; go_simp; with_reducible rfl); rotate_left; (simp only [Act.put, List.setIfInBounds_toArray, List.set_cons_zero, List.set_cons_succ, i64_w]; rfl)
                refine pure_ (i := 5) (N := some 177) (v := ?_) (a' := ?_) b29MW rfl rfl (any_of HT_.out (by kernel_rfl)) (fun _ _ _ h => h) (Or.inl ⟨by rfl, ?_⟩) ?_ ?_
                rotate_left; (intro w'; go_simp; with_reducible rfl); rotate_left; (simp only [Act.put, List.setIfInBounds_toArray, List.set_cons_zero, List.set_cons_succ, i64_w]; rfl)
                refine pure_ (i := 6) (N := some 178) (v := ?_) (a' := ?_) b30MW rfl rfl (any_of HT_.out (by kernel_rfl)) (fun _ _ _ h => h) (Or.inl ⟨by rfl, ?_⟩) ?_ ?_
                rotate_left; (intro w'; go_simp; with_reducible rfl); rotate_left; (simp only [Act.put, List.setIfInBounds_toArray, List.set_cons_zero, List.set_cons_succ, i64_w]; rfl)
                refine pure_ (i := 7) (N := some 179) (v := ?_) (a' := ?_) b31MW rfl rfl (any_of HT_.out (by kernel_rfl)) (fun _ _ _ h => h) (Or.inl ⟨by rfl, ?_⟩) ?_ ?_
                rotate_left; (intro w'; go_simp; with_reducible rfl); rotate_left; (simp only [Act.put, List.setIfInBounds_toArray, List.set_cons_zero, List.set_cons_succ, i64_w]; rfl)
                refine pure_ (i := 8) (N := some 180) (v := undef) (a' := ?_) b32MW rfl rfl (any_of HT_.out (by kernel_rfl)) (fun _ _ _ h => h) (Or.inr ⟨by rfl, rfl⟩) ?_ ?_
                rotate_left
                ·simp only [Act.put, List.setIfInBounds_toArray, List.set_cons_zero, List.set_cons_succ, i64_w]
                 rfl
                refine pure_ (i := 9) (N := some 181) (v := undef) (a' := ?_) b33MW rfl rfl (any_of HT_.out (by kernel_rfl)) (fun _ _ _ h => h) (Or.inr ⟨by rfl, rfl⟩) ?_ ?_
                rotate_left
                ·simp only [Act.put, List.setIfInBounds_toArray, List.set_cons_zero, List.set_cons_succ, i64_w]
                 rfl
                refine pure_ (i := 10) (N := some 182) (v := undef) (a' := ?_) b34MW rfl rfl (any_of HT_.out (by kernel_rfl)) (fun _ _ _ h => h) (Or.inr ⟨by rfl, rfl⟩) ?_ ?_
                rotate_left
                ·simp only [Act.put, List.setIfInBounds_toArray, List.set_cons_zero, List.set_cons_succ, i64_w]
                 rfl
                refine pure_ (i := 11) (N := some 183) (v := undef) (a' := ?_) b35MW rfl rfl (any_of HT_.out (by kernel_rfl)) (fun _ _ _ h => h) (Or.inr ⟨by rfl, rfl⟩) ?_ ?_
                rotate_left
                ·simp only [Act.put, List.setIfInBounds_toArray, List.set_cons_zero, List.set_cons_succ, i64_w]
                 rfl
                refine pure_ (i := 12) (N := some 184) (v := undef) (a' := ?_) b36MW rfl rfl (any_of HT_.out (by kernel_rfl)) (fun _ _ _ h => h) (Or.inr ⟨by rfl, rfl⟩) ?_ ?_
                rotate_left
                ·simp only [Act.put, List.setIfInBounds_toArray, List.set_cons_zero, List.set_cons_succ, i64_w]
                 rfl
                refine pure_ (i := 13) (N := some 185) (v := undef) (a' := ?_) b37MW rfl rfl (any_of HT_.out (by kernel_rfl)) (fun _ _ _ h => h) (Or.inr ⟨by rfl, rfl⟩) ?_ ?_
                rotate_left
                ·simp only [Act.put, List.setIfInBounds_toArray, List.set_cons_zero, List.set_cons_succ, i64_w]
                 rfl
                refine pure_ (i := 14) (N := some 186) (v := undef) (a' := ?_) b38MW rfl rfl (any_of HT_.out (by kernel_rfl)) (fun _ _ _ h => h) (Or.inr ⟨by rfl, rfl⟩) ?_ ?_
                rotate_left
                ·simp only [Act.put, List.setIfInBounds_toArray, List.set_cons_zero, List.set_cons_succ, i64_w]
                 rfl
                refine pure_ (i := 15) (N := some 187) (v := ?_) (a' := ?_) b39MW rfl rfl (any_of HT_.out (by kernel_rfl)) (fun _ _ _ h => h) (Or.inl ⟨by rfl, ?_⟩) ?_ ?_
                rotate_left; (intro w'; go_simp; with_reducible rfl); rotate_left; (simp only [Act.put, List.setIfInBounds_toArray, List.set_cons_zero, List.set_cons_succ, i64_w]; rfl)
                refine pure_ (i := 16) (N := some 188) (v := ?_) (a' := ?_) b40MW rfl rfl (any_of HT_.out (by kernel_rfl)) (fun _ _ _ h => h) (Or.inl ⟨by rfl, ?_⟩) ?_ ?_
                rotate_left; (intro w'; go_simp; with_reducible rfl); rotate_left; (simp only [Act.put, List.setIfInBounds_toArray, List.set_cons_zero, List.set_cons_succ, i64_w]; rfl)
                refine pure_ (i := 17) (N := some 189) (v := undef) (a' := ?_) b41MW rfl rfl (any_of HT_.out (by kernel_rfl)) (fun _ _ _ h => h) (Or.inr ⟨by rfl, rfl⟩) ?_ ?_
                rotate_left
                ·simp only [Act.put, List.setIfInBounds_toArray, List.set_cons_zero, List.set_cons_succ, i64_w]
                 rfl
                refine pure_ (i := 18) (N := some 190) (v := undef) (a' := ?_) b42MW rfl rfl (any_of HT_.out (by kernel_rfl)) (fun _ _ _ h => h) (Or.inr ⟨by rfl, rfl⟩) ?_ ?_
                rotate_left
                ·simp only [Act.put, List.setIfInBounds_toArray, List.set_cons_zero, List.set_cons_succ, i64_w]
                 rfl
                refine pure_ (i := 19) (N := some 191) (v := undef) (a' := ?_) b43MW rfl rfl (any_of HT_.out (by kernel_rfl)) (fun _ _ _ h => h) (Or.inr ⟨by rfl, rfl⟩) ?_ ?_
                rotate_left
                ·simp only [Act.put, List.setIfInBounds_toArray, List.set_cons_zero, List.set_cons_succ, i64_w]
                 rfl
                refine pure_ (i := 20) (N := some 192) (v := undef) (a' := ?_) b44MW rfl rfl (any_of HT_.out (by kernel_rfl)) (fun _ _ _ h => h) (Or.inr ⟨by rfl, rfl⟩) ?_ ?_
                rotate_left
                ·simp only [Act.put, List.setIfInBounds_toArray, List.set_cons_zero, List.set_cons_succ, i64_w]
                 rfl
                refine pure_ (i := 21) (N := some 193) (v := undef) (a' := ?_) b45MW rfl rfl (any_of HT_.out (by kernel_rfl)) (fun _ _ _ h => h) (Or.inr ⟨by rfl, rfl⟩) ?_ ?_
                rotate_left
                ·simp only [Act.put, List.setIfInBounds_toArray, List.set_cons_zero, List.set_cons_succ, i64_w]
                 rfl
                refine pure_ (i := 22) (N := some 194) (v := undef) (a' := ?_) b46MW rfl rfl (any_of HT_.out (by kernel_rfl)) (fun _ _ _ h => h) (Or.inr ⟨by rfl, rfl⟩) ?_ ?_
                rotate_left
                ·simp only [Act.put, List.setIfInBounds_toArray, List.set_cons_zero, List.set_cons_succ, i64_w]
                 rfl
                refine pure_ (i := 23) (N := some 195) (v := undef) (a' := ?_) b47MW rfl rfl (any_of HT_.out (by kernel_rfl)) (fun _ _ _ h => h) (Or.inr ⟨by rfl, rfl⟩) ?_ ?_
                rotate_left
                ·simp only [Act.put, List.setIfInBounds_toArray, List.set_cons_zero, List.set_cons_succ, i64_w]
                 rfl
                refine pure_ (i := 24) (N := some 196) (v := undef) (a' := ?_) b48MW rfl rfl (any_of HT_.out (by kernel_rfl)) (fun _ _ _ h => h) (Or.inr ⟨by rfl, rfl⟩) ?_ ?_
                rotate_left
                ·simp only [Act.put, List.setIfInBounds_toArray, List.set_cons_zero, List.set_cons_succ, i64_w]
                 rfl
                refine pure_ (i := 25) (N := some 197) (v := undef) (a' := ?_) b49MW rfl rfl (any_of HT_.out (by kernel_rfl)) (fun _ _ _ h => h) (Or.inr ⟨by rfl, rfl⟩) ?_ ?_
                rotate_left
                ·simp only [Act.put, List.setIfInBounds_toArray, List.set_cons_zero, List.set_cons_succ, i64_w]
                 rfl
                refine pure_ (i := 26) (N := some 198) (v := undef) (a' := ?_) b50MW rfl rfl (any_of HT_.out (by kernel_rfl)) (fun _ _ _ h => h) (Or.inr ⟨by rfl, rfl⟩) ?_ ?_
                rotate_left
                ·simp only [Act.put, List.setIfInBounds_toArray, List.set_cons_zero, List.set_cons_succ, i64_w]
                 rfl
                refine pure_ (i := 27) (N := some 199) (v := undef) (a' := ?_) b51MW rfl rfl (any_of HT_.out (by kernel_rfl)) (fun _ _ _ h => h) (Or.inr ⟨by rfl, rfl⟩) ?_ ?_
                rotate_left
                ·simp only [Act.put, List.setIfInBounds_toArray, List.set_cons_zero, List.set_cons_succ, i64_w]
                 rfl
                refine pure_ (i := 28) (N := some 200) (v := undef) (a' := ?_) b52MW rfl rfl (any_of HT_.out (by kernel_rfl)) (fun _ _ _ h => h) (Or.inr ⟨by rfl, rfl⟩) ?_ ?_
                rotate_left
                ·simp only [Act.put, List.setIfInBounds_toArray, List.set_cons_zero, List.set_cons_succ, i64_w]
                 rfl
                refine pure_ (i := 29) (N := some 201) (v := ?_) (a' := ?_) b53MW rfl rfl (any_of HT_.out (by kernel_rfl)) (fun _ _ _ h => h) (Or.inl ⟨by rfl, ?_⟩) ?_ ?_
                rotate_left; (intro w'; go_simp; with_reducible rfl); rotate_left; (simp only [Act.put, List.setIfInBounds_toArray, List.set_cons_zero, List.set_cons_succ, i64_w]; rfl)
                refine done_ (done_of HT_.out (by kernel_rfl)) ?_
                try go_wp2
                go_meet
                case rel => exact ⟨_, (true), (by first | rfl | (simp; done) | (simp [*]; done)), H', ⟨by have := HJ11.out; have := HJ47.out; have := HK3.out; first | omega | exact Nat.le_refl _⟩, ⟨by (with_reducible repeat (first | apply Kd.R_alloc | apply Kd.R_drewN | apply Kd.R_drew)); exact HO_5.out⟩, ⟨by repeat (first | (with_reducible first | exact HB.out | apply below_alloc | apply pw_below_drewN | apply below_drew1) | exact HB.out)⟩⟩
               ·as_aux_lemma =>
                rw [if_neg c94] at H
                have c94b0 : decide ((rd t736 2) ≤ t751) = false := decide_eq_false c94
                clear c94
                by_cases c96 : (rd t736 2) = 0
                ·rw [if_pos c96] at H
                 exact absurd H (by simp)
                as_aux_lemma =>
                rw [if_neg c96] at H
                have c96b0 : ((rd t736 2) == 0) = false := beq_eq_false_iff_ne.mpr c96
                have c96b1 : ((rd t736 2) != 0) = true := bne_iff_ne.mpr c96
                by_cases c97 : (Int.tmod (wrap64 ((wrap64 (t751 * t751)) + 1)) (rd t736 2)) = 0
                ·as_aux_lemma =>
                 rw [if_pos c97] at H
                 have c97b0 : ((Int.tmod (wrap64 ((wrap64 (t751 * t751)) + 1)) (rd t736 2)) == 0) = true := beq_iff_eq.mpr c97
                 have c97b1 : ((Int.tmod (wrap64 ((wrap64 (t751 * t751)) + 1)) (rd t736 2)) != 0) = false := bne_eq_false_iff_eq.mpr c97
                 clear c97
                 by_cases c98 : 0 < (t736.length : Int)
                 rotate_left
                 ·rw [if_neg c98] at H
                  exact absurd H (by simp)
                 as_aux_lemma =>
                 rw [if_pos c98] at H
                 have c98b0 : decide (0 < (t736.length : Int)) = true := decide_eq_true c98
                 have c98b1 : decide (0 < t736.length) = true := decide_eq_true (by omega)
                 clear c98
                 by_cases c99 : 1 < (t736.length : Int)
                 rotate_left
                 ·rw [if_neg c99] at H
                  exact absurd H (by simp)
                 as_aux_lemma =>
                 rw [if_pos c99] at H
                 have c99b0 : decide (1 < (t736.length : Int)) = true := decide_eq_true c99
                 have c99b1 : decide (1 < t736.length) = true := decide_eq_true (by omega)
                 clear c99
                 have H' := Aside0.mk H
                 clear H
                 try go_wp2
                 have n0_ := Aside0.mk (Kd.R_drew HO_5.out)
                 have n1_ := Aside0.mk (Kd.S_drew HO_6.out)
                 have n2_ := Aside0.mk (below_drew1 HB.out)
                 clear HO_5; clear HO_6; clear HB; have HO_5 := n0_; have HO_6 := n1_; have HB := n2_; clear n0_ n1_ n2_
                 have p772 : 0 ≤ (0 : Int) := (by omega)
                 have q772 : 0 < (t736.length : Int) := of_decide_eq_true (by first | (with_reducible assumption) | assumption)
                 obtain ⟨ad772, e772, hx772_0⟩ := Kd.at_int (Kd.R_reads' HO_5.out).2.2 0 p772 q772
                 obtain rfl : ad771 = ad772 := (by injection e772)
                 have qi772 : (0 < t736.length) = True := eq_true (by omega)
                 (try rw [show ((0 : Int)).toNat = 0 from rfl] at hx772_0)
                 (try rw [Addr.add_zero'] at hx772_0)
                 replace p772 := eq_true p772; replace q772 := eq_true q772
                 have p773 : 0 ≤ (1 : Int) := (by omega)
                 have q773 : 1 < (t736.length : Int) := of_decide_eq_true (by first | (with_reducible assumption) | assumption)
                 obtain ⟨ad773, e773, hx773_0⟩ := Kd.at_int (Kd.R_reads' HO_5.out).2.2 1 p773 q773
                 obtain rfl : ad771 = ad773 := (by injection e773)
                 (try simp only [show (1 : Int).toNat = 1 from rfl, Nat.reduceMul, Nat.reduceEqDiff, Go.Addr.add, ↓reduceIte] at hx773_0)
                 have qi773 : (1 < t736.length) = True := eq_true (by omega)
                 (try rw [show ((1 : Int)).toNat = 1 from rfl] at hx773_0)
                 replace p773 := eq_true p773; replace q773 := eq_true q773
                 refine start_ (n := 30) (S := fun w' => w'.cell? ad771 = some (.int .i64 (rd t736 0)) ∧ w'.cell? ⟨ad771.block, ad771.off + 1, none⟩ = some (.int .i64 (rd t736 1))) (ds := []) b23MW (by kernel_rfl) rfl rfl ⟨hx772_0, hx773_0⟩ (fun hHeld => ?_); refine with_tabW laws_FnMarkovWords.tab22 laws_FnMarkovWords.bits22 (fun HT_ HW_ => ?_)
                 generalize wr.drew = w100 at HO_5 HO_6 HB hx772_0 hx773_0 hHeld ⊢
                 refine pure_ (i := 0) (N := some 172) (v := ?_) (a' := ?_) b24MW rfl rfl (any_of HT_.out (by kernel_rfl)) (fun _ _ _ h => h) (Or.inl ⟨by rfl, ?_⟩) ?_ ?_
                 rotate_left; (intro w'; go_simp; with_reducible rfl); rotate_left; (simp only [Act.put, List.setIfInBounds_toArray, List.set_cons_zero, List.set_cons_succ, i64_w]; rfl)
                 refine pure_ (i := 1) (N := some 173) (v := ?_) (a' := ?_) b25MW rfl rfl (any_of HT_.out (by kernel_rfl)) (fun _ _ _ h => h) (Or.inl ⟨by rfl, ?_⟩) ?_ ?_
                 rotate_left; (intro w'; go_simp; with_reducible rfl); rotate_left; (simp only [Act.put, List.setIfInBounds_toArray, List.set_cons_zero, List.set_cons_succ, i64_w]; rfl)
                 refine pure_ (i := 2) (N := some 174) (v := ?_) (a' := ?_) b26MW rfl rfl (any_of HT_.out (by kernel_rfl)) (fun _ _ _ h => h) (Or.inl ⟨by rfl, ?_⟩) ?_ ?_
                 rotate_left; (intro w'; go_simp; with_reducible rfl); rotate_left; (simp only [Act.put, List.setIfInBounds_toArray, List.set_cons_zero, List.set_cons_succ, i64_w]; rfl)
                 refine pure_ (i := 3) (N := some 175) (v := ?_) (a' := ?_) b27MW rfl rfl (any_of HT_.out (by kernel_rfl)) (fun _ _ _ h => h) (Or.inl ⟨by rfl, ?_⟩) ?_ ?_
                 rotate_left; (intro w'; go_simp; with_reducible rfl); rotate_left; (simp only [Act.put, List.setIfInBounds_toArray, List.set_cons_zero, List.set_cons_succ, i64_w]; rfl)
                 refine pure_ (i := 4) (N := some 176) (v := ?_) (a' := ?_) b28MW rfl rfl (any_of HT_.out (by kernel_rfl)) (fun _ _ _ h => h) (Or.inl ⟨by rfl, ?_⟩) ?_ ?_
                 rotate_left; (intro w'; go_simp; with_reducible rfl); rotate_left; (simp only [Act.put, List.setIfInBounds_toArray, List.set_cons_zero, List.set_cons_succ, i64_w]; rfl)
                 refine pure_ (i := 5) (N := some 177) (v := ?_) (a' := ?_) b29MW rfl rfl (any_of HT_.out (by kernel_rfl)) (fun _ _ _ h => h) (Or.inl ⟨by rfl, ?_⟩) ?_ ?_
                 rotate_left; (intro w'; go_simp; with_reducible rfl); rotate_left; (simp only [Act.put, List.setIfInBounds_toArray, List.set_cons_zero, List.set_cons_succ, i64_w]; rfl)
                 refine pure_ (i := 6) (N := some 178) (v := ?_) (a' := ?_) b30MW rfl rfl (any_of HT_.out (by kernel_rfl)) (fun _ _ _ h => h) (Or.inl ⟨by rfl, ?_⟩) ?_ ?_
                 rotate_left; (intro w'; go_simp; with_reducible rfl); rotate_left; (simp only [Act.put, List.setIfInBounds_toArray, List.set_cons_zero, List.set_cons_succ, i64_w]; rfl)
                 refine pure_ (i := 7) (N := some 179) (v := ?_) (a' := ?_) b31MW rfl rfl (any_of HT_.out (by kernel_rfl)) (fun _ _ _ h => h) (Or.inl ⟨by rfl, ?_⟩) ?_ ?_
                 rotate_left; (intro w'; go_simp; with_reducible rfl); rotate_left; (simp only [Act.put, List.setIfInBounds_toArray, List.set_cons_zero, List.set_cons_succ, i64_w]; rfl)
                 refine pure_ (i := 8) (N := some 180) (v := ?_) (a' := ?_) b32MW rfl rfl (any_of HT_.out (by kernel_rfl)) (fun _ _ _ h => h) (Or.inl ⟨by rfl, ?_⟩) ?_ ?_
                 rotate_left; (intro w'; go_simp; with_reducible rfl); rotate_left; (simp only [Act.put, List.setIfInBounds_toArray, List.set_cons_zero, List.set_cons_succ, i64_w]; rfl)
                 refine pure_ (i := 9) (N := some 181) (v := ?_) (a' := ?_) b33MW rfl rfl (any_of HT_.out (by kernel_rfl)) (fun _ _ _ h => h) (Or.inl ⟨by rfl, ?_⟩) ?_ ?_
                 rotate_left; (intro w'; go_simp; with_reducible rfl); rotate_left; (simp only [Act.put, List.setIfInBounds_toArray, List.set_cons_zero, List.set_cons_succ, i64_w]; rfl)
                 refine pure_ (i := 10) (N := some 182) (v := ?_) (a' := ?_) b34MW rfl rfl (any_of HT_.out (by kernel_rfl)) (fun _ _ _ h => h) (Or.inl ⟨by rfl, ?_⟩) ?_ ?_
                 rotate_left; (intro w'; go_simp; with_reducible rfl); rotate_left; (simp only [Act.put, List.setIfInBounds_toArray, List.set_cons_zero, List.set_cons_succ, i64_w]; rfl)
                 refine pure_ (i := 11) (N := some 183) (v := ?_) (a' := ?_) b35MW rfl rfl (any_of HT_.out (by kernel_rfl)) (fun _ _ _ h => h) (Or.inl ⟨by rfl, ?_⟩) ?_ ?_
                 rotate_left; (intro w'; go_simp; with_reducible rfl); rotate_left; (simp only [Act.put, List.setIfInBounds_toArray, List.set_cons_zero, List.set_cons_succ, i64_w]; rfl)
                 refine pure_ (i := 12) (N := some 184) (v := ?_) (a' := ?_) b36MW rfl rfl (any_of HT_.out (by kernel_rfl)) (fun _ _ _ h => h) (Or.inl ⟨by rfl, ?_⟩) ?_ ?_
                 rotate_left; (intro w'; go_simp; with_reducible rfl); rotate_left; (simp only [Act.put, List.setIfInBounds_toArray, List.set_cons_zero, List.set_cons_succ, i64_w]; rfl)
                 refine pure_ (i := 13) (N := some 185) (v := ?_) (a' := ?_) b37MW rfl rfl (any_of HT_.out (by kernel_rfl)) (fun _ _ _ h => h) (Or.inl ⟨by rfl, ?_⟩) ?_ ?_
                 rotate_left; (intro w'; go_simp; with_reducible rfl); rotate_left; (simp only [Act.put, List.setIfInBounds_toArray, List.set_cons_zero, List.set_cons_succ, i64_w]; rfl)
                 refine pure_ (i := 14) (N := some 186) (v := ?_) (a' := ?_) b38MW rfl rfl (any_of HT_.out (by kernel_rfl)) (fun _ _ _ h => h) (Or.inl ⟨by rfl, ?_⟩) ?_ ?_
                 rotate_left; (intro w'; go_simp; with_reducible rfl); rotate_left; (simp only [Act.put, List.setIfInBounds_toArray, List.set_cons_zero, List.set_cons_succ, i64_w]; rfl)
                 refine pure_ (i := 15) (N := some 187) (v := ?_) (a' := ?_) b39MW rfl rfl (any_of HT_.out (by kernel_rfl)) (fun _ _ _ h => h) (Or.inl ⟨by rfl, ?_⟩) ?_ ?_
                 rotate_left; (intro w'; go_simp; with_reducible rfl); rotate_left; (simp only [Act.put, List.setIfInBounds_toArray, List.set_cons_zero, List.set_cons_succ, i64_w]; rfl)
                 refine pure_ (i := 16) (N := some 188) (v := ?_) (a' := ?_) b40MW rfl rfl (any_of HT_.out (by kernel_rfl)) (fun _ _ _ h => h) (Or.inl ⟨by rfl, ?_⟩) ?_ ?_
                 rotate_left; (intro w'; go_simp; with_reducible rfl); rotate_left; (simp only [Act.put, List.setIfInBounds_toArray, List.set_cons_zero, List.set_cons_succ, i64_w]; rfl)
                 refine pure_ (i := 17) (N := some 189) (v := ?_) (a' := ?_) b41MW rfl rfl (any_of HT_.out (by kernel_rfl)) (fun _ _ _ h => h) (Or.inl ⟨by rfl, ?_⟩) ?_ ?_
                 rotate_left; (intro w'; go_simp; with_reducible rfl); rotate_left; (simp only [Act.put, List.setIfInBounds_toArray, List.set_cons_zero, List.set_cons_succ, i64_w]; rfl)
                 refine pure_ (i := 18) (N := some 190) (v := ?_) (a' := ?_) b42MW rfl rfl (any_of HT_.out (by kernel_rfl)) (fun _ _ _ h => h) (Or.inl ⟨by rfl, ?_⟩) ?_ ?_
                 rotate_left; (intro w'; go_simp; with_reducible rfl); rotate_left; (simp only [Act.put, List.setIfInBounds_toArray, List.set_cons_zero, List.set_cons_succ, i64_w]; rfl)
                 refine pure_ (i := 19) (N := some 191) (v := ?_) (a' := ?_) b43MW rfl rfl (any_of HT_.out (by kernel_rfl)) (fun _ _ _ h => h) (Or.inl ⟨by rfl, ?_⟩) ?_ ?_
                 rotate_left; (intro w'; go_simp; with_reducible rfl); rotate_left; (simp only [Act.put, List.setIfInBounds_toArray, List.set_cons_zero, List.set_cons_succ, i64_w]; rfl)
                 refine pure_ (i := 22) (N := some 194) (v := ?_) (a' := ?_) b54MW rfl rfl (any_of HT_.out (by kernel_rfl)) (fun _ _ _ h => h) (Or.inl ⟨by rfl, ?_⟩) ?_ ?_
                 rotate_left; (intro w'; go_simp; with_reducible rfl); rotate_left; (simp only [Act.put, List.setIfInBounds_toArray, List.set_cons_zero, List.set_cons_succ, i64_w]; rfl)
                 refine pure_ (i := 23) (N := some 195) (v := ?_) (a' := ?_) b55MW rfl rfl (any_of HT_.out (by kernel_rfl)) (fun _ _ _ h => h) (Or.inl ⟨by rfl, ?_⟩) ?_ ?_
                 rotate_left; (intro w'; go_simp; with_reducible rfl); rotate_left; (simp only [Act.put, List.setIfInBounds_toArray, List.set_cons_zero, List.set_cons_succ, i64_w]; rfl)
                 refine pure_ (i := 26) (N := some 198) (v := ?_) (a' := ?_) b56MW rfl rfl (any_of HT_.out (by kernel_rfl)) (fun _ _ _ h => h) (Or.inl ⟨by rfl, ?_⟩) ?_ ?_
                 rotate_left; (intro w'; go_simp; with_reducible rfl); rotate_left; (simp only [Act.put, List.setIfInBounds_toArray, List.set_cons_zero, List.set_cons_succ, i64_w]; rfl)
                 refine take_ (i := 20) (N := some 192) (v := ?_) (a' := ?_) b57MW rfl rfl (take_ofW HT_.out HW_.out (by kernel_rfl)) (fun _ _ _ h => h) (Or.inl ⟨by rfl, ?_⟩) hHeld ?_ ?_
                 rotate_left
                 ·rintro w' ⟨s0, s1⟩
                  go_simp
                  with_reducible rfl
                 rotate_left
                 ·simp only [Act.put, List.setIfInBounds_toArray, List.set_cons_zero, List.set_cons_succ, i64_w]
                  rfl
                 refine pure_ (i := 21) (N := some 193) (v := ?_) (a' := ?_) b58MW rfl rfl (any_of HT_.out (by kernel_rfl)) (fun _ _ _ h => h) (Or.inl ⟨by rfl, ?_⟩) ?_ ?_
                 rotate_left; (intro w'; go_simp; with_reducible rfl); rotate_left; (simp only [Act.put, List.setIfInBounds_toArray, List.set_cons_zero, List.set_cons_succ, i64_w]; rfl)
                 refine take_ (i := 24) (N := some 196) (v := ?_) (a' := ?_) b59MW rfl rfl (take_ofW HT_.out HW_.out (by kernel_rfl)) (fun _ _ _ h => h) (Or.inl ⟨by rfl, ?_⟩) hHeld ?_ ?_
                 rotate_left
                 ·rintro w' ⟨s0, s1⟩
                  go_simp
                  with_reducible rfl
                 rotate_left
                 ·simp only [Act.put, List.setIfInBounds_toArray, List.set_cons_zero, List.set_cons_succ, i64_w]
                  rfl
                 refine pure_ (i := 25) (N := some 197) (v := ?_) (a' := ?_) b50MW rfl rfl (any_of HT_.out (by kernel_rfl)) (fun _ _ _ h => h) (Or.inl ⟨by rfl, ?_⟩) ?_ ?_
                 rotate_left; (intro w'; go_simp; with_reducible rfl); rotate_left; (simp only [Act.put, List.setIfInBounds_toArray, List.set_cons_zero, List.set_cons_succ, i64_w]; rfl)
                 refine pure_ (i := 27) (N := some 199) (v := ?_) (a' := ?_) b51MW rfl rfl (any_of HT_.out (by kernel_rfl)) (fun _ _ _ h => h) (Or.inl ⟨by rfl, ?_⟩) ?_ ?_
                 rotate_left; (intro w'; go_simp; with_reducible rfl); rotate_left; (simp only [Act.put, List.setIfInBounds_toArray, List.set_cons_zero, List.set_cons_succ, i64_w]; rfl)
                 refine pure_ (i := 28) (N := some 200) (v := ?_) (a' := ?_) b52MW rfl rfl (any_of HT_.out (by kernel_rfl)) (fun _ _ _ h => h) (Or.inl ⟨by rfl, ?_⟩) ?_ ?_
                 rotate_left; (intro w'; go_simp; with_reducible rfl); rotate_left; (simp only [Act.put, List.setIfInBounds_toArray, List.set_cons_zero, List.set_cons_succ, i64_w]; rfl)
                 refine pure_ (i := 29) (N := some 201) (v := ?_) (a' := ?_) b53MW rfl rfl (any_of HT_.out (by kernel_rfl)) (fun _ _ _ h => h) (Or.inl ⟨by rfl, ?_⟩) ?_ ?_
                 rotate_left; (intro w'; go_simp; with_reducible rfl); rotate_left; (simp only [Act.put, List.setIfInBounds_toArray, List.set_cons_zero, List.set_cons_succ, i64_w]; rfl)
                 refine done_ (done_of HT_.out (by kernel_rfl)) ?_
                 try go_wp2
                 go_meet
                 case rel => exact ⟨_, (((Int.tmod (wrap64 ((wrap64 (t751 * (rd t736 0))) - (rd t736 1))) (rd t736 2)) != 0)), (by first | rfl | (simp; done) | (simp [*]; done)), H', ⟨by have := HJ11.out; have := HJ47.out; have := HK3.out; first | omega | exact Nat.le_refl _⟩, ⟨by (with_reducible repeat (first | apply Kd.R_alloc | apply Kd.R_drewN | apply Kd.R_drew)); exact HO_5.out⟩, ⟨by repeat (first | (with_reducible first | exact HB.out | apply below_alloc | apply pw_below_drewN | apply below_drew1) | exact HB.out)⟩⟩
                ·as_aux_lemma =>
                 rw [if_neg c97] at H
                 have c97b0 : ((Int.tmod (wrap64 ((wrap64 (t751 * t751)) + 1)) (rd t736 2)) == 0) = false := beq_eq_false_iff_ne.mpr c97
                 have c97b1 : ((Int.tmod (wrap64 ((wrap64 (t751 * t751)) + 1)) (rd t736 2)) != 0) = true := bne_iff_ne.mpr c97
                 have H' := Aside0.mk H
                 clear H
                 try go_wp2
                 have n0_ := Aside0.mk (Kd.R_drew HO_5.out)
                 have n1_ := Aside0.mk (Kd.S_drew HO_6.out)
                 have n2_ := Aside0.mk (below_drew1 HB.out)
                 clear HO_5; clear HO_6; clear HB; have HO_5 := n0_; have HO_6 := n1_; have HB := n2_; clear n0_ n1_ n2_
                 refine start_ (n := 30) (S := fun w' => True) (ds := []) b23MW (by kernel_rfl) rfl rfl trivial (fun hHeld => ?_); refine with_tabW laws_FnMarkovWords.tab22 laws_FnMarkovWords.bits22 (fun HT_ HW_ => ?_)
                 generalize wr.drew = w101 at HO_5 HO_6 HB hHeld ⊢
                 refine pure_ (i := 0) (N := some 172) (v := ?_) (a' := ?_) b24MW rfl rfl (any_of HT_.out (by kernel_rfl)) (fun _ _ _ h => h) (Or.inl ⟨by rfl, ?_⟩) ?_ ?_
                 rotate_left; (intro w'; go_simp; with_reducible rfl); rotate_left; (simp only [Act.put, List.setIfInBounds_toArray, List.set_cons_zero, List.set_cons_succ, i64_w]; rfl)
                 refine pure_ (i := 1) (N := some 173) (v := ?_) (a' := ?_) b25MW rfl rfl (any_of HT_.out (by kernel_rfl)) (fun _ _ _ h => h) (Or.inl ⟨by rfl, ?_⟩) ?_ ?_
                 rotate_left; (intro w'; go_simp; with_reducible rfl); rotate_left; (simp only [Act.put, List.setIfInBounds_toArray, List.set_cons_zero, List.set_cons_succ, i64_w]; rfl)
                 refine pure_ (i := 2) (N := some 174) (v := ?_) (a' := ?_) b26MW rfl rfl (any_of HT_.out (by kernel_rfl)) (fun _ _ _ h => h) (Or.inl ⟨by rfl, ?_⟩) ?_ ?_
                 rotate_left; (intro w'; go_simp; with_reducible rfl); rotate_left; (simp only [Act.put, List.setIfInBounds_toArray, List.set_cons_zero, List.set_cons_succ, i64_w]; rfl)
                 refine pure_ (i := 3) (N := some 175) (v := ?_) (a' := ?_) b27MW rfl rfl (any_of HT_.out (by kernel_rfl)) (fun _ _ _ h => h) (Or.inl ⟨by rfl, ?_⟩) ?_ ?_
                 rotate_left; (intro w'; go_simp; with_reducible rfl); rotate_left; (simp only [Act.put, List.setIfInBounds_toArray, List.set_cons_zero, List.set_cons_succ, i64_w]; rfl)
                 refine pure_ (i := 4) (N := some 176) (v := ?_) (a' := ?_) b28MW rfl rfl (any_of HT_.out (by kernel_rfl)) (fun _ _ _ h => h) (Or.inl ⟨by rfl, ?_⟩) ?_ ?_
                 rotate_left; (intro w'; go_simp; with_reducible rfl); rotate_left; (simp only [Act.put, List.setIfInBounds_toArray, List.set_cons_zero, List.set_cons_succ, i64_w]; rfl)
                 refine pure_ (i := 5) (N := some 177) (v := ?_) (a' := ?_) b29MW rfl rfl (any_of HT_.out (by kernel_rfl)) (fun _ _ _ h => h) (Or.inl ⟨by rfl, ?_⟩) ?_ ?_
                 rotate_left; (intro w'; go_simp; with_reducible rfl); rotate_left; (simp only [Act.put, List.setIfInBounds_toArray, List.set_cons_zero, List.set_cons_succ, i64_w]; rfl)
                 refine pure_ (i := 6) (N := some 178) (v := ?_) (a' := ?_) b30MW rfl rfl (any_of HT_.out (by kernel_rfl)) (fun _ _ _ h => h) (Or.inl ⟨by rfl, ?_⟩) ?_ ?_
                 rotate_left; (intro w'; go_simp; with_reducible rfl); rotate_left; (simp only [Act.put, List.setIfInBounds_toArray, List.set_cons_zero, List.set_cons_succ, i64_w]; rfl)
                 refine pure_ (i := 7) (N := some 179) (v := ?_) (a' := ?_) b31MW rfl rfl (any_of HT_.out (by kernel_rfl)) (fun _ _ _ h => h) (Or.inl ⟨by rfl, ?_⟩) ?_ ?_
                 rotate_left; (intro w'; go_simp; with_reducible rfl); rotate_left; (simp only [Act.put, List.setIfInBounds_toArray, List.set_cons_zero, List.set_cons_succ, i64_w]; rfl)
                 refine pure_ (i := 8) (N := some 180) (v := ?_) (a' := ?_) b32MW rfl rfl (any_of HT_.out (by kernel_rfl)) (fun _ _ _ h => h) (Or.inl ⟨by rfl, ?_⟩) ?_ ?_
                 rotate_left; (intro w'; go_simp; with_reducible rfl); rotate_left; (simp only [Act.put, List.setIfInBounds_toArray, List.set_cons_zero, List.set_cons_succ, i64_w]; rfl)
                 refine pure_ (i := 9) (N := some 181) (v := ?_) (a' := ?_) b33MW rfl rfl (any_of HT_.out (by kernel_rfl)) (fun _ _ _ h => h) (Or.inl ⟨by rfl, ?_⟩) ?_ ?_
                 rotate_left; (intro w'; go_simp; with_reducible rfl); rotate_left; (simp only [Act.put, List.setIfInBounds_toArray, List.set_cons_zero, List.set_cons_succ, i64_w]; rfl)
                 refine pure_ (i := 10) (N := some 182) (v := ?_) (a' := ?_) b34MW rfl rfl (any_of HT_.out (by kernel_rfl)) (fun _ _ _ h => h) (Or.inl ⟨by rfl, ?_⟩) ?_ ?_
                 rotate_left; (intro w'; go_simp; with_reducible rfl); rotate_left; (simp only [Act.put, List.setIfInBounds_toArray, List.set_cons_zero, List.set_cons_succ, i64_w]; rfl)
                 refine pure_ (i := 11) (N := some 183) (v := ?_) (a' := ?_) b35MW rfl rfl (any_of HT_.out (by kernel_rfl)) (fun _ _ _ h => h) (Or.inl ⟨by rfl, ?_⟩) ?_ ?_
                 rotate_left; (intro w'; go_simp; with_reducible rfl); rotate_left; (simp only [Act.put, List.setIfInBounds_toArray, List.set_cons_zero, List.set_cons_succ, i64_w]; rfl)
                 refine pure_ (i := 12) (N := some 184) (v := ?_) (a' := ?_) b36MW rfl rfl (any_of HT_.out (by kernel_rfl)) (fun _ _ _ h => h) (Or.inl ⟨by rfl, ?_⟩) ?_ ?_
                 rotate_left; (intro w'; go_simp; with_reducible rfl); rotate_left; (simp only [Act.put, List.setIfInBounds_toArray, List.set_cons_zero, List.set_cons_succ, i64_w]; rfl)
                 refine pure_ (i := 13) (N := some 185) (v := ?_) (a' := ?_) b37MW rfl rfl (any_of HT_.out (by kernel_rfl)) (fun _ _ _ h => h) (Or.inl ⟨by rfl, ?_⟩) ?_ ?_
                 rotate_left; (intro w'; go_simp; with_reducible rfl); rotate_left; (simp only [Act.put, List.setIfInBounds_toArray, List.set_cons_zero, List.set_cons_succ, i64_w]; rfl)
                 refine pure_ (i := 14) (N := some 186) (v := ?_) (a' := ?_) b38MW rfl rfl (any_of HT_.out (by kernel_rfl)) (fun _ _ _ h => h) (Or.inl ⟨by rfl, ?_⟩) ?_ ?_
                 rotate_left; (intro w'; go_simp; with_reducible rfl); rotate_left; (simp only [Act.put, List.setIfInBounds_toArray, List.set_cons_zero, List.set_cons_succ, i64_w]; rfl)
                 refine pure_ (i := 15) (N := some 187) (v := ?_) (a' := ?_) b39MW rfl rfl (any_of HT_.out (by kernel_rfl)) (fun _ _ _ h => h) (Or.inl ⟨by rfl, ?_⟩) ?_ ?_
                 rotate_left; (intro w'; go_simp; with_reducible rfl); rotate_left; (simp only [Act.put, List.setIfInBounds_toArray, List.set_cons_zero, List.set_cons_succ, i64_w]; rfl)
                 refine pure_ (i := 16) (N := some 188) (v := ?_) (a' := ?_) b40MW rfl rfl (any_of HT_.out (by kernel_rfl)) (fun _ _ _ h => h) (Or.inl ⟨by rfl, ?_⟩) ?_ ?_
                 rotate_left; (intro w'; go_simp; with_reducible rfl); rotate_left; (simp only [Act.put, List.setIfInBounds_toArray, List.set_cons_zero, List.set_cons_succ, i64_w]; rfl)
                 refine pure_ (i := 17) (N := some 189) (v := undef) (a' := ?_) b41MW rfl rfl (any_of HT_.out (by kernel_rfl)) (fun _ _ _ h => h) (Or.inr ⟨by rfl, rfl⟩) ?_ ?_
                 rotate_left
                 ·simp only [Act.put, List.setIfInBounds_toArray, List.set_cons_zero, List.set_cons_succ, i64_w]
                  rfl
                 refine pure_ (i := 18) (N := some 190) (v := undef) (a' := ?_) b42MW rfl rfl (any_of HT_.out (by kernel_rfl)) (fun _ _ _ h => h) (Or.inr ⟨by rfl, rfl⟩) ?_ ?_
                 rotate_left
                 ·simp only [Act.put, List.setIfInBounds_toArray, List.set_cons_zero, List.set_cons_succ, i64_w]
                  rfl
                 refine pure_ (i := 19) (N := some 191) (v := undef) (a' := ?_) b43MW rfl rfl (any_of HT_.out (by kernel_rfl)) (fun _ _ _ h => h) (Or.inr ⟨by rfl, rfl⟩) ?_ ?_
                 rotate_left
                 ·simp only [Act.put, List.setIfInBounds_toArray, List.set_cons_zero, List.set_cons_succ, i64_w]
                  rfl
                 refine pure_ (i := 20) (N := some 192) (v := undef) (a' := ?_) b44MW rfl rfl (any_of HT_.out (by kernel_rfl)) (fun _ _ _ h => h) (Or.inr ⟨by rfl, rfl⟩) ?_ ?_
                 rotate_left
                 ·simp only [Act.put, List.setIfInBounds_toArray, List.set_cons_zero, List.set_cons_succ, i64_w]
                  rfl
                 refine pure_ (i := 21) (N := some 193) (v := undef) (a' := ?_) b45MW rfl rfl (any_of HT_.out (by kernel_rfl)) (fun _ _ _ h => h) (Or.inr ⟨by rfl, rfl⟩) ?_ ?_
                 rotate_left
                 ·simp only [Act.put, List.setIfInBounds_toArray, List.set_cons_zero, List.set_cons_succ, i64_w]
                  rfl
                 refine pure_ (i := 22) (N := some 194) (v := undef) (a' := ?_) b46MW rfl rfl (any_of HT_.out (by kernel_rfl)) (fun _ _ _ h => h) (Or.inr ⟨by rfl, rfl⟩) ?_ ?_
                 rotate_left
                 ·simp only [Act.put, List.setIfInBounds_toArray, List.set_cons_zero, List.set_cons_succ, i64_w]
                  rfl
                 refine pure_ (i := 23) (N := some 195) (v := undef) (a' := ?_) b47MW rfl rfl (any_of HT_.out (by kernel_rfl)) (fun _ _ _ h => h) (Or.inr ⟨by rfl, rfl⟩) ?_ ?_
                 rotate_left
                 ·simp only [Act.put, List.setIfInBounds_toArray, List.set_cons_zero, List.set_cons_succ, i64_w]
                  rfl
                 refine pure_ (i := 24) (N := some 196) (v := undef) (a' := ?_) b48MW rfl rfl (any_of HT_.out (by kernel_rfl)) (fun _ _ _ h => h) (Or.inr ⟨by rfl, rfl⟩) ?_ ?_
                 rotate_left
                 ·simp only [Act.put, List.setIfInBounds_toArray, List.set_cons_zero, List.set_cons_succ, i64_w]
                  rfl
                 refine pure_ (i := 25) (N := some 197) (v := undef) (a' := ?_) b49MW rfl rfl (any_of HT_.out (by kernel_rfl)) (fun _ _ _ h => h) (Or.inr ⟨by rfl, rfl⟩) ?_ ?_
                 rotate_left
                 ·simp only [Act.put, List.setIfInBounds_toArray, List.set_cons_zero, List.set_cons_succ, i64_w]
                  rfl
                 refine pure_ (i := 26) (N := some 198) (v := undef) (a' := ?_) b50MW rfl rfl (any_of HT_.out (by kernel_rfl)) (fun _ _ _ h => h) (Or.inr ⟨by rfl, rfl⟩) ?_ ?_
                 rotate_left
                 ·simp only [Act.put, List.setIfInBounds_toArray, List.set_cons_zero, List.set_cons_succ, i64_w]
                  rfl
                 refine pure_ (i := 27) (N := some 199) (v := undef) (a' := ?_) b51MW rfl rfl (any_of HT_.out (by kernel_rfl)) (fun _ _ _ h => h) (Or.inr ⟨by rfl, rfl⟩) ?_ ?_
                 rotate_left
                 ·simp only [Act.put, List.setIfInBounds_toArray, List.set_cons_zero, List.set_cons_succ, i64_w]
                  rfl
                 refine pure_ (i := 28) (N := some 200) (v := undef) (a' := ?_) b52MW rfl rfl (any_of HT_.out (by kernel_rfl)) (fun _ _ _ h => h) (Or.inr ⟨by rfl, rfl⟩) ?_ ?_
                 rotate_left
                 ·simp only [Act.put, List.setIfInBounds_toArray, List.set_cons_zero, List.set_cons_succ, i64_w]
                  rfl
                 refine pure_ (i := 29) (N := some 201) (v := ?_) (a' := ?_) b53MW rfl rfl (any_of HT_.out (by kernel_rfl)) (fun _ _ _ h => h) (Or.inl ⟨by rfl, ?_⟩) ?_ ?_
                 rotate_left; (intro w'; go_simp; with_reducible rfl); rotate_left; (simp only [Act.put, List.setIfInBounds_toArray, List.set_cons_zero, List.set_cons_succ, i64_w]; rfl)
                 refine done_ (done_of HT_.out (by kernel_rfl)) ?_
                 try go_wp2
                 go_meet
                 case rel => exact ⟨_, (true), (by first | rfl | (simp; done) | (simp [*]; done)), H', ⟨by have := HJ11.out; have := HJ47.out; have := HK3.out; first | omega | exact Nat.le_refl _⟩, ⟨by (with_reducible repeat (first | apply Kd.R_alloc | apply Kd.R_drewN | apply Kd.R_drew)); exact HO_5.out⟩, ⟨by repeat (first | (with_reducible first | exact HB.out | apply below_alloc | apply pw_below_drewN | apply below_drew1) | exact HB.out)⟩⟩
             case rest => as_aux_lemma =>
              clear HC91
              try clear p2
              try clear p6
              try clear p7
              try clear q7
              try clear hx7
              try clear qi7
              try clear c9
              try clear p64
              try clear p77
              try clear q77
              try clear hx77
              try clear qi77
              try clear c94
              try clear c94b0
              try clear c96
              try clear c96b0
              try clear c96b1
              try clear c97
              try clear c97b0
              try clear c97b1
              try clear c98
              try clear c98b0
              try clear c98b1
              try clear c99
              try clear c99b0
              try clear c99b1
              try clear hx772_0
              try clear hx773_0
              try clear p772
              try clear p773
              try clear q772
              try clear q773
              obtain ⟨kq, x201_90, rfl, HA, HJ90, HO_5, HB⟩ := hcut
              cases kq with
              | zero => exact absurd HA.out (by simp [laws_FnMarkovWords.j3])
              | succ kj90 =>
               have H := HA.out; clear HA
               simp only [laws_FnMarkovWords.j3] at H
               by_cases c102 : x201_90 = true
               ·subst c102
                have H1 : (some false) = some r := by rw [if_pos rfl] at H; exact H
                clear H; have H := H1; clear H1
                obtain rfl := Option.some.inj H
                go_wp2
                go_ret
                exact ⟨by first | rfl | (simp [errW_none, errW_some] <;> rfl) | (simp [*, errW_none, errW_some] <;> rfl), by repeat (first | (with_reducible first | exact HB.out | apply below_alloc | apply pw_below_drewN | apply below_drew1) | exact HB.out)⟩
               ·replace c102 := Bool.eq_false_iff.mpr c102
                subst c102
                have H1 : (laws_FnMarkovWords.j4 kj90 l1 t736 t747 t748) = some r := by rw [if_neg (show ¬ (false = true) by decide)] at H; exact H
                clear H; have H := H1; clear H1
                have H' := Aside0.mk H
                clear H
                go_wp2
                go_meet
                case rel => exact ⟨_, H', ⟨by have := HJ11.out; have := HJ47.out; have := HK3.out; have := HJ90.out; first | omega | exact Nat.le_refl _⟩, ⟨by (with_reducible repeat (first | apply Kd.R_alloc | apply Kd.R_drewN | apply Kd.R_drew)); exact HO_5.out⟩, ⟨by repeat (first | (with_reducible first | exact HB.out | apply below_alloc | apply pw_below_drewN | apply below_drew1) | exact HB.out)⟩⟩
      ·replace c47 := Bool.eq_false_iff.mpr c47
       subst c47
       have H1 : (laws_FnMarkovWords.j4 kj11 l1 t736 t747 t748) = some r := by rw [if_neg (show ¬ (false = true) by decide)] at H; exact H
       clear H; have H := H1; clear H1
       have H' := Aside0.mk H
       clear H
       go_wp2
       go_meet
       case rel => exact ⟨_, H', ⟨by have := HJ11.out; first | omega | exact Nat.le_refl _⟩, ⟨by (with_reducible repeat (first | apply Kd.R_alloc | apply Kd.R_drewN | apply Kd.R_drew)); exact HO_5.out⟩, ⟨by repeat (first | (with_reducible first | exact HB.out | apply below_alloc | apply pw_below_drewN | apply below_drew1) | exact HB.out)⟩⟩
     case rest => as_aux_lemma =>
      clear HC46
      try clear c1
      try clear p2
      try clear c4
      try clear p6
      try clear p7
      try clear q7
      try clear hx7
      try clear qi7
      try clear c9
      try clear c10
      try clear c47
      try clear p64
      try clear p77
      try clear q77
      try clear hx77
      try clear qi77
      try clear c90
      try clear c94
      try clear c94b0
      try clear c96
      try clear c96b0
      try clear c96b1
      try clear c97
      try clear c97b0
      try clear c97b1
      try clear c98
      try clear c98b0
      try clear c98b1
      try clear c99
      try clear c99b0
      try clear c99b1
      try clear c102
      try clear hx772_0
      try clear hx773_0
      try clear p2
      try clear p6
      try clear p64
      try clear p7
      try clear p77
      try clear p772
      try clear p773
      try clear q7
      try clear q77
      try clear q772
      try clear q773
      obtain ⟨kq, HA, HJ45, HO_5, HB⟩ := hcut
      cases kq with
      | zero => exact absurd HA.out (by simp [laws_FnMarkovWords.j4])
      | succ kj45 =>
       have H := HA.out; clear HA
       simp only [laws_FnMarkovWords.j4] at H
       have HC103 := Aside0.mk H
       clear H
       go_upto_if 202 with (fail)
       go_cut [] (fun wc => ∃ (kq : Nat), Aside0 (laws_FnMarkovWords.j5 kq l1 = some r) ∧ Aside0 (kq ≤ kj45) ∧ Aside0 (Below w.heap.size w wc))
       case first => as_aux_lemma =>
        have H := HC103.out; clear HC103
        by_cases c104 : t748 = true
        ·as_aux_lemma =>
         subst c104
         have H1 : ((impl_MarkovOfWord.f kj45 t747).bind fun bt774 => (if bt774.2 = true then ((laws_dSame.f kj45 bt774.1 t736).bind fun t778 => (if t778 = true then (laws_FnMarkovWords.j5 kj45 l1) else (some false))) else (some false))) = some r := by rw [if_pos rfl] at H; exact H
         clear H; have H := H1; clear H1
         replace H := Option.bind_eq_some_iff.mp H
         obtain ⟨⟨t774, t775⟩, A1050, H⟩ := H
         replace H : (if t775 = true then ((laws_dSame.f kj45 t774 t736).bind fun t778 => (if t778 = true then (laws_FnMarkovWords.j5 kj45 l1) else (some false))) else (some false)) = some r := H
         have A105 := Aside0.mk A1050
         clear A1050
         by_cases c106 : t775 = true
         ·as_aux_lemma =>
          subst c106
          have H1 : ((laws_dSame.f kj45 t774 t736).bind fun t778 => (if t778 = true then (laws_FnMarkovWords.j5 kj45 l1) else (some false))) = some r := by rw [if_pos rfl] at H; exact H
          clear H; have H := H1; clear H1
          replace H := Option.bind_eq_some_iff.mp H
          obtain ⟨t778, A1070, H⟩ := H
          replace H : (if t778 = true then (laws_FnMarkovWords.j5 kj45 l1) else (some false)) = some r := H
          have A107 := Aside0.mk A1070
          clear A1070
          by_cases c108 : t778 = true
          ·subst c108
           have H1 : (laws_FnMarkovWords.j5 kj45 l1) = some r := by rw [if_pos rfl] at H; exact H
           clear H; have H := H1; clear H1
           have H' := Aside0.mk H
           clear H
           go_wp2_with (first | ((with_reducible refine gate_callee (f := 26) rfl ?_); refine goesL_ (some 205) rfl rfl Try.func26 (by kernel_rfl) rfl #[.string t747] rfl (by (try simp only [List.map_toArray, List.map_cons, List.map_nil]); first | done | rfl) ?_; (with_reducible refine (impl_MarkovOfWord.calls kj45 t747 t774 true _ A105.out).mono ?_); rintro e w109 ⟨v776, rfl, ho0, hb⟩; refine ⟨_, rfl, ?_⟩; have n0_ := Aside0.mk (Kd.R_elder' (by (with_reducible repeat (first | apply Kd.R_alloc | apply Kd.R_drewN | apply Kd.R_drew)); exact HO_5.out) (Kd.R_base ho0) hb); have n1_ := Aside0.mk (Kd.R_lower (Kd.R_new' ho0 (Kd.R_lt (by (with_reducible repeat (first | apply Kd.R_alloc | apply Kd.R_drewN | apply Kd.R_drew)); exact HO_5.out))) (below_size (by repeat (first | (with_reducible first | exact HB.out | apply below_alloc | apply pw_below_drewN | apply below_drew1) | exact HB.out)))); have n2_ := Aside0.mk (below_step (by repeat (first | (with_reducible first | exact HB.out | apply below_alloc | apply pw_below_drewN | apply below_drew1) | exact HB.out)) hb); clear HO_5; clear HB; have HO_5 := n0_; have HO777 := n1_; have HB := n2_; clear n0_ n1_ n2_; (try clear hb); (try clear hb2); (try clear hk); (try clear hi); (try clear ho0); obtain ⟨Ao110, co110, eo110⟩ := Kd.R_slice HO777.out; subst eo110) | (go_at_call 40; (with_reducible refine (laws_dSame.calls kj45 _ _ t774 _ _ t736 true _ ?side1 ?side2 ?side3 ?side4 A107.out).mono ?_); (case side1 => repeat (first | exact (Kd.R_reads' HO777.out).2.2 | (with_reducible refine Kd.C_alloc ?_ _) | (with_reducible refine Kd.C_drewN ?_ _) | (with_reducible refine Kd.C_drew ?_))); (case side2 => exact (Kd.R_reads' HO777.out).2.1); (case side3 => repeat (first | exact (Kd.R_reads' HO_5.out).2.2 | (with_reducible refine Kd.C_alloc ?_ _) | (with_reducible refine Kd.C_drewN ?_ _) | (with_reducible refine Kd.C_drew ?_))); (case side4 => exact (Kd.R_reads' HO_5.out).2.1); rintro e w' ⟨rfl, ⟨nd, rfl⟩⟩))
           go_meet
           case rel => exact ⟨_, H', ⟨by have := HJ11.out; have := HJ45.out; first | omega | exact Nat.le_refl _⟩, ⟨by repeat (first | (with_reducible first | exact HB.out | apply below_alloc | apply pw_below_drewN | apply below_drew1) | exact HB.out)⟩⟩
          ·replace c108 := Bool.eq_false_iff.mpr c108
           subst c108
           have H1 : (some false) = some r := by rw [if_neg (show ¬ (false = true) by decide)] at H; exact H
           clear H; have H := H1; clear H1
           obtain rfl := Option.some.inj H
           go_wp2_with (first | ((with_reducible refine gate_callee (f := 26) rfl ?_); refine goesL_ (some 205) rfl rfl Try.func26 (by kernel_rfl) rfl #[.string t747] rfl (by (try simp only [List.map_toArray, List.map_cons, List.map_nil]); first | done | rfl) ?_; (with_reducible refine (impl_MarkovOfWord.calls kj45 t747 t774 true _ A105.out).mono ?_); rintro e w111 ⟨v776, rfl, ho0, hb⟩; refine ⟨_, rfl, ?_⟩; have n0_ := Aside0.mk (Kd.R_elder' (by (with_reducible repeat (first | apply Kd.R_alloc | apply Kd.R_drewN | apply Kd.R_drew)); exact HO_5.out) (Kd.R_base ho0) hb); have n1_ := Aside0.mk (Kd.R_lower (Kd.R_new' ho0 (Kd.R_lt (by (with_reducible repeat (first | apply Kd.R_alloc | apply Kd.R_drewN | apply Kd.R_drew)); exact HO_5.out))) (below_size (by repeat (first | (with_reducible first | exact HB.out | apply below_alloc | apply pw_below_drewN | apply below_drew1) | exact HB.out)))); have n2_ := Aside0.mk (below_step (by repeat (first | (with_reducible first | exact HB.out | apply below_alloc | apply pw_below_drewN | apply below_drew1) | exact HB.out)) hb); clear HO_5; clear HB; have HO_5 := n0_; have HO777 := n1_; have HB := n2_; clear n0_ n1_ n2_; (try clear hb); (try clear hb2); (try clear hk); (try clear hi); (try clear ho0); obtain ⟨Ao112, co112, eo112⟩ := Kd.R_slice HO777.out; subst eo112) | (go_at_call 40; (with_reducible refine (laws_dSame.calls kj45 _ _ t774 _ _ t736 false _ ?side1 ?side2 ?side3 ?side4 A107.out).mono ?_); (case side1 => repeat (first | exact (Kd.R_reads' HO777.out).2.2 | (with_reducible refine Kd.C_alloc ?_ _) | (with_reducible refine Kd.C_drewN ?_ _) | (with_reducible refine Kd.C_drew ?_))); (case side2 => exact (Kd.R_reads' HO777.out).2.1); (case side3 => repeat (first | exact (Kd.R_reads' HO_5.out).2.2 | (with_reducible refine Kd.C_alloc ?_ _) | (with_reducible refine Kd.C_drewN ?_ _) | (with_reducible refine Kd.C_drew ?_))); (case side4 => exact (Kd.R_reads' HO_5.out).2.1); rintro e w' ⟨rfl, ⟨nd, rfl⟩⟩))
           go_ret
           exact ⟨by first | rfl | (simp [errW_none, errW_some] <;> rfl) | (simp [*, errW_none, errW_some] <;> rfl), by repeat (first | (with_reducible first | exact HB.out | apply below_alloc | apply pw_below_drewN | apply below_drew1) | exact HB.out)⟩
         ·replace c106 := Bool.eq_false_iff.mpr c106
          subst c106
          have H1 : (some false) = some r := by rw [if_neg (show ¬ (false = true) by decide)] at H; exact H
          clear H; have H := H1; clear H1
          obtain rfl := Option.some.inj H
          go_wp2_with (first | ((with_reducible refine gate_callee (f := 26) rfl ?_); refine goesL_ (some 205) rfl rfl Try.func26 (by kernel_rfl) rfl #[.string t747] rfl (by (try simp only [List.map_toArray, List.map_cons, List.map_nil]); first | done | rfl) ?_; (with_reducible refine (impl_MarkovOfWord.calls kj45 t747 t774 false _ A105.out).mono ?_); rintro e w113 ⟨v776, rfl, ho0, hb⟩; refine ⟨_, rfl, ?_⟩; have n0_ := Aside0.mk (Kd.R_elder' (by (with_reducible repeat (first | apply Kd.R_alloc | apply Kd.R_drewN | apply Kd.R_drew)); exact HO_5.out) (Kd.R_base ho0) hb); have n1_ := Aside0.mk (Kd.R_lower (Kd.R_new' ho0 (Kd.R_lt (by (with_reducible repeat (first | apply Kd.R_alloc | apply Kd.R_drewN | apply Kd.R_drew)); exact HO_5.out))) (below_size (by repeat (first | (with_reducible first | exact HB.out | apply below_alloc | apply pw_below_drewN | apply below_drew1) | exact HB.out)))); have n2_ := Aside0.mk (below_step (by repeat (first | (with_reducible first | exact HB.out | apply below_alloc | apply pw_below_drewN | apply below_drew1) | exact HB.out)) hb); clear HO_5; clear HB; have HO_5 := n0_; have HO777 := n1_; have HB := n2_; clear n0_ n1_ n2_; (try clear hb); (try clear hb2); (try clear hk); (try clear hi); (try clear ho0)))
          go_ret
          exact ⟨by first | rfl | (simp [errW_none, errW_some] <;> rfl) | (simp [*, errW_none, errW_some] <;> rfl), by repeat (first | (with_reducible first | exact HB.out | apply below_alloc | apply pw_below_drewN | apply below_drew1) | exact HB.out)⟩
        ·replace c104 := Bool.eq_false_iff.mpr c104
         subst c104
         have H1 : (laws_FnMarkovWords.j5 kj45 l1) = some r := by rw [if_neg (show ¬ (false = true) by decide)] at H; exact H
         clear H; have H := H1; clear H1
         have H' := Aside0.mk H
         clear H
         go_wp2
         go_meet
         case rel => exact ⟨_, H', ⟨by have := HJ11.out; have := HJ45.out; first | omega | exact Nat.le_refl _⟩, ⟨by repeat (first | (with_reducible first | exact HB.out | apply below_alloc | apply pw_below_drewN | apply below_drew1) | exact HB.out)⟩⟩
       case rest => as_aux_lemma =>
        clear HC103
        try clear c1
        try clear c2
        try clear p2
        try clear c4
        try clear p6
        try clear p7
        try clear q7
        try clear hx7
        try clear qi7
        try clear c9
        try clear c10
        try clear c26
        try clear c47
        try clear p64
        try clear p77
        try clear q77
        try clear hx77
        try clear qi77
        try clear c90
        try clear c94
        try clear c94b0
        try clear c96
        try clear c96b0
        try clear c96b1
        try clear c97
        try clear c97b0
        try clear c97b1
        try clear c98
        try clear c98b0
        try clear c98b1
        try clear c99
        try clear c99b0
        try clear c99b1
        try clear c102
        try clear c104
        try clear c106
        try clear c108
        try clear hx772_0
        try clear hx773_0
        try clear p2
        try clear p6
        try clear p64
        try clear p7
        try clear p77
        try clear p772
        try clear p773
        try clear q7
        try clear q77
        try clear q772
        try clear q773
        obtain ⟨kq, HA, HJ102, HB⟩ := hcut
        cases kq with
        | zero => exact absurd HA.out (by simp [laws_FnMarkovWords.j5])
        | succ kj102 =>
         have H := HA.out; clear HA
         simp only [laws_FnMarkovWords.j5] at H
         replace H := Option.bind_eq_some_iff.mp H
         obtain ⟨t779, A1140, H⟩ := H
         replace H : ((impl_MarkovOfWord.f kj102 t779).bind fun bt780 => ((spec_MarkovOfWord.f kj102 t779).bind fun bt784 => (if (bt780.2 != bt784.2) = true then (laws_FnMarkovWords.j6 kj102 t779 bt780.1 bt780.2 true) else ((laws_dSame.f kj102 bt780.1 bt784.1).bind fun t788 => (laws_FnMarkovWords.j6 kj102 t779 bt780.1 bt780.2 (!t788)))))) = some r := H
         have A114 := Aside0.mk A1140
         clear A1140
         replace H := Option.bind_eq_some_iff.mp H
         obtain ⟨⟨t780, t781⟩, A1150, H⟩ := H
         replace H : ((spec_MarkovOfWord.f kj102 t779).bind fun bt784 => (if (t781 != bt784.2) = true then (laws_FnMarkovWords.j6 kj102 t779 t780 t781 true) else ((laws_dSame.f kj102 t780 bt784.1).bind fun t788 => (laws_FnMarkovWords.j6 kj102 t779 t780 t781 (!t788))))) = some r := H
         have A115 := Aside0.mk A1150
         clear A1150
         replace H := Option.bind_eq_some_iff.mp H
         obtain ⟨⟨t784, t785⟩, A1160, H⟩ := H
         replace H : (if (t781 != t785) = true then (laws_FnMarkovWords.j6 kj102 t779 t780 t781 true) else ((laws_dSame.f kj102 t780 t784).bind fun t788 => (laws_FnMarkovWords.j6 kj102 t779 t780 t781 (!t788)))) = some r := H
         have A116 := Aside0.mk A1160
         clear A1160
         have HC117 := Aside0.mk H
         clear H
         go_upto_region 31 with (first | ((with_reducible refine gate_callee (f := 49) rfl ?_); refine goesL_ (some 217) rfl rfl Try.func49 (by kernel_rfl) rfl #[.slice A1 l1.length c1] rfl (by (try simp only [List.map_toArray, List.map_cons, List.map_nil]); first | done | rfl) ?_; (with_reducible refine (spec_DrawMarkovOfWord.calls kj102 _ _ l1 t779 _ ?side1 ?side2 A114.out).mono ?_); (case side1 => repeat (first | exact (Kd.C_below HR1.out HB.out) | (with_reducible refine Kd.C_alloc ?_ _) | (with_reducible refine Kd.C_drewN ?_ _) | (with_reducible refine Kd.C_drew ?_))); (case side2 => exact HC1.out); rintro e w118 ⟨rfl, hb⟩; refine ⟨_, rfl, ?_⟩; have n0_ := Aside0.mk (below_step (by repeat (first | (with_reducible first | exact HB.out | apply below_alloc | apply pw_below_drewN | apply below_drew1) | exact HB.out)) hb); clear HB; have HB := n0_; clear n0_; (try clear hb); (try clear hb2); (try clear hk); (try clear hi)) | ((with_reducible refine gate_callee (f := 26) rfl ?_); refine goesL_ (some 220) rfl rfl Try.func26 (by kernel_rfl) rfl #[.string t779] rfl (by (try simp only [List.map_toArray, List.map_cons, List.map_nil]); first | done | rfl) ?_; (with_reducible refine (impl_MarkovOfWord.calls kj102 t779 t780 t781 _ A115.out).mono ?_); rintro e w119 ⟨v782, rfl, ho0, hb⟩; refine ⟨_, rfl, ?_⟩; have n0_ := Aside0.mk (Kd.R_lower ho0 (below_size (by repeat (first | (with_reducible first | exact HB.out | apply below_alloc | apply pw_below_drewN | apply below_drew1) | exact HB.out)))); have n1_ := Aside0.mk (below_step (by repeat (first | (with_reducible first | exact HB.out | apply below_alloc | apply pw_below_drewN | apply below_drew1) | exact HB.out)) hb); clear HB; have HO783 := n0_; have HB := n1_; clear n0_ n1_; (try clear hb); (try clear hb2); (try clear hk); (try clear hi); (try clear ho0)) | ((with_reducible refine gate_callee (f := 25) rfl ?_); refine goesL_ (some 225) rfl rfl Try.func25 (by kernel_rfl) rfl #[.string t779] rfl (by (try simp only [List.map_toArray, List.map_cons, List.map_nil]); first | done | rfl) ?_; (with_reducible refine (spec_MarkovOfWord.calls kj102 t779 t784 t785 _ A116.out).mono ?_); rintro e w120 ⟨v786, rfl, ho0, hb⟩; refine ⟨_, rfl, ?_⟩; have n0_ := Aside0.mk (Kd.R_elder' (by (with_reducible repeat (first | apply Kd.R_alloc | apply Kd.R_drewN | apply Kd.R_drew)); exact HO783.out) (Kd.R_base ho0) hb); have n1_ := Aside0.mk (Kd.R_lower (Kd.R_new' ho0 (Kd.R_lt (by (with_reducible repeat (first | apply Kd.R_alloc | apply Kd.R_drewN | apply Kd.R_drew)); exact HO783.out))) (below_size (by repeat (first | (with_reducible first | exact HB.out | apply below_alloc | apply pw_below_drewN | apply below_drew1) | exact HB.out)))); have n2_ := Aside0.mk (below_step (by repeat (first | (with_reducible first | exact HB.out | apply below_alloc | apply pw_below_drewN | apply below_drew1) | exact HB.out)) hb); clear HO783; clear HB; have HO783 := n0_; have HO787 := n1_; have HB := n2_; clear n0_ n1_ n2_; (try clear hb); (try clear hb2); (try clear hk); (try clear hi); (try clear ho0)))
         (try simp only [Act.put, List.setIfInBounds_toArray, List.set_cons_zero, List.set_cons_succ])
         go_cut [236] (fun v236 wc => ∃ (kq : Nat) (x236_116 : Bool), v236 = .bool x236_116 ∧ Aside0 (laws_FnMarkovWords.j6 kq t779 t780 t781 x236_116 = some r) ∧ Aside0 (kq ≤ kj102) ∧ Aside0 (Kd.R (Kd.int .i64) 3 wc w.heap.size (fun _ => True) v782 t780) ∧ Aside0 (Below w.heap.size w wc))
         case first => as_aux_lemma =>
          have H := HC117.out; clear HC117
          by_cases c121 : (t781 != t785) = true
          ·rw [if_pos c121] at H
           have c121b0 : (t781 != t785) = true := c121
           (try (have c121b1 : decide (t781 = t785) = false := by simpa using c121))
           (try (have c121b2 : (t781 == t785) = false := by simpa using c121))
           (try (have c121b3 : ¬ (t781 = t785) := by simpa using c121))
           clear c121
           (first | rw [c121b0] | (simp only [i64_w, i32_w]; rw [c121b0]) | skip)
           have H' := Aside0.mk H
           clear H
           go_wp2
           go_meet
           case rel => exact ⟨_, (true), (by first | rfl | (simp; done) | (simp [*]; done)), H', ⟨by have := HJ11.out; have := HJ45.out; have := HJ102.out; first | omega | exact Nat.le_refl _⟩, ⟨by (with_reducible repeat (first | apply Kd.R_alloc | apply Kd.R_drewN | apply Kd.R_drew)); exact Kd.R_mono HO783.out (fun _ hk => trivial)⟩, ⟨by repeat (first | (with_reducible first | exact HB.out | apply below_alloc | apply pw_below_drewN | apply below_drew1) | exact HB.out)⟩⟩
          ·as_aux_lemma =>
           rw [if_neg c121] at H
           have c121b0 : (t781 != t785) = false := by simpa using c121
           (try (have c121b1 : decide (t781 = t785) = true := by simpa using c121))
           (try (have c121b2 : (t781 == t785) = true := by simpa using c121))
           clear c121
           (first | rw [c121b0] | (simp only [i64_w, i32_w]; rw [c121b0]) | skip)
           replace H := Option.bind_eq_some_iff.mp H
           obtain ⟨t788, A1220, H⟩ := H
           replace H : (laws_FnMarkovWords.j6 kj102 t779 t780 t781 (!t788)) = some r := H
           have A122 := Aside0.mk A1220
           clear A1220
           have H' := Aside0.mk H
           clear H
           obtain ⟨Ao123, co123, eo123⟩ := Kd.R_slice HO783.out
           subst eo123
           obtain ⟨Ao124, co124, eo124⟩ := Kd.R_slice HO787.out
           subst eo124
           go_wp2_with (first | (go_at_call 40; (with_reducible refine (laws_dSame.calls kj102 _ _ t780 _ _ t784 t788 _ ?side1 ?side2 ?side3 ?side4 A122.out).mono ?_); (case side1 => repeat (first | exact (Kd.R_reads' HO783.out).2.2 | (with_reducible refine Kd.C_alloc ?_ _) | (with_reducible refine Kd.C_drewN ?_ _) | (with_reducible refine Kd.C_drew ?_))); (case side2 => exact (Kd.R_reads' HO783.out).2.1); (case side3 => repeat (first | exact (Kd.R_reads' HO787.out).2.2 | (with_reducible refine Kd.C_alloc ?_ _) | (with_reducible refine Kd.C_drewN ?_ _) | (with_reducible refine Kd.C_drew ?_))); (case side4 => exact (Kd.R_reads' HO787.out).2.1); rintro e w' ⟨rfl, ⟨nd, rfl⟩⟩))
           go_meet
           case rel => exact ⟨_, (!t788), (by first | rfl | (simp; done) | (simp [*]; done)), H', ⟨by have := HJ11.out; have := HJ45.out; have := HJ102.out; first | omega | exact Nat.le_refl _⟩, ⟨by (with_reducible repeat (first | apply Kd.R_alloc | apply Kd.R_drewN | apply Kd.R_drew)); exact Kd.R_mono HO783.out (fun _ hk => trivial)⟩, ⟨by repeat (first | (with_reducible first | exact HB.out | apply below_alloc | apply pw_below_drewN | apply below_drew1) | exact HB.out)⟩⟩
         case rest => as_aux_lemma =>
          clear HC117
          try clear c1
          try clear c2
          try clear p2
          try clear c4
          try clear p6
          try clear p7
          try clear q7
          try clear hx7
          try clear qi7
          try clear c9
          try clear c10
          try clear c12
          try clear c25
          try clear c26
          try clear c47
          try clear c49
          try clear p64
          try clear p77
          try clear q77
          try clear hx77
          try clear qi77
          try clear c90
          try clear c94
          try clear c94b0
          try clear c96
          try clear c96b0
          try clear c96b1
          try clear c97
          try clear c97b0
          try clear c97b1
          try clear c98
          try clear c98b0
          try clear c98b1
          try clear c99
          try clear c99b0
          try clear c99b1
          try clear c102
          try clear c104
          try clear c106
          try clear c108
          try clear c121
          try clear c121b0
          try clear c121b1
          try clear c121b2
          try clear hx772_0
          try clear hx773_0
          try clear p2
          try clear p6
          try clear p64
          try clear p7
          try clear p77
          try clear p772
          try clear p773
          try clear q7
          try clear q77
          try clear q772
          try clear q773
          obtain ⟨kq, x236_116, rfl, HA, HJ116, HO_24, HB⟩ := hcut
          cases kq with
          | zero => exact absurd HA.out (by simp [laws_FnMarkovWords.j6])
          | succ kj116 =>
           have H := HA.out; clear HA
           simp only [laws_FnMarkovWords.j6] at H
           by_cases c125 : x236_116 = true
           ·subst c125
            have H1 : (some false) = some r := by rw [if_pos rfl] at H; exact H
            clear H; have H := H1; clear H1
            obtain rfl := Option.some.inj H
            go_wp2
            go_ret
            exact ⟨by first | rfl | (simp [errW_none, errW_some] <;> rfl) | (simp [*, errW_none, errW_some] <;> rfl), by repeat (first | (with_reducible first | exact HB.out | apply below_alloc | apply pw_below_drewN | apply below_drew1) | exact HB.out)⟩
           ·as_aux_lemma =>
            replace c125 := Bool.eq_false_iff.mpr c125
            subst c125
            have H1 : (if t781 = true then ((impl_MarkovWord.f kj116 t780).bind fun bt789 => (if bt789.2 = true then (some (bt789.1.toList == t779.toList)) else (some false))) else (some true)) = some r := by rw [if_neg (show ¬ (false = true) by decide)] at H; exact H
            clear H; have H := H1; clear H1
            by_cases c126 : t781 = true
            ·as_aux_lemma =>
             subst c126
             have H1 : ((impl_MarkovWord.f kj116 t780).bind fun bt789 => (if bt789.2 = true then (some (bt789.1.toList == t779.toList)) else (some false))) = some r := by rw [if_pos rfl] at H; exact H
             clear H; have H := H1; clear H1
             replace H := Option.bind_eq_some_iff.mp H
             obtain ⟨⟨t789, t790⟩, A1270, H⟩ := H
             replace H : (if t790 = true then (some (t789.toList == t779.toList)) else (some false)) = some r := H
             have A127 := Aside0.mk A1270
             clear A1270
             by_cases c128 : t790 = true
             ·subst c128
              have H1 : (some (t789.toList == t779.toList)) = some r := by rw [if_pos rfl] at H; exact H
              clear H; have H := H1; clear H1
              obtain rfl := Option.some.inj H
              obtain ⟨Ao129, co129, eo129⟩ := Kd.R_slice HO_24.out
              subst eo129
              go_wp2_with (first | ((with_reducible refine gate_callee (f := 30) rfl ?_); refine goesL_ (some 240) rfl rfl Try.func30 (by kernel_rfl) rfl #[.slice Ao129 t780.length co129] rfl (by (try simp only [List.map_toArray, List.map_cons, List.map_nil]); first | done | rfl) ?_; (with_reducible refine (impl_MarkovWord.calls kj116 (fun k_ => some k_ = (.slice Ao129 t780.length co129 : Value).ownBlock) _ _ t780 t789 true _ ?side1 A127.out).mono ?_); (case side1 => exact Kd.R_V (Kd.R_tight rfl (HO_24.out))); rintro e w130 ⟨rfl, hb⟩; refine ⟨_, rfl, ?_⟩; have n0_ := Aside0.mk (Kd.R_below (by (with_reducible repeat (first | apply Kd.R_alloc | apply Kd.R_drewN | apply Kd.R_drew)); exact HO_24.out) hb); have n1_ := Aside0.mk (below_step (by repeat (first | (with_reducible first | exact HB.out | apply below_alloc | apply pw_below_drewN | apply below_drew1) | exact HB.out)) hb); clear HO_24; clear HB; have HO_24 := n0_; have HB := n1_; clear n0_ n1_; (try clear hb); (try clear hb2); (try clear hk); (try clear hi)))
              go_ret
              exact ⟨by first | rfl | (simp [errW_none, errW_some] <;> rfl) | (simp [*, errW_none, errW_some] <;> rfl), by repeat (first | (with_reducible first | exact HB.out | apply below_alloc | apply pw_below_drewN | apply below_drew1) | exact HB.out)⟩
             ·replace c128 := Bool.eq_false_iff.mpr c128
              subst c128
              have H1 : (some false) = some r := by rw [if_neg (show ¬ (false = true) by decide)] at H; exact H
              clear H; have H := H1; clear H1
              obtain rfl := Option.some.inj H
              obtain ⟨Ao131, co131, eo131⟩ := Kd.R_slice HO_24.out
              subst eo131
              go_wp2_with (first | ((with_reducible refine gate_callee (f := 30) rfl ?_); refine goesL_ (some 240) rfl rfl Try.func30 (by kernel_rfl) rfl #[.slice Ao131 t780.length co131] rfl (by (try simp only [List.map_toArray, List.map_cons, List.map_nil]); first | done | rfl) ?_; (with_reducible refine (impl_MarkovWord.calls kj116 (fun k_ => some k_ = (.slice Ao131 t780.length co131 : Value).ownBlock) _ _ t780 t789 false _ ?side1 A127.out).mono ?_); (case side1 => exact Kd.R_V (Kd.R_tight rfl (HO_24.out))); rintro e w132 ⟨rfl, hb⟩; refine ⟨_, rfl, ?_⟩; have n0_ := Aside0.mk (Kd.R_below (by (with_reducible repeat (first | apply Kd.R_alloc | apply Kd.R_drewN | apply Kd.R_drew)); exact HO_24.out) hb); have n1_ := Aside0.mk (below_step (by repeat (first | (with_reducible first | exact HB.out | apply below_alloc | apply pw_below_drewN | apply below_drew1) | exact HB.out)) hb); clear HO_24; clear HB; have HO_24 := n0_; have HB := n1_; clear n0_ n1_; (try clear hb); (try clear hb2); (try clear hk); (try clear hi)))
              go_ret
              exact ⟨by first | rfl | (simp [errW_none, errW_some] <;> rfl) | (simp [*, errW_none, errW_some] <;> rfl), by repeat (first | (with_reducible first | exact HB.out | apply below_alloc | apply pw_below_drewN | apply below_drew1) | exact HB.out)⟩
            ·replace c126 := Bool.eq_false_iff.mpr c126
             subst c126
             have H1 : (some true) = some r := by rw [if_neg (show ¬ (false = true) by decide)] at H; exact H
             clear H; have H := H1; clear H1
             obtain rfl := Option.some.inj H
             go_wp2
             go_ret
             exact ⟨by first | rfl | (simp [errW_none, errW_some] <;> rfl) | (simp [*, errW_none, errW_some] <;> rfl), by repeat (first | (with_reducible first | exact HB.out | apply below_alloc | apply pw_below_drewN | apply below_drew1) | exact HB.out)⟩

/-- THE ONE PURE STATEMENT of laws_FnMarkovWords: yours. -/
def laws_FnMarkovWords.Pure : Prop := ∀ (l0 : List Int) (l1 : List Int), l0.length ≤ maxLen → l0.length * 1 ≤ 140737488351232 → (∀ x ∈ l0, (Lit.int .u8 x).wf = true) → l1.length ≤ maxLen → l1.length * 1 ≤ 140737488351232 → (∀ x ∈ l1, (Lit.int .u8 x).wf = true) → ∃ k, laws_FnMarkovWords.f k l0 l1 = some true
theorem laws_FnMarkovWords.walk (P : laws_FnMarkovWords.Pure) (a0 : Option Addr) (len0 cap0 : Nat) (z0 : List Int) (a1 : Option Addr) (len1 cap1 : Nat) (z1 : List Int) (w : World) (w0 : (a0 = none ∧ len0 = 0 ∧ cap0 = 0 ∧ z0 = []) ∨ ∃ x, a0 = some x ∧ len0 ≤ cap0 ∧ cap0 ≤ maxLen ∧ z0.length = cap0 ∧ (∀ i, i < z0.length → w.cell? (x.add i) = some (.int .u8 (z0.getD i 0))) ∧ ∀ n ∈ z0, (Lit.int .u8 n).wf = true) (y0 : len0 * 1 ≤ 140737488351232) (w1 : (a1 = none ∧ len1 = 0 ∧ cap1 = 0 ∧ z1 = []) ∨ ∃ x, a1 = some x ∧ len1 ≤ cap1 ∧ cap1 ≤ maxLen ∧ z1.length = cap1 ∧ (∀ i, i < z1.length → w.cell? (x.add i) = some (.int .u8 (z1.getD i 0))) ∧ ∀ n ∈ z1, (Lit.int .u8 n).wf = true) (y1 : len1 * 1 ≤ 140737488351232) :
  Calls Try.prog 12 #[.slice a0 len0 cap0, .slice a1 len1 cap1] w fun e w' => e = .returned (.bool true) ∧ Below w.heap.size w w' := by
 obtain ⟨l0, rfl, hr0, hm0, hw0, hc0⟩ := ReadsInt.ofRowC w0
 obtain ⟨l1, rfl, hr1, hm1, hw1, hc1⟩ := ReadsInt.ofRowC w1
 obtain ⟨k, h⟩ := P l0 l1 hm0 y0 hw0 hm1 y1 hw1
 refine (laws_FnMarkovWords.calls k _ _ l0 _ _ l1 true w (Kd.C_of_reads (d := (0 : Int)) (h1 := fun _ => rfl) hr0) hc0 (Kd.C_of_reads (d := (0 : Int)) (h1 := fun _ => rfl) hr1) hc1 h).mono ?_
 rintro e w' ⟨rfl, hd⟩
 exact ⟨rfl, hd⟩

end Go.Proofs.Ythkmbkibceojlaa.P
