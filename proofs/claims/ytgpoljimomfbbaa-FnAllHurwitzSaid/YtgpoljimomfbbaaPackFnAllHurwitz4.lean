/- All solutions up to a bound are told in order, and each comes down to a fundamental one that is told, too. No condition. -/
import Derived.Test.YtgpoljimomfbbaaPackFnAllHurwitz3
-- PFspecl1Curhurwitz
namespace Go.Proofs.Ytgpoljimomfbbaa.P
open Go.RowKit Go.Proofs.YtgpoljimomfbbaaW.PrintWords Go.Proofs.YtgpoljimomfbbaaW.PrintLast
set_option linter.unusedVariables false
set_option linter.unusedSimpArgs false

/-! ### spec_l1Cur_hurwitz: function 82 -/
end Go.Proofs.Ytgpoljimomfbbaa.P

-- PFvSum
namespace Go.Proofs.Ytgpoljimomfbbaa.P
open Go.RowKit Go.Proofs.YtgpoljimomfbbaaW.PrintWords Go.Proofs.YtgpoljimomfbbaaW.PrintLast
set_option linter.unusedVariables false
set_option linter.unusedSimpArgs false

/-! ### laws_vSum: function 40 -/
end Go.Proofs.Ytgpoljimomfbbaa.P

-- PFimplIsHurwitz
namespace Go.Proofs.Ytgpoljimomfbbaa.P
open Go.RowKit Go.Proofs.YtgpoljimomfbbaaW.PrintWords Go.Proofs.YtgpoljimomfbbaaW.PrintLast
set_option linter.unusedVariables false
set_option linter.unusedSimpArgs false

/-! ### impl_IsHurwitz: function 80 -/
end Go.Proofs.Ytgpoljimomfbbaa.P

-- PFvSolves
namespace Go.Proofs.Ytgpoljimomfbbaa.P
open Go.RowKit Go.Proofs.YtgpoljimomfbbaaW.PrintWords Go.Proofs.YtgpoljimomfbbaaW.PrintLast
set_option linter.unusedVariables false
set_option linter.unusedSimpArgs false

/-! ### laws_vSolves: function 39 -/
end Go.Proofs.Ytgpoljimomfbbaa.P

-- PFimplIsFundamental
namespace Go.Proofs.Ytgpoljimomfbbaa.P
open Go.RowKit Go.Proofs.YtgpoljimomfbbaaW.PrintWords Go.Proofs.YtgpoljimomfbbaaW.PrintLast
set_option linter.unusedVariables false
set_option linter.unusedSimpArgs false

/-! ### impl_IsFundamental: function 38 -/
end Go.Proofs.Ytgpoljimomfbbaa.P

-- UhuLast
namespace Go.Proofs.Ytgpoljimomfbbaa.P
set_option linter.unusedVariables false
set_option linter.unusedSimpArgs false
open Go.RowKit Go.Proofs.YtgpoljimomfbbaaW.PrintWords Go.Proofs.YtgpoljimomfbbaaW.PrintLast Go.Proofs.YtgpoljimomfbbaaW.PrintMore
def lastOf (l : List Int) (a : Int) : Bool := !inB 1 (rd l 0 - 1) (oth l a 0)
theorem last_both {l : List Int} {a b : Int} (hg : huGv a b = true) (h : huIs l a b = true) : Ev (fun k => impl_isFundamental.f k l a) (lastOf l a) ∧ Ev (fun k => spec_huLast.f k l a) (lastOf l a) := by
  obtain ⟨h1, h2, h3, h4⟩ := huIs_iff.1 h
  obtain ⟨e1, e2⟩ := other_both hg h 0 (by omega)
  have hr := h2 _ (rd_mem (l := l) (i := 0) (by omega))
  have c : (0 : Int) < (l.length : Int) := by omega
  have w1 : wrap64 (rd l 0 - 1) = rd l 0 - 1 := w64 (by have : rd l 0 = rd l ((0 : Nat) : Int) := rfl; omega) (by have : rd l 0 = rd l ((0 : Nat) : Int) := rfl; omega)
  unfold impl_isFundamental.f spec_huLast.f lastOf
  simp only [c, if_true, w1]
  constructor
  · refine Ev.bind e1 ?_
    rw [within_inB]
    exact Ev.is rfl
  · refine Ev.bind e2 ?_
    rw [l1In_inB]
    exact Ev.is rfl
end Go.Proofs.Ytgpoljimomfbbaa.P

-- PFspecClimbHurwitz
namespace Go.Proofs.Ytgpoljimomfbbaa.P
open Go.RowKit Go.Proofs.YtgpoljimomfbbaaW.PrintWords Go.Proofs.YtgpoljimomfbbaaW.PrintLast
set_option linter.unusedVariables false
set_option linter.unusedSimpArgs false

/-! ### spec_ClimbHurwitz: function 44 -/
end Go.Proofs.Ytgpoljimomfbbaa.P

-- PFcmpisNaNint
namespace Go.Proofs.Ytgpoljimomfbbaa.P
open Go.RowKit Go.Proofs.YtgpoljimomfbbaaW.PrintWords Go.Proofs.YtgpoljimomfbbaaW.PrintLast
set_option linter.unusedVariables false
set_option linter.unusedSimpArgs false

/-! ### cmp_isNaN_int: function 118 -/
end Go.Proofs.Ytgpoljimomfbbaa.P

-- PFcmpCompareint
namespace Go.Proofs.Ytgpoljimomfbbaa.P
open Go.RowKit Go.Proofs.YtgpoljimomfbbaaW.PrintWords Go.Proofs.YtgpoljimomfbbaaW.PrintLast
set_option linter.unusedVariables false
set_option linter.unusedSimpArgs false

/-! ### cmp_Compare_int: function 98 -/
end Go.Proofs.Ytgpoljimomfbbaa.P

-- PFslicesCompareintint
namespace Go.Proofs.Ytgpoljimomfbbaa.P
open Go.RowKit Go.Proofs.YtgpoljimomfbbaaW.PrintWords Go.Proofs.YtgpoljimomfbbaaW.PrintLast
set_option linter.unusedVariables false
set_option linter.unusedSimpArgs false

/-! ### slices_Compare_int_int: function 63 -/
end Go.Proofs.Ytgpoljimomfbbaa.P

-- PFslicesEqualintint
namespace Go.Proofs.Ytgpoljimomfbbaa.P
open Go.RowKit Go.Proofs.YtgpoljimomfbbaaW.PrintWords Go.Proofs.YtgpoljimomfbbaaW.PrintLast
set_option linter.unusedVariables false
set_option linter.unusedSimpArgs false

/-! ### slices_Equal_int_int: function 61 -/
end Go.Proofs.Ytgpoljimomfbbaa.P

-- PFeqIntS
namespace Go.Proofs.Ytgpoljimomfbbaa.P
open Go.RowKit Go.Proofs.YtgpoljimomfbbaaW.PrintWords Go.Proofs.YtgpoljimomfbbaaW.PrintLast
set_option linter.unusedVariables false
set_option linter.unusedSimpArgs false

/-! ### laws_eqIntS: function 13 -/
end Go.Proofs.Ytgpoljimomfbbaa.P

-- UeqIntS
namespace Go.Proofs.Ytgpoljimomfbbaa.P
set_option linter.unusedVariables false
set_option linter.unusedSimpArgs false
open Go.RowKit Go.Proofs.YtgpoljimomfbbaaW.PrintWords Go.Proofs.YtgpoljimomfbbaaW.PrintLast

end Go.Proofs.Ytgpoljimomfbbaa.P
