/- SolvesMarkov: the program and the reference. -/
import Derived.Test.YtbpdjlpfmhanlaaUmarkov
import Derived.Test.YtbpdjlpfmhanlaaUall
import Derived.Test.YtbpdjlpfmhanlaaPFspecSolvesMarkov
import Derived.Test.YtbpdjlpfmhanlaaPFimplSolvesMarkov
import Derived.Test.YtbpdjlpfmhanlaaUmkSort
namespace Go.Proofs.Ytbpdjlpfmhanlaa.P
set_option linter.unusedVariables false
set_option linter.unusedSimpArgs false
open Go.RowKit Go.Proofs.YtbpdjlpfmhanlaaW.PrintWords Go.Proofs.YtbpdjlpfmhanlaaW.PrintLast Go.Proofs.YtbpdjlpfmhanlaaW.PrintMore

def solvesOf (l : List Int) : Bool × Bool := match l with
  | [x, y, z] => if [x, y, z].all (inB 1 1000000000) = true then (mkEq x y z, true) else (false, false)
  | _ => (false, false)
theorem solvesOf_no (l : List Int) (h : ¬ l.length = 3) : solvesOf l = (false, false) := by
  match l with
  | [] => rfl
  | [_] => rfl
  | [_, _] => rfl
  | [_, _, _] => simp at h
  | _ :: _ :: _ :: _ :: _ => rfl
theorem SolvesMarkov_both (l : List Int) : Ev (fun k => spec_SolvesMarkov.f k l) (solvesOf l) ∧ impl_SolvesMarkov.f l = some (solvesOf l) := by
  unfold spec_SolvesMarkov.f impl_SolvesMarkov.f
  by_cases h3 : l.length = 3
  · obtain ⟨x, y, z, rfl⟩ : ∃ x y z, l = [x, y, z] := by
      match l, h3 with
      | [x, y, z], _ => exact ⟨x, y, z, rfl⟩
    have hl : (([x, y, z] : List Int).length : Int) = 3 := rfl
    have ha : impl_areThree.f [x, y, z] = some ([x, y, z].all (inB 1 1000000000)) := rfl
    have he : solvesOf [x, y, z] = if [x, y, z].all (inB 1 1000000000) = true then (mkEq x y z, true) else (false, false) := rfl
    rw [he, ha]
    cases h : [x, y, z].all (inB 1 1000000000) with
    | false =>
      refine ⟨?_, rfl⟩
      simp only [hl, if_true, Bool.false_eq_true, if_false]
      refine Ev.bind (l1All_ev _ _ _ (by simp)) ?_
      rw [h]
      exact Ev.step (f := fun _ => some (false, false)) (fun k => by simp only [spec_SolvesMarkov.j0, Bool.not_false, if_true]) (Ev.is rfl)
    | true =>
      obtain ⟨h1, h2, h4⟩ := three_all h
      constructor
      · simp only [hl, if_true]
        refine Ev.bind (l1All_ev _ _ _ (by simp)) ?_
        rw [h]
        obtain ⟨a, b, c, hs, hab, hbc, ha1, hc1, hp⟩ := mkSort_is x y z h1 h2 h4
        refine Ev.step (f := fun _ => some (mkEq x y z, true)) (fun k => ?_) (Ev.is rfl)
        have r0 : rd [x, y, z] 0 = x := rfl
        have r1 : rd [x, y, z] 1 = y := rfl
        have r2 : rd [x, y, z] 2 = z := rfl
        have s0 : rd [a, b, c] 0 = a := rfl
        have s1 : rd [a, b, c] 1 = b := rfl
        have s2 : rd [a, b, c] 2 = c := rfl
        have hl2 : (([a, b, c] : List Int).length : Int) = 3 := rfl
        simp only [spec_SolvesMarkov.j0, Bool.not_true, Bool.false_eq_true, if_false, hl, r0, r1, r2, hs, Option.bind_some, hl2, s0, s1, s2]
        rw [if_pos (by decide), if_pos (by decide), if_pos (by decide), if_pos (by decide), if_pos (by decide), if_pos (by decide), mkSolves_is a b c (by omega) (by omega) (by omega), hp]
        rfl
      · simp only [Option.bind_some, if_true]
        rw [solves_is x y z h1 h2 h4]
        rfl
  · have h' : ¬ (l.length : Int) = 3 := by omega
    rw [solvesOf_no l h3]
    have ha : impl_areThree.f l = some false := by unfold impl_areThree.f; rw [if_neg h']
    rw [ha]
    refine ⟨?_, rfl⟩
    simp only [h', if_false]
    exact Ev.step (f := fun _ => some (false, false)) (fun k => by simp only [spec_SolvesMarkov.j0, if_true]) (Ev.is rfl)
end Go.Proofs.Ytbpdjlpfmhanlaa.P
