/- laws.markIntS writes m, m + 1, .. into a list, and laws.heldIntS finds them there. -/
import Derived.Test.YthkmbkibceojlaaUbase
import Derived.Test.YthkmbkibceojlaaPFmarkIntS
import Derived.Test.YthkmbkibceojlaaPFheldIntS
namespace Go.Proofs.Ythkmbkibceojlaa.P
set_option linter.unusedVariables false
set_option linter.unusedSimpArgs false
open Go.RowKit Go.Proofs.YthkmbkibceojlaaW.PrintWords Go.Proofs.YthkmbkibceojlaaW.PrintLast

theorem markIntS_from (n : Nat) (m : Int) (hn : n ≤ 1152921504606846976) (hm : 0 ≤ m) (hm2 : m ≤ 1152921504606846976) (d : Nat) : ∀ (i : Nat) (x : List Int), i + d = n → x.length = n → x.take i = upFrom m i → Ev (fun k => laws_markIntS.l0 k x (m + i) (i : Int)) (m + n, upFrom m n) := by
  induction d with
  | zero =>
    intro i x hi hx ht
    refine Ev.step (fun k => by simp only [laws_markIntS.l0]; rw [if_neg (by omega)]) ?_
    rw [List.take_of_length_le (by omega)] at ht
    obtain rfl : i = n := by omega
    exact Ev.is (by rw [ht])
  | succ d ih =>
    intro i x hi hx ht
    have hw : wrap64 (m + (i : Int) + 1) = m + ((i + 1 : Nat) : Int) := by rw [w64 (by omega) (by omega)]; omega
    refine Ev.step (fun k => by simp only [laws_markIntS.l0]; rw [if_pos (by omega), if_pos (by omega), w64_succ (n := n) (by omega) (by omega), hw, Int.toNat_natCast]) ?_
    refine ih (i + 1) _ (by omega) (by rw [List.length_set]; exact hx) ?_
    rw [List.take_succ_eq_append_getElem (by rw [List.length_set]; omega), List.take_set_of_le (Nat.le_refl _), ht, List.getElem_set_self, upFrom_snoc]
theorem markIntS_ev (x : List Int) (m : Int) (hn : x.length ≤ 1152921504606846976) (hm : 0 ≤ m) (hm2 : m ≤ 1152921504606846976) : Ev (fun k => laws_markIntS.f k x m) (m + x.length, upFrom m x.length) := by
  unfold laws_markIntS.f
  have h := markIntS_from x.length m hn hm hm2 x.length 0 x (by omega) rfl rfl
  simpa using h

theorem heldIntS_from (n : Nat) (m : Int) (hn : n ≤ 1152921504606846976) (hm : 0 ≤ m) (hm2 : m ≤ 1152921504606846976) (d : Nat) : ∀ (i : Nat), i + d = n → Ev (fun k => laws_heldIntS.l0 k (upFrom m n) (m + i) (i : Int)) (m + n) := by
  have hl := upFrom_length m n
  induction d with
  | zero =>
    intro i hi
    refine Ev.step (fun k => by simp only [laws_heldIntS.l0]; rw [if_neg (by omega)]) ?_
    obtain rfl : i = n := by omega
    exact Ev.is rfl
  | succ d ih =>
    intro i hi
    have hw : wrap64 (m + (i : Int) + 1) = m + ((i + 1 : Nat) : Int) := by rw [w64 (by omega) (by omega)]; omega
    refine Ev.step (fun k => by simp only [laws_heldIntS.l0]; rw [if_pos (by omega), if_pos (by omega), if_pos (rd_upFrom m n i (by omega)), w64_succ (n := n) (by omega) (by omega), hw]) ?_
    exact ih (i + 1) (by omega)
theorem heldIntS_ev (n : Nat) (m : Int) (hn : n ≤ 1152921504606846976) (hm : 0 ≤ m) (hm2 : m ≤ 1152921504606846976) : Ev (fun k => laws_heldIntS.f k (upFrom m n) m) (m + n) := by
  unfold laws_heldIntS.f
  have h := heldIntS_from n m hn hm hm2 n 0 (by omega)
  simpa using h
end Go.Proofs.Ythkmbkibceojlaa.P
