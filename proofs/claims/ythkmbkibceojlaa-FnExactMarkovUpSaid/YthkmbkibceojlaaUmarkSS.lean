/- laws.heldIntSS finds the marks that laws.markIntSS has written, and laws.eqIntSS tells that a list of lists is itself. -/
import Derived.Test.YthkmbkibceojlaaGmarkIntSS
import Derived.Test.YthkmbkibceojlaaUeqIntS
import Derived.Test.YthkmbkibceojlaaPFeqIntSS
import Derived.Test.YthkmbkibceojlaaPFheldIntSS
namespace Go.Proofs.Ythkmbkibceojlaa.P
set_option linter.unusedVariables false
set_option linter.unusedSimpArgs false
open Go.RowKit Go.Proofs.YthkmbkibceojlaaW.PrintWords Go.Proofs.YthkmbkibceojlaaW.PrintLast

theorem rdL1_at (L : List (List Int)) (i : Nat) (hi : i < L.length) : rd_L1 L (i : Int) = L[i] := by
  unfold rd_L1
  rw [Int.toNat_natCast, List.getD_eq_getElem?_getD, List.getElem?_eq_getElem hi]
  rfl
theorem total_at (L : List (List Int)) (i : Nat) (hi : i < L.length) : L[i].length ≤ total L := by
  have h1 := total_take_succ L i hi
  have h2 := total_take_le L (i + 1)
  omega
theorem eqIntSS_from (L : List (List Int)) (hn : L.length ≤ 1000000000) (ht : total L ≤ 1000000000) (d : Nat) : ∀ i : Nat, i + d = L.length → Ev (fun k => laws_eqIntSS.l0 k L L (i : Int)) true := by
  induction d with
  | zero =>
    intro i hi
    exact Ev.step (f := fun _ => some true) (fun k => by simp only [laws_eqIntSS.l0]; rw [if_neg (by omega)]) (Ev.is rfl)
  | succ d ih =>
    intro i hi
    have he := eqIntS_ev (rd_L1 L (i : Int)) (rd_L1 L (i : Int)) (by rw [rdL1_at L i (by omega)]; have := total_at L i (by omega); omega)
    rw [decide_eq_true rfl] at he
    refine Ev.step (f := fun k => (laws_eqIntS.f k (rd_L1 L (i : Int)) (rd_L1 L (i : Int))).bind fun t => if t = true then laws_eqIntSS.l0 k L L ((i + 1 : Nat) : Int) else some false) (fun k => ?_) (Ev.bind he ?_)
    · simp only [laws_eqIntSS.l0]
      rw [if_pos (by omega), if_pos (by omega), if_pos (by omega), w64_succ (n := L.length) (by omega) (by omega)]
    · simp only [if_true]
      exact ih (i + 1) (by omega)
theorem eqIntSS_ev (L : List (List Int)) (hn : L.length ≤ 1000000000) (ht : total L ≤ 1000000000) : Ev (fun k => laws_eqIntSS.f k L L) true := by
  unfold laws_eqIntSS.f
  simp only [if_true]
  exact eqIntSS_from L hn ht L.length 0 (by omega)
theorem marked_at (L : List (List Int)) (i : Nat) (hi : i < L.length) : rd_L1 (marked 1 L) (i : Int) = upFrom (1 + total (L.take i)) L[i].length := by
  have hl : (marked 1 L).length = L.length := marked_length 1 L
  have hs : marked 1 L = marked 1 (L.take i) ++ marked (1 + total (L.take i)) (L.drop i) := by
    rw [← marked_append, List.take_append_drop]
  have h1 : (marked 1 (L.take i)).length = i := by rw [marked_length, List.length_take]; omega
  unfold rd_L1
  rw [Int.toNat_natCast, List.getD_eq_getElem?_getD, hs, List.getElem?_append_right (by omega), h1, Nat.sub_self, List.drop_eq_getElem_cons hi, marked]
  rfl
theorem heldIntSS_from (L : List (List Int)) (hn : L.length ≤ 1000000000) (ht : total L ≤ 1000000000) (d : Nat) : ∀ i : Nat, i + d = L.length → Ev (fun k => laws_heldIntSS.l0 k (marked 1 L) (1 + total (L.take i)) (i : Int)) (1 + (total L : Int)) := by
  have hl : (marked 1 L).length = L.length := marked_length 1 L
  induction d with
  | zero =>
    intro i hi
    obtain rfl : i = L.length := by omega
    rw [List.take_length]
    exact Ev.step (f := fun _ => some (1 + (total L : Int))) (fun k => by simp only [laws_heldIntSS.l0]; rw [if_neg (by omega)]) (Ev.is rfl)
  | succ d ih =>
    intro i hi
    have h1 := total_take_succ L i (by omega)
    have h2 := total_take_le L (i + 1)
    have he := heldIntS_ev L[i].length (1 + total (L.take i)) (by omega) (by omega) (by omega)
    have hr := ih (i + 1) (by omega)
    have e1 : 1 + (total (L.take i) : Int) + (L[i].length : Int) = 1 + (total (L.take (i + 1)) : Int) := by omega
    rw [e1] at he
    have hneg : ¬ (1 + (total (L.take (i + 1)) : Int) < 0) := by omega
    refine Ev.step (f := fun k => (laws_heldIntS.f k (upFrom (1 + total (L.take i)) L[i].length) (1 + total (L.take i))).bind fun t => if t < 0 then some (-1) else laws_heldIntSS.l0 k (marked 1 L) t ((i + 1 : Nat) : Int)) (fun k => ?_) (Ev.bind he ?_)
    · simp only [laws_heldIntSS.l0]
      rw [if_pos (by omega), if_pos (by omega), marked_at L i (by omega), w64_succ (n := L.length) (by omega) (by omega)]
    · simp only [hneg, if_false]
      exact hr
theorem heldIntSS_ev (L : List (List Int)) (hn : L.length ≤ 1000000000) (ht : total L ≤ 1000000000) : Ev (fun k => laws_heldIntSS.f k (marked 1 L) 1) (1 + (total L : Int)) := by
  unfold laws_heldIntSS.f
  have h := heldIntSS_from L hn ht L.length 0 (by omega)
  simpa [total] using h
/-- .. in the row's own terms. -/
theorem heldSS_calls (K : Nat) (V : List (List Int)) (A : Option Addr) (c : Nat) (r : Int) (e base : Nat) (ok : Nat → Prop) (w : World) (hs : Kd.S KII e w base ok (.slice A V.length c) (marked 1 V)) (h : laws_heldIntSS.f K (marked 1 V) 1 = some r) :
    Calls Try.prog 35 #[.slice A V.length c, .int .i64 1] w fun e w' => e = .returned (.int .i64 r) ∧ Drawn0 w w' := by
  have hr := Kd.S_reads' hs
  have h_ := laws_heldIntSS.calls K A c (marked 1 V) 1 r w hr.2.2 (hr.1 ▸ hr.2.1) h
  rw [marked_length] at h_
  exact h_
theorem markSS_calls (P0_ : Nat → Prop) (v : Value) (L : List (List Int)) (r : Int) (hr : 1 + (total L : Int) = r) (w0 w : World) (hB : Below w0.heap.size w0 w) (hs : Kd.S KII 22 w w0.heap.size P0_ v L) (hz : total L ≤ 1000000000) :
    Calls Try.prog 34 #[v, .int .i64 1] w fun e w' => e = .returned (.int .i64 r) ∧ Kd.S KII 22 w' w0.heap.size P0_ v (marked 1 L) ∧ Below w0.heap.size w0 w' ∧ Kept w w' P0_ := by
  subst hr
  exact laws_markIntSS.marks P0_ v L w0 w hB hs hz
end Go.Proofs.Ythkmbkibceojlaa.P
