/- All turns of a text: both texts' loops. -/
import Derived.Test.YtkphmbcoefkilaaUturns
namespace Go.Proofs.Ytkphmbcoefkilaa.P
set_option linter.unusedVariables false
set_option linter.unusedSimpArgs false
open Go.RowKit Go.Proofs.YtkphmbcoefkilaaW.PrintWords Go.Proofs.YtkphmbcoefkilaaW.PrintLast Go.Proofs.YtkphmbcoefkilaaW.PrintMore

theorem turn_size (s : ByteArray) (i : Nat) (hi : i ≤ s.size) : (s.extract i s.size).size + (s.extract 0 i).size = s.size := by
  rw [ByteArray.size_extract, ByteArray.size_extract]
  omega
theorem back_bytes (o : List BL) : (o.map ofBytes).map bytesList = o := by
  rw [List.map_map]
  have : bytesList ∘ ofBytes = id := by funext x; rfl
  rw [this, List.map_id]
theorem impl_turns_upto (s : ByteArray) (hn : s.size ≤ 1000000) (d : Nat) : ∀ i : Nat, i + d = s.size → Ev (fun k => impl_turns.l0 k s ((List.range i).map (turnAt s)) (s.size : Int) (i : Int)) ((turnsOf s).map ofBytes) := by
  induction d with
  | zero =>
    intro i hi
    have hi2 : i = s.size := by omega
    subst hi2
    have e1 : sortStrings ((List.range s.size).map (turnAt s)) = ((allT s).mergeSort fun x y => decide (x ≤ y)).map ofBytes := by
      unfold sortStrings allT
      rw [List.map_map]
      rfl
    have e2 : compactStrings (sortStrings ((List.range s.size).map (turnAt s))) = (turnsOf s).map ofBytes := by
      unfold compactStrings turnsOf
      rw [e1, back_bytes, compact_turns]
    have hlen : ((List.range s.size).map (turnAt s)).length < 4611686018427387904 := by simp; omega
    refine Ev.step (f := fun _ => some ((turnsOf s).map ofBytes)) (fun k => ?_) (Ev.is rfl)
    simp only [impl_turns.l0]
    rw [if_neg (by omega)]
    unfold slices_Sort_string_string.f slices_Compact_string_string.f
    rw [if_pos hlen]
    simp only [Option.bind_some, e2]
  | succ d ih =>
    intro i hi
    have hsz := turn_size s i (by omega)
    have e : (List.range (i + 1)).map (turnAt s) = (List.range i).map (turnAt s) ++ [s.extract i s.size ++ s.extract 0 i] := by
      rw [List.range_succ, List.map_append]
      rfl
    have h := ih (i + 1) (by omega)
    rw [e] at h
    refine Ev.step (fun k => ?_) h
    simp only [impl_turns.l0]
    rw [Int.toNat_natCast, if_pos (by omega), if_pos (by omega), if_pos (by omega), if_pos (by omega), if_pos (by simp; omega), w64_succ (n := s.size) (by omega) (by omega)]
theorem impl_turns_ev (s : ByteArray) (hn : s.size ≤ 1000000) : Ev (fun k => impl_turns.f k s) ((turnsOf s).map ofBytes) := by
  unfold impl_turns.f
  exact impl_turns_upto s hn s.size 0 (by omega)
theorem rdOf_at (o : List BL) (j : Nat) (hj : j < o.length) : (rdOf ByteArray.empty (o.map ofBytes) (j : Int)).toList = o[j] := by
  unfold rdOf
  rw [toList_is, Int.toNat_natCast, List.getD_eq_getElem?_getD, List.getElem?_eq_getElem (by simpa using hj)]
  simp [ofBytes]
theorem turns_in (s : ByteArray) (hn : s.size ≤ 1000000) (o : List BL) (ho : o.length ≤ 1000000) (t : BL) (i : Nat) (hi : i < s.size) (r : List ByteArray) (d : Nat) : ∀ j : Nat, j + d = o.length → Ev (fun k => spec_chTurns.l0 k s ((o.take j ++ insT t (o.drop j)).map ofBytes) ((i + 1 : Nat) : Int)) r → Ev (fun k => spec_chTurns.l1 k s (o.map ofBytes) (i : Int) (ofBytes t) (j : Int)) r := by
  have hml : (o.map ofBytes).length = o.length := List.length_map _
  have ht : (ofBytes t).toList = t := by rw [toList_is]; rfl
  have e1 : wrap64 ((i : Int) + 1) = ((i + 1 : Nat) : Int) := w64_succ (n := s.size) hi (by omega)
  have hput : ∀ j : Nat, j ≤ o.length → ((o.map ofBytes).take j ++ [ofBytes t]) ++ (o.map ofBytes).drop j = (o.take j ++ t :: o.drop j).map ofBytes := by
    intro j hj
    rw [List.map_append, List.map_cons, List.map_take, List.map_drop, List.append_assoc, List.singleton_append]
  have l1 : ∀ j : Nat, j ≤ o.length → ((o.map ofBytes).take j).length = j := fun j hj => by rw [List.length_take, hml]; omega
  have l2 : ∀ j : Nat, j ≤ o.length → ((o.map ofBytes).drop j).length = o.length - j := fun j hj => by rw [List.length_drop, hml]
  have l3 : ∀ j : Nat, j ≤ o.length → ((o.map ofBytes).take j ++ [ofBytes t]).length = j + 1 := fun j hj => by rw [List.length_append, l1 j hj, List.length_singleton]
  induction d with
  | zero =>
    intro j hid hE
    rw [List.drop_eq_nil_of_le (by omega), insT] at hE
    refine Ev.step (f := fun k => spec_chTurns.l0 k s ((o.take j ++ [t]).map ofBytes) ((i + 1 : Nat) : Int)) (fun k => ?_) hE
    have hp := hput j (by omega)
    rw [List.drop_eq_nil_of_le (by omega : o.length ≤ j)] at hp
    simp only [spec_chTurns.l1]
    rw [if_neg (by omega)]
    simp only [Option.bind_some, List.nil_append, List.length_nil, Int.toNat_natCast]
    rw [if_pos (by omega), if_pos (by omega), l1 j (by omega), if_pos (by omega), if_pos (by omega), l3 j (by omega), l2 j (by omega), if_pos (by omega), e1, hp]
  | succ d ih =>
    intro j hid hE
    have hj : j < o.length := by omega
    have hr := rdOf_at o j hj
    have hdrop : o.drop j = o[j] :: o.drop (j + 1) := List.drop_eq_getElem_cons hj
    rw [hdrop, insT] at hE
    by_cases h : o[j] < t
    · rw [if_pos h] at hE
      refine Ev.step (f := fun k => spec_chTurns.l1 k s (o.map ofBytes) (i : Int) (ofBytes t) ((j + 1 : Nat) : Int)) (fun k => ?_) (ih (j + 1) (by omega) ?_)
      · simp only [spec_chTurns.l1]
        rw [if_pos (by omega), if_pos (by omega), hr, ht, bytesLess_eq, if_pos (decide_eq_true h), w64_succ (n := o.length) hj (by omega)]
      · rw [List.take_succ_eq_append_getElem hj, List.append_assoc, List.singleton_append]
        exact hE
    · rw [if_neg h] at hE
      have hb : ¬ (decide (o[j] < t) = true) := by simpa using h
      by_cases h2 : o[j] = t
      · rw [if_pos h2] at hE
        refine Ev.step (f := fun k => spec_chTurns.l0 k s (o.map ofBytes) ((i + 1 : Nat) : Int)) (fun k => ?_) ?_
        · simp only [spec_chTurns.l1]
          rw [if_pos (by omega), if_pos (by omega), hr, ht, bytesLess_eq, if_neg hb, if_pos h2, e1]
        · rw [← hdrop, List.take_append_drop] at hE
          exact hE
      · rw [if_neg h2, ← hdrop] at hE
        refine Ev.step (f := fun k => spec_chTurns.l0 k s ((o.take j ++ t :: o.drop j).map ofBytes) ((i + 1 : Nat) : Int)) (fun k => ?_) hE
        have hp := hput j (by omega)
        simp only [spec_chTurns.l1]
        rw [if_pos (by omega), if_pos (by omega), hr, ht, bytesLess_eq, if_neg hb, if_neg h2]
        simp only [Option.bind_some, List.nil_append, List.length_nil, Int.toNat_natCast]
        rw [if_pos (by omega), l1 j (by omega), if_pos (by omega), if_pos (by omega), l3 j (by omega), l2 j (by omega), if_pos (by omega), e1, hp]
theorem foldl_length (l : List BL) : ∀ o : List BL, (l.foldl (fun o t => insT t o) o).length ≤ o.length + l.length := by
  induction l with
  | nil => intro o; simp
  | cons t l ih =>
    intro o
    have h1 := ih (insT t o)
    have h2 := insT_length t o
    rw [List.foldl_cons, List.length_cons]
    omega
theorem spec_turns_upto (s : ByteArray) (hn : s.size ≤ 100000) (d : Nat) : ∀ (i : Nat) (o : List BL), i + d = s.size → o.length ≤ i → Ev (fun k => spec_chTurns.l0 k s (o.map ofBytes) (i : Int)) ((((allT s).drop i).foldl (fun o t => insT t o) o).map ofBytes) := by
  have hall : (allT s).length = s.size := by simp [allT]
  induction d with
  | zero =>
    intro i o hi ho
    rw [List.drop_eq_nil_of_le (by omega)]
    exact Ev.step (f := fun _ => some (o.map ofBytes)) (fun k => by simp only [spec_chTurns.l0]; rw [if_neg (by omega)]) (Ev.is rfl)
  | succ d ih =>
    intro i o hi ho
    have hsz := turn_size s i (by omega)
    have hlt : i < (allT s).length := by omega
    have hget : (allT s)[i] = bytesList (turnAt s i) := by simp [allT]
    rw [List.drop_eq_getElem_cons hlt, List.foldl_cons, hget]
    refine Ev.step (f := fun k => spec_chTurns.l1 k s (o.map ofBytes) (i : Int) (ofBytes (bytesList (turnAt s i))) ((0 : Nat) : Int)) (fun k => ?_) ?_
    · simp only [spec_chTurns.l0]
      rw [Int.toNat_natCast, if_pos (by omega), if_pos (by omega), if_pos (by omega), if_pos (by omega), of_bytes]
      rfl
    · refine turns_in s (by omega) o (by omega) _ i (by omega) _ o.length 0 (by omega) ?_
      rw [List.take_zero, List.drop_zero, List.nil_append]
      have h3 := insT_length (bytesList (turnAt s i)) o
      exact ih (i + 1) _ (by omega) (by omega)
theorem spec_turns_ev (s : ByteArray) (hn : s.size ≤ 100000) : Ev (fun k => spec_chTurns.f k s) ((turnsOf s).map ofBytes) := by
  unfold spec_chTurns.f
  have h := spec_turns_upto s hn s.size 0 [] (by omega) (by simp)
  rw [List.drop_zero] at h
  exact h
theorem turnsOf_length (s : ByteArray) : (turnsOf s).length ≤ s.size := by
  have h := foldl_length (allT s) []
  have hall : (allT s).length = s.size := by simp [allT]
  unfold turnsOf
  simp only [List.length_nil] at h
  omega
theorem turnsOf_some (s : ByteArray) (h : 1 ≤ s.size) : 1 ≤ (turnsOf s).length := by
  have h3 := (foldl_insT (allT s) [] List.Pairwise.nil).2 (bytesList (turnAt s 0))
  have hm : bytesList (turnAt s 0) ∈ turnsOf s := by
    unfold turnsOf
    rw [h3]
    refine .inl ?_
    unfold allT
    rw [List.mem_map]
    exact ⟨0, List.mem_range.2 (by omega), rfl⟩
  rcases Nat.eq_zero_or_pos (turnsOf s).length with h0 | h0
  · rw [List.eq_nil_of_length_eq_zero h0] at hm
    simp at hm
  · exact h0
end Go.Proofs.Ytkphmbcoefkilaa.P
