/- Turns are told in order, mirrored twice letters are the same, and neighbours of a word have its factors. No condition. -/
import Derived.Test.YtkphmbcoefkilaaPackFnLettersTurned8
-- PureFnLettersTurned
namespace Go.Proofs.Ytkphmbcoefkilaa.Pure
set_option linter.unusedVariables false
set_option linter.unusedSimpArgs false
open Go.RowKit Go.Proofs.Ytkphmbcoefkilaa.P Go.Proofs.YtkphmbcoefkilaaW.PrintWords Go.Proofs.YtkphmbcoefkilaaW.PrintLast Go.Proofs.YtkphmbcoefkilaaW.PrintMore
theorem dTexts_from (l : List ByteArray) (hl : l.length ≤ 1000000) (d : Nat) : ∀ i : Nat, i + d = l.length → Ev (fun k => laws_dTexts.l0 k l l (l.length : Int) (i : Int)) true := by
  induction d with
  | zero =>
    intro i hi
    have c1 : ¬ (i : Int) < (l.length : Int) := by omega
    exact Ev.step (f := fun _ => some true) (fun k => by simp only [laws_dTexts.l0, c1, if_false]) (Ev.is rfl)
  | succ d ih =>
    intro i hi
    have c1 : (i : Int) < (l.length : Int) := by omega
    have c2 : (0 : Int) ≤ (i : Int) := by omega
    have w : wrap64 ((i : Int) + 1) = ((i + 1 : Nat) : Int) := by rw [w64 (by omega) (by omega)]; omega
    exact Ev.step (fun k => by simp only [laws_dTexts.l0, c1, c2, w, if_true]) (ih (i + 1) (by omega))
theorem dTexts_ev (l : List ByteArray) (hl : l.length ≤ 1000000) : Ev (fun k => laws_dTexts.f k l l) true := by
  unfold laws_dTexts.f
  simp only [if_true]
  exact dTexts_from l hl l.length 0 (by omega)
theorem draw_upto (code : List Int) (hc : Bytes code) : ∃ n : Int, spec_DrawChristoffelUpTo.f code = some n := by
  obtain ⟨a, a1, s1, e1, hm, _, _⟩ := among_ok code hc 0 0 [1, 2, 3, 5, 8, 12, 13, 0] (by omega) (by omega) (by decide) (by decide)
  refine ⟨a, ?_⟩
  unfold spec_DrawChristoffelUpTo.f
  simp only [e1, Option.bind_some]
theorem rdOf_lt (l : List ByteArray) (i : Nat) (h : i < l.length) : rdOf ByteArray.empty l (i : Int) = l[i] := by
  unfold rdOf
  rw [Int.toNat_natCast, List.getD_eq_getElem?_getD, List.getElem?_eq_getElem h]
  rfl
theorem let_l1 (l : List ByteArray) (hl : l.length ≤ 1000000) (hu : ∀ i (h : i + 1 < l.length), (l[i]'(by omega)).size < (l[i + 1]).size ∨ ((l[i]'(by omega)).size = (l[i + 1]).size ∧ bytesList (l[i]'(by omega)) < bytesList l[i + 1])) (d : Nat) : ∀ i : Nat, 1 ≤ i → l.length ≤ i + d → Ev (fun k => laws_FnLettersTurned.l1 k l (i : Int)) true := by
  induction d with
  | zero =>
    intro i h1 hi
    have c1 : ¬ (i : Int) < (l.length : Int) := by omega
    exact Ev.step (f := fun _ => some true) (fun k => by simp only [laws_FnLettersTurned.l1, c1, if_false]) (Ev.is rfl)
  | succ d ih =>
    intro i h1 hi
    by_cases hlt : i < l.length
    · obtain ⟨j, rfl⟩ : ∃ j, i = j + 1 := ⟨i - 1, by omega⟩
      have c1 : ((j + 1 : Nat) : Int) < (l.length : Int) := by omega
      have c2 : (0 : Int) ≤ ((j + 1 : Nat) : Int) := by omega
      have w0 : wrap64 (((j + 1 : Nat) : Int) - 1) = (j : Int) := by rw [w64 (by omega) (by omega)]; omega
      have c3 : (0 : Int) ≤ (j : Int) := by omega
      have c4 : (j : Int) < (l.length : Int) := by omega
      have w : wrap64 (((j + 1 : Nat) : Int) + 1) = ((j + 1 + 1 : Nat) : Int) := by rw [w64 (by omega) (by omega)]; omega
      have r1 := rdOf_lt l (j + 1) hlt
      have r0 := rdOf_lt l j (by omega)
      have hr := ih (j + 1 + 1) (by omega) (by omega)
      have hx := hu j hlt
      have b1 : Op.bytesLess (l[j]'(by omega)).toList (l[j + 1]).toList = decide (bytesList (l[j]'(by omega)) < bytesList l[j + 1]) := by rw [bytesLess_eq, toList_is, toList_is]; rfl
      by_cases he : (l[j]'(by omega)).size = (l[j + 1]).size
      · have d1 : ¬ ((l[j + 1]).size : Int) < ((l[j]'(by omega)).size : Int) := by omega
        have d2 : ((l[j + 1]).size : Int) = ((l[j]'(by omega)).size : Int) := by omega
        have d3 : bytesList (l[j]'(by omega)) < bytesList l[j + 1] := by
          rcases hx with h | h
          · omega
          · exact h.2
        rw [decide_eq_true d3] at b1
        exact Ev.step (fun k => by simp only [laws_FnLettersTurned.l1, c1, c2, w0, c3, c4, r1, r0, d1, if_true, if_false]; rw [if_pos d2, if_pos b1, w]) hr
      · have d1 : ¬ ((l[j + 1]).size : Int) < ((l[j]'(by omega)).size : Int) := by omega
        have d2 : ¬ ((l[j + 1]).size : Int) = ((l[j]'(by omega)).size : Int) := by omega
        exact Ev.step (fun k => by simp only [laws_FnLettersTurned.l1, c1, c2, w0, c3, c4, r1, r0, d1, d2, w, if_true, if_false]) hr
    · have c1 : ¬ (i : Int) < (l.length : Int) := by omega
      exact Ev.step (f := fun _ => some true) (fun k => by simp only [laws_FnLettersTurned.l1, c1, if_false]) (Ev.is rfl)
theorem let_j4 (x1 : List Int) (hc : Bytes x1) : Ev (fun k => laws_FnLettersTurned.j4 k x1) true := by
  obtain ⟨n, hD⟩ := draw_upto x1 hc
  obtain ⟨e1, e2⟩ := upto_both n
  have hlen := chUpTo_length n
  refine Ev.step (fun k => by simp only [laws_FnLettersTurned.j4]; rfl) (Ev.bind0 hD (Ev.bind e2 (Ev.bind e1 ?_)))
  simp only [bne_self_eq_false, Bool.false_eq_true, if_false]
  refine Ev.bind (dTexts_ev _ (by omega)) ?_
  refine Ev.step (fun k => by simp only [laws_FnLettersTurned.j5, Bool.not_true, Bool.false_eq_true, if_false]; rfl) ?_
  exact let_l1 _ (by omega) (chUpTo_up n) (chUpTo n).1.length 1 (Nat.le_refl _) (by omega)
theorem let_j2 (x1 : List Int) (hc : Bytes x1) : Ev (fun k => laws_FnLettersTurned.j2 k x1) true := by
  obtain ⟨s, eD, hz⟩ := DrawIsLetters_ok x1 hc
  have hD : Ev (fun k => spec_DrawNeighbourWords.f k x1) s := by
    unfold spec_DrawNeighbourWords.f
    exact Ev.bind eD (Ev.is rfl)
  obtain ⟨e1, e2⟩ := neighbours_both s
  have hj := let_j4 x1 hc
  refine Ev.step (fun k => by simp only [laws_FnLettersTurned.j2]; rfl) (Ev.bind hD (Ev.bind e2 (Ev.bind e1 ?_)))
  simp only [bne_self_eq_false, Bool.false_eq_true, if_false, if_true]
  cases hok : (neighboursOf s).2.2 with
  | false => exact Ev.step (fun k => by simp only [laws_FnLettersTurned.j3, Bool.false_eq_true, if_false]) hj
  | true =>
    obtain ⟨h1, h2, h3⟩ := neighbours_factors hok
    refine Ev.step (fun k => by simp only [laws_FnLettersTurned.j3, Bool.false_eq_true, if_false, if_true]; rfl) (Ev.bind (impl_FactorsOf_ev s) (Ev.bind (impl_FactorsOf_ev _) (Ev.bind (impl_FactorsOf_ev _) ?_)))
    simp only [h1, h2, h3, if_true]
    exact hj
theorem let_l0 (x1 : List Int) (hc : Bytes x1) {s : ByteArray} (hs : isLet s = true) (d : Nat) : ∀ i : Nat, 1 ≤ i → (turnsOf s).length ≤ i + d → Ev (fun k => laws_FnLettersTurned.l0 k x1 s ((turnsOf s).map ofBytes) (mirrorOf s) (i : Int)) true := by
  obtain ⟨h1, h40, hl⟩ := isLet_iff.1 hs
  have htl := turnsOf_length s
  have hml : ((turnsOf s).map ofBytes).length = (turnsOf s).length := List.length_map _
  have hend : ∀ i : Nat, (turnsOf s).length ≤ i → Ev (fun k => laws_FnLettersTurned.l0 k x1 s ((turnsOf s).map ofBytes) (mirrorOf s) (i : Int)) true := by
    intro i hi
    have c1 : ¬ (i : Int) < (((turnsOf s).map ofBytes).length : Int) := by omega
    have hm := mir_let hs
    have m1 := isLet_iff.1 hm
    have e1 := (MirrorWord_both (mirrorOf s) (by omega)).2
    unfold mirrorAns at e1
    rw [if_pos hm, mir_mir hs] at e1
    have e2 := CountsOf_is s
    have e3 := CountsOf_is (mirrorOf s)
    unfold countsOf at e2 e3
    rw [if_pos hs] at e2
    rw [if_pos hm, (mir_counts hs).1, (mir_counts hs).2] at e3
    refine Ev.step (fun k => by simp only [laws_FnLettersTurned.l0, c1, if_false]; rfl) (Ev.bind0 e1 (Ev.bind0 e2 (Ev.bind0 e3 ?_)))
    simp only [if_true]
    exact let_j2 x1 hc
  induction d with
  | zero => exact fun i _ hi => hend i hi
  | succ d ih =>
    intro i hi1 hi
    by_cases hlt : i < (turnsOf s).length
    · obtain ⟨j, rfl⟩ : ∃ j, i = j + 1 := ⟨i - 1, by omega⟩
      have c1 : ((j + 1 : Nat) : Int) < (((turnsOf s).map ofBytes).length : Int) := by omega
      have c2 : (0 : Int) ≤ ((j + 1 : Nat) : Int) := by omega
      have w0 : wrap64 (((j + 1 : Nat) : Int) - 1) = (j : Int) := by rw [w64 (by omega) (by omega)]; omega
      have c3 : (0 : Int) ≤ (j : Int) := by omega
      have c4 : (j : Int) < (((turnsOf s).map ofBytes).length : Int) := by omega
      have w : wrap64 (((j + 1 : Nat) : Int) + 1) = ((j + 1 + 1 : Nat) : Int) := by rw [w64 (by omega) (by omega)]; omega
      have b1 : Op.bytesLess (rdOf ByteArray.empty ((turnsOf s).map ofBytes) (j : Int)).toList (rdOf ByteArray.empty ((turnsOf s).map ofBytes) ((j + 1 : Nat) : Int)).toList = true := by
        rw [rdOf_at _ j (by omega), rdOf_at _ (j + 1) hlt, bytesLess_eq]
        exact decide_eq_true (List.pairwise_iff_getElem.1 (turnsOf_facts s).1 j (j + 1) (by omega) hlt (by omega))
      have z : ((rdOf ByteArray.empty ((turnsOf s).map ofBytes) ((j + 1 : Nat) : Int)).size : Int) = (s.size : Int) := by
        have h5 := rdOf_at (turnsOf s) (j + 1) hlt
        rw [toList_is] at h5
        have h6 := turnsOf_size s _ (List.getElem_mem hlt)
        rw [← h5, data_length] at h6
        omega
      exact Ev.step (fun k => by simp only [laws_FnLettersTurned.l0, c1, c2, w0, c3, c4, if_true]; rw [if_pos b1, if_pos z, w]) (ih (j + 1 + 1) (by omega) (by omega))
    · exact hend i (by omega)
theorem let_j0 (x1 : List Int) (hc : Bytes x1) (s : ByteArray) : Ev (fun k => laws_FnLettersTurned.j0 k x1 s (turnsTold s).1 (turnsTold s).2 (mirrorAns s).1 false) true := by
  unfold turnsTold mirrorAns
  cases hs : isLet s with
  | false =>
    simp only [Bool.false_eq_true, if_false]
    exact Ev.step (fun k => by simp only [laws_FnLettersTurned.j0, Bool.false_eq_true, if_false]) (let_j2 x1 hc)
  | true =>
    obtain ⟨h1, h40, hl⟩ := isLet_iff.1 hs
    have h2 := turnsOf_some s h1
    have h3 := (turnsOf_count s h1).1
    have c1 : ¬ (((turnsOf s).map ofBytes).length : Int) = 0 := by rw [List.length_map]; omega
    have c2 : (s.size : Int) % (((turnsOf s).map ofBytes).length : Int) = 0 := by rw [List.length_map]; omega
    simp only [if_true]
    have := let_l0 x1 hc hs (turnsOf s).length 1 (Nat.le_refl _) (by omega)
    exact Ev.step (fun k => by simp only [laws_FnLettersTurned.j0, Bool.false_eq_true, c1, c2, if_false, if_true]; rfl) this
theorem FnLettersTurned : laws_FnLettersTurned.Pure := by
  intro l0 l1 _ _ hb _ _ hb1
  refine Ev.rounds ?_
  unfold laws_FnLettersTurned.f
  cases hbig : laws_big.f l0 l1 with
  | none => exact absurd hbig (by unfold laws_big.f; split <;> simp)
  | some t =>
    cases t with
    | true =>
      simp only [Option.bind_some, if_true]
      exact Ev.is rfl
    | false =>
      simp only [Option.bind_some, Bool.false_eq_true, if_false]
      obtain ⟨s, eD, hz⟩ := DrawIsLetters_ok l0 (bytes_of_u8 hb)
      have hD : Ev (fun k => spec_DrawTurnsOf.f k l0) s := by
        unfold spec_DrawTurnsOf.f
        exact Ev.bind eD (Ev.is rfl)
      have hj := let_j0 l1 (bytes_of_u8 hb1) s
      have ht : (turnsTold s).2 = isLet s ∧ (turnsTold s).1.length ≤ 1000000 := by
        unfold turnsTold
        cases hs : isLet s with
        | false => simp
        | true =>
          have := turnsOf_length s
          refine ⟨rfl, ?_⟩
          simp only [if_true, List.length_map]
          omega
      refine Ev.bind hD (Ev.bind (TurnsOf_both s).2 (Ev.bind (TurnsOf_both s).1 (Ev.bind (isBalanced_both s).2 (Ev.bind (isBalanced_both s).1 (Ev.bind0 (MirrorWord_both s (by omega)).2 (Ev.bind (MirrorWord_both s (by omega)).1 ?_))))))
      simp only [bne_self_eq_false, Bool.false_eq_true, if_false]
      refine Ev.bind (dTexts_ev _ ht.2) ?_
      simp only [if_true, impl_IsLetters_is, Option.bind_some, ht.1, bne_self_eq_false]
      rw [ht.1] at hj
      exact hj
end Go.Proofs.Ytkphmbcoefkilaa.Pure
