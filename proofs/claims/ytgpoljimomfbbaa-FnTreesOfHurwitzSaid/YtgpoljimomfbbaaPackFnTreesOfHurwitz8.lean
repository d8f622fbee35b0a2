/- What is reached by jumps up is told in order and closed under them, and nothing in it has a less sum than where it begins. No condition. -/
import Derived.Test.YtgpoljimomfbbaaPackFnTreesOfHurwitz7
-- PureFnTreesOfHurwitz
namespace Go.Proofs.Ytgpoljimomfbbaa.Pure
set_option linter.unusedVariables false
set_option linter.unusedSimpArgs false
open Go.RowKit Go.Proofs.Ytgpoljimomfbbaa.P Go.Proofs.YtgpoljimomfbbaaW.PrintWords Go.Proofs.YtgpoljimomfbbaaW.PrintLast Go.Proofs.YtgpoljimomfbbaaW.PrintMore
theorem vBefore_loop (l m : List Int) (hl : l.length ≤ 4611686018427387904) : ∀ (a b pre pre' : List Int), l = pre ++ a → m = pre' ++ b → pre.length = pre'.length → Ev (fun k => laws_vBefore.l0 k l m (pre.length : Int)) (decide (cmpL a b < 0)) := by
  intro a
  induction a with
  | nil =>
    intro b pre pre' h1 h2 h3
    have e1 : l.length = pre.length := by rw [h1]; simp
    have c1 : ¬ (pre.length : Int) < (l.length : Int) := by omega
    refine Ev.step (f := fun k => laws_vBefore.j1 k l m (pre.length : Int) false) (fun k => by simp only [laws_vBefore.l0]; rw [if_neg c1]) ?_
    refine Ev.step (f := fun _ => some (decide ((l.length : Int) < (m.length : Int)))) (fun k => by simp only [laws_vBefore.j1, Bool.false_eq_true, if_false]) (Ev.is ?_)
    have e2 : m.length = pre.length + b.length := by rw [h2, List.length_append]; omega
    cases b with
    | nil =>
      have : ¬ (l.length : Int) < (m.length : Int) := by simp at e2; omega
      rw [decide_eq_false this]
      rfl
    | cons y b =>
      have : (l.length : Int) < (m.length : Int) := by simp at e2; omega
      rw [decide_eq_true this]
      rfl
  | cons x a ih =>
    intro b pre pre' h1 h2 h3
    have e1 : l.length = pre.length + (a.length + 1) := by rw [h1, List.length_append, List.length_cons]
    have e2 : m.length = pre.length + b.length := by rw [h2, List.length_append]; omega
    have c1 : (pre.length : Int) < (l.length : Int) := by omega
    cases b with
    | nil =>
      have c2 : ¬ (pre.length : Int) < (m.length : Int) := by simp at e2; omega
      have c3 : ¬ (l.length : Int) < (m.length : Int) := by simp at e2; omega
      refine Ev.step (f := fun k => laws_vBefore.j1 k l m (pre.length : Int) false) (fun k => by simp only [laws_vBefore.l0]; rw [if_pos c1, decide_eq_false c2]) ?_
      refine Ev.step (f := fun _ => some (decide ((l.length : Int) < (m.length : Int)))) (fun k => by simp only [laws_vBefore.j1, Bool.false_eq_true, if_false]) (Ev.is ?_)
      rw [decide_eq_false c3]
      rfl
    | cons y b =>
      have c2 : (pre.length : Int) < (m.length : Int) := by simp at e2; omega
      have r1 : rd l (pre.length : Int) = x := by rw [h1]; exact rd_app pre x a
      have r2 : rd m (pre.length : Int) = y := by rw [h2, h3]; exact rd_app pre' y b
      have c0 : (0 : Int) ≤ (pre.length : Int) := by omega
      refine Ev.step (f := fun k => laws_vBefore.j1 k l m (pre.length : Int) true) (fun k => by simp only [laws_vBefore.l0]; rw [if_pos c1, decide_eq_true c2]) ?_
      by_cases hxy : x = y
      · subst hxy
        have hr := ih b (pre ++ [x]) (pre' ++ [x]) (by rw [h1]; simp) (by rw [h2]; simp) (by simp [h3])
        rw [List.length_append, List.length_singleton] at hr
        have hc : cmpL (x :: a) (x :: b) = cmpL a b := by simp [cmpL]
        rw [hc]
        refine Ev.step (fun k => ?_) hr
        simp only [laws_vBefore.j1, if_true, c0, c1, c2, r1, r2]
        rw [w64_succ (n := l.length) (by omega) hl]
      · refine Ev.step (f := fun _ => some (decide (x < y))) (fun k => ?_) (Ev.is ?_)
        · simp only [laws_vBefore.j1, if_true, c0, c1, c2, r1, r2]
          rw [if_neg hxy]
        · congr 1
          have : (x < y) ↔ cmpL (x :: a) (y :: b) < 0 := by
            unfold cmpL
            split <;> (try split) <;> omega
          exact decide_eq_decide.2 this
theorem vBefore_ev (l m : List Int) (hl : l.length ≤ 4611686018427387904) : Ev (fun k => laws_vBefore.f k l m) (decide (cmpL l m < 0)) := vBefore_loop l m hl l m [] [] rfl rfl rfl
theorem su_sm (l : List Int) : su l = sm l := by
  induction l with
  | nil => rfl
  | cons x l ih => simp only [su, sm, ih]
theorem rdL1_at {W : List (List Int)} (i : Nat) (hi : i < W.length) : rd_L1 W (i : Int) = W[i] := by
  unfold rd_L1
  rw [Int.toNat_natCast, List.getD_eq_getElem?_getD, List.getElem?_eq_getElem hi]
  rfl
/-- The draw. -/
theorem draw_tree (code : List Int) (hc : Bytes code) : ∃ l a b most, Four l ∧ Ev (fun k => spec_DrawTreeUpTo.f k code) (l, a, b, most) := by
  obtain ⟨l, a, b, at1, s1, e1, hl, ha1, ha2⟩ := hurwitz_ok code hc 0 0 (by decide) (by decide)
  obtain ⟨v, a2, s2, e2, v0, v1, v2, v3⟩ := pick_ok code hc at1 s1 3000 ha1 (by omega) (by omega)
  obtain ⟨t, a3, s3, e3, w1, w2⟩ := one_ok code hc a2 s2 8 (by omega) (by omega) (by omega)
  obtain ⟨y, a4, s4, e4, _, _, _⟩ := among_ok code hc a3 s3 [0, 100000, 100001] (by omega) (by omega) (by decide) (by decide)
  unfold spec_DrawTreeUpTo.f
  cases t with
  | true =>
    refine ⟨l, a, b, y, hl, Ev.bind e1 ?_⟩
    simp only [e2, e3, e4, Option.bind_some, if_true]
    exact Ev.is rfl
  | false =>
    refine ⟨l, a, b, wrap64 (1 + v), hl, Ev.bind e1 ?_⟩
    simp only [e2, e3, Option.bind_some, Bool.false_eq_true, if_false]
    exact Ev.is rfl
theorem vSame_loop (l m : List Int) (hlm : l.length = m.length) (hn : l.length ≤ 1000000) (d : Nat) : ∀ i : Nat, i + d = l.length → l.take i = m.take i → Ev (fun k => laws_vSame.l0 k l m (l.length : Int) (i : Int)) (decide (l = m)) := by
  induction d with
  | zero =>
    intro i hi ht
    rw [List.take_of_length_le (by omega), List.take_of_length_le (by omega)] at ht
    have c1 : ¬ (i : Int) < (l.length : Int) := by omega
    rw [decide_eq_true ht]
    exact Ev.step (f := fun _ => some true) (fun k => by simp only [laws_vSame.l0, c1, if_false]) (Ev.is rfl)
  | succ d ih =>
    intro i hi ht
    have hil : i < l.length := by omega
    have him : i < m.length := by omega
    have c1 : (i : Int) < (l.length : Int) := by omega
    have c2 : (0 : Int) ≤ (i : Int) := by omega
    have c3 : (i : Int) < (m.length : Int) := by omega
    have w1 : wrap64 ((i : Int) + 1) = ((i + 1 : Nat) : Int) := w64_succ hil (by omega)
    have r1 : rd l (i : Int) = l[i] := by unfold rd; rw [Int.toNat_natCast, List.getD_eq_getElem?_getD, List.getElem?_eq_getElem hil]; rfl
    have r2 : rd m (i : Int) = m[i] := by unfold rd; rw [Int.toNat_natCast, List.getD_eq_getElem?_getD, List.getElem?_eq_getElem him]; rfl
    by_cases he : rd l (i : Int) = rd m (i : Int)
    · have hr := ih (i + 1) (by omega) (by
        rw [List.take_succ_eq_append_getElem hil, List.take_succ_eq_append_getElem him, ht, ← r1, ← r2, he])
      exact Ev.step (fun k => by simp only [laws_vSame.l0, c1, c2, c3, he, w1, if_true]) hr
    · have hne : ¬ l = m := fun e => he (by rw [e])
      rw [decide_eq_false hne]
      exact Ev.step (f := fun _ => some false) (fun k => by simp only [laws_vSame.l0, c1, c2, c3, he, if_true, if_false]) (Ev.is rfl)
theorem vSame_is (l m : List Int) (hn : l.length ≤ 1000000) : Ev (fun k => laws_vSame.f k l m) (decide (l = m)) := by
  unfold laws_vSame.f
  by_cases h : (l.length : Int) = (m.length : Int)
  · simp only [h, if_true]
    have := vSame_loop l m (by omega) hn l.length 0 (by omega) rfl
    rw [h] at this
    exact this
  · have hne : ¬ l = m := fun e => h (by rw [e])
    rw [decide_eq_false hne]
    simp only [h, if_false]
    exact Ev.is rfl
theorem vHas_loop (W : List (List Int)) (x : List Int) (hn : W.length ≤ 1000000) (hx : x.length ≤ 1000000) (d : Nat) : ∀ i : Nat, i + d = W.length → Ev (fun k => laws_vHas.l0 k x W (W.length : Int) (i : Int)) (decide (x ∈ W.drop i)) := by
  induction d with
  | zero =>
    intro i hi
    have c1 : ¬ (i : Int) < (W.length : Int) := by omega
    rw [List.drop_of_length_le (by omega), decide_eq_false (by simp)]
    exact Ev.step (f := fun _ => some false) (fun k => by simp only [laws_vHas.l0, c1, if_false]) (Ev.is rfl)
  | succ d ih =>
    intro i hi
    have hil : i < W.length := by omega
    have c1 : (i : Int) < (W.length : Int) := by omega
    have c2 : (0 : Int) ≤ (i : Int) := by omega
    have w1 : wrap64 ((i : Int) + 1) = ((i + 1 : Nat) : Int) := w64_succ hil (by omega)
    have g := rdL1_at i hil
    have e1 := vSame_is x W[i] hx
    refine Ev.step (fun k => by simp only [laws_vHas.l0, c1, c2, g, w1, if_true]; rfl) (Ev.bind e1 ?_)
    rw [List.drop_eq_getElem_cons hil]
    by_cases he : x = W[i]
    · rw [decide_eq_true he, decide_eq_true (show x ∈ W[i] :: W.drop (i + 1) by rw [← he]; exact List.mem_cons_self)]
      simp only [if_true]
      exact Ev.is rfl
    · rw [decide_eq_false he]
      simp only [Bool.false_eq_true, if_false]
      have e2 : decide (x ∈ W[i] :: W.drop (i + 1)) = decide (x ∈ W.drop (i + 1)) := by
        rw [decide_eq_decide, List.mem_cons]
        exact ⟨fun h => h.resolve_left he, .inr⟩
      rw [e2]
      exact ih (i + 1) (by omega)
theorem vHas_ev (W : List (List Int)) (x : List Int) (hn : W.length ≤ 1000000) (hx : x.length ≤ 1000000) : Ev (fun k => laws_vHas.f k W x) (decide (x ∈ W)) := by
  have := vHas_loop W x hn hx W.length 0 (by omega)
  rw [List.drop_zero] at this
  exact this
theorem reach_sum {a b most : Int} {l : List Int} (h : huIs l a b = true) {x : List Int} (hx : P.Reach a most l x) : sm l ≤ sm x := by
  induction hx with
  | base => exact Int.le_refl _
  | step hx hu _ ih =>
    obtain ⟨j, hj, hin, hup, hu⟩ := (brs_mem _ a _).1 hu
    have hsum := jmp_sum (a := a) (i := j) hj
    rw [su_sm, su_sm] at hsum
    rw [hu, hsum]
    omega
theorem reach_most {a most : Int} {l : List Int} (h : rd l 0 ≤ most) {x : List Int} (hx : P.Reach a most l x) : rd x 0 ≤ most := by
  cases hx with
  | base => exact h
  | step _ _ h => exact h
theorem tr_inner {a b most : Int} {l : List Int} (W : List (List Int)) (hW5 : W.length ≤ 500) (i : Nat) (x : List Int) (hx : huIs x a b = true) (hs : P.Shut a most W x) (hk : Ev (fun k => laws_FnTreesOfHurwitz.l0 k l a b most W W (W.length : Int) ((i + 1 : Nat) : Int)) true) (hi : i < W.length) (n : Nat) :
    ∀ j : Nat, j + n = (brs x a).length → Ev (fun k => laws_FnTreesOfHurwitz.l1 k l a b most W W (W.length : Int) (i : Int) (brs x a) ((brs x a).length : Int) (j : Int)) true := by
  have hbl := brs_length x a
  have hx4 := (huIs_iff.1 hx).1
  induction n with
  | zero =>
    intro j hj
    have c1 : ¬ (j : Int) < ((brs x a).length : Int) := by omega
    have w1 : wrap64 ((i : Int) + 1) = ((i + 1 : Nat) : Int) := w64_succ hi (by omega)
    exact Ev.step (fun k => by simp only [laws_FnTreesOfHurwitz.l1, c1, w1, if_false]) hk
  | succ n ih =>
    intro j hj
    have hjl : j < (brs x a).length := by omega
    have hr := ih (j + 1) (by omega)
    have g := rdL1_at j hjl
    have c1 : (j : Int) < ((brs x a).length : Int) := by omega
    have c2 : (0 : Int) ≤ (j : Int) := by omega
    have w1 : wrap64 ((j : Int) + 1) = ((j + 1 : Nat) : Int) := w64_succ hjl (by omega)
    have hm := List.getElem_mem hjl
    have hu : huIs (brs x a)[j] a b = true := by
      obtain ⟨q, hq, hin, _, e⟩ := (brs_mem _ a _).1 hm
      rw [e]
      exact jmp_is hq hx hin
    have hu4 := (huIs_iff.1 hu).1
    have c3 : (0 : Int) < ((brs x a)[j].length : Int) := by omega
    by_cases h5 : rd (brs x a)[j] 0 ≤ most
    · have hin := hs _ hm h5
      have e1 := vHas_ev W (brs x a)[j] (by omega) (by omega)
      rw [decide_eq_true hin] at e1
      refine Ev.step (fun k => by simp only [laws_FnTreesOfHurwitz.l1, c1, c2, c3, g, h5, w1, if_true]; rfl) (Ev.bind e1 ?_)
      simp only [if_true]
      exact hr
    · exact Ev.step (fun k => by simp only [laws_FnTreesOfHurwitz.l1, c1, c2, c3, g, h5, w1, if_true, if_false]) hr
theorem tr_loop {a b most : Int} {l : List Int} (hg : huGv a b = true) (h : huIs l a b = true) (hm : rd l 0 ≤ most) (W : List (List Int)) (hW : W.Pairwise fun a b => cmpL a b < 0) (hW5 : W.length ≤ 500) (hR : ∀ x ∈ W, P.Reach a most l x) (hS : ∀ x ∈ W, P.Shut a most W x) (hl : l ∈ W) (n : Nat) :
    ∀ i : Nat, i + n = W.length → Ev (fun k => laws_FnTreesOfHurwitz.l0 k l a b most W W (W.length : Int) (i : Int)) true := by
  obtain ⟨h1, h2, h3, h4⟩ := huIs_iff.1 h
  induction n with
  | zero =>
    intro i hi
    have c1 : ¬ (i : Int) < (W.length : Int) := by omega
    have e1 := vHas_ev W l (by omega) (by omega)
    rw [decide_eq_true hl] at e1
    exact Ev.step (fun k => by simp only [laws_FnTreesOfHurwitz.l0, c1, if_false]) (Ev.bind e1 (Ev.is rfl))
  | succ n ih =>
    intro i hi
    have hil : i < W.length := by omega
    have hr := ih (i + 1) (by omega)
    have g := rdL1_at i hil
    have hmem := List.getElem_mem hil
    have hx := reach_is h (hR _ hmem)
    have hsx := hS _ hmem
    have hsum := reach_sum h (hR _ hmem)
    have hmx := reach_most hm (hR _ hmem)
    have hin := tr_inner (b := b) (l := l) W hW5 i W[i] hx hsx hr hil (brs W[i] a).length 0 (by omega)
    have hbef : ∀ j, j + 1 = i → Ev (fun k => laws_vBefore.f k (rd_L1 W (j : Int)) W[i]) true := by
      intro j hj
      subst hj
      have g2 := rdL1_at (W := W) j (by omega)
      rw [g2]
      have hlt : cmpL W[j] W[j + 1] < 0 := List.pairwise_iff_getElem.1 hW j (j + 1) (by omega) hil (by omega)
      have hb4 := (huIs_iff.1 (reach_is h (hR _ (List.getElem_mem (show j < W.length by omega))))).1
      have e4 := vBefore_ev W[j] W[j + 1] (by omega)
      rw [decide_eq_true hlt] at e4
      exact e4
    generalize W[i] = x at *
    obtain ⟨x1, x2, x3, x4⟩ := huIs_iff.1 hx
    have c1 : (i : Int) < (W.length : Int) := by omega
    have c2 : (0 : Int) ≤ (i : Int) := by omega
    have c3 : (0 : Int) < (x.length : Int) := by omega
    have c4 : ¬ rd x 0 > most := by omega
    have c5 : ¬ sm x < sm l := by omega
    have e1 := vSolves_ev x a b
    rw [huSol_iff.2 ⟨hg, hx⟩] at e1
    have e2 := vSum_ev x x2 (by omega)
    have e3 := vSum_ev l h2 (by omega)
    have e4 := BranchesOf_ev x a b
    have eb : brAll x a b = (brs x a, true) := by
      unfold brAll
      rw [huSol_iff.2 ⟨hg, hx⟩]
      rfl
    rw [eb] at e4
    refine Ev.step (fun k => by simp only [laws_FnTreesOfHurwitz.l0, c1, c2, g, if_true]; rfl) (Ev.bind e1 ?_)
    simp only [if_true, c3, c4, if_false]
    refine Ev.bind e2 (Ev.bind e3 ?_)
    simp only [c5, if_false]
    cases i with
    | zero =>
      have c6 : ¬ ((0 : Nat) : Int) > 0 := by omega
      simp only [c6, if_false]
      refine Ev.bind e4 ?_
      simp only [if_true]
      exact hin
    | succ i =>
      have c6 : ((i + 1 : Nat) : Int) > 0 := by omega
      have w2 : wrap64 (((i + 1 : Nat) : Int) - 1) = (i : Int) := by rw [w64 (by omega) (by omega)]; omega
      have c7 : (0 : Int) ≤ (i : Int) := by omega
      have c8 : (i : Int) < (W.length : Int) := by omega
      have e5 := hbef i rfl
      simp only [c6, w2, c7, c8, if_true]
      refine Ev.bind e5 ?_
      simp only [if_true]
      refine Ev.bind e4 ?_
      simp only [if_true]
      exact hin
theorem FnTreesOfHurwitz : laws_FnTreesOfHurwitz.Pure := by
  intro l0 l1 _ _ hb _ _ hb1
  refine Ev.rounds ?_
  unfold laws_FnTreesOfHurwitz.f
  cases hbig : laws_big.f l0 l1 with
  | none => exact absurd hbig (by unfold laws_big.f; split <;> simp)
  | some t =>
    cases t with
    | true =>
      simp only [Option.bind_some, if_true]
      exact Ev.is rfl
    | false =>
      simp only [Option.bind_some, Bool.false_eq_true, if_false]
      obtain ⟨l, a, b, most, hl, hD⟩ := draw_tree l0 (bytes_of_u8 hb)
      have hl2 := hl.2
      obtain ⟨r, e1, e2, hr⟩ := TreeUpTo_both l a b most (by omega)
      refine Ev.bind hD (Ev.bind e2 (Ev.bind e1 ?_))
      simp only [bne_self_eq_false, Bool.false_eq_true, if_false]
      rcases hr with rfl | ⟨hg, h, hm, ⟨F, rfl, hn, h5, hlF, hR, hS⟩ | ⟨rfl, _⟩⟩
      · refine Ev.bind (vSameLists_ev [] (by simp) (by simp)) ?_
        simp only [if_true, Bool.false_eq_true, if_false]
        exact Ev.is rfl
      · have hlen := sortDedup_length F
        have hmem : ∀ x, x ∈ sortDedup F ↔ x ∈ F := fun x => sortDedup_mem x F
        have hsame := vSameLists_ev (sortDedup F) (by omega) (fun x hx => by
          have := (huIs_iff.1 (reach_is h (hR x ((hmem x).1 hx)))).1
          omega)
        refine Ev.bind hsame ?_
        simp only [if_true]
        exact tr_loop hg h hm (sortDedup F) (sortDedup_sorted F) (by omega) (fun x hx => hR x ((hmem x).1 hx)) (fun x hx u hu hle => (hmem u).2 (hS x ((hmem x).1 hx) u hu hle)) ((hmem l).2 hlF) (sortDedup F).length 0 (by omega)
      · refine Ev.bind (vSameLists_ev [] (by simp) (by simp)) ?_
        simp only [if_true, Bool.false_eq_true, if_false]
        exact Ev.is rfl
end Go.Proofs.Ytgpoljimomfbbaa.Pure
