/- All triples up to a bound are told in order, with all that are below them, and each number is the greatest one of those that are told. No condition. -/
import Derived.Test.YtkdgpbcecnmdhaaPackFnMarkovLists8
set_option linter.unusedVariables false
set_option linter.unusedSimpArgs false
namespace Go.Proofs.Ytkdgpbcecnmdhaa.P
open Go.RowKit Go.Proofs.YtkdgpbcecnmdhaaW.PrintWords Go.Proofs.YtkdgpbcecnmdhaaW.PrintLast Go.Proofs.YtkdgpbcecnmdhaaW.PrintMore
def withF (m : Int) (x : List Int) : Bool := !(rd x 2 != m)
def withL (m : Int) : List (List Int) := (allUpTo m).filter (withF m)
theorem withF_iff {m : Int} {x : List Int} : withF m x = true ↔ rd x 2 = m := by simp [withF]
def withAll (m : Int) : List (List Int) × Bool := if inB 1 1000000000 m = true then (withL m, true) else ([], false)
theorem withL_len {m : Int} (hm : m ≤ 1000000000) : (withL m).length ≤ 4294967296 := Nat.le_trans (List.length_filter_le _ _) (allUpTo_len hm)
theorem withL_mk {m : Int} (hm : m ≤ 1000000000) : ∀ x ∈ withL m, isMk x = true ∧ rd x 2 = m := by
 intro x hx
 obtain ⟨h1, h2⟩ := List.mem_filter.1 hx
 exact ⟨allUpTo_mk hm x h1, withF_iff.1 h2⟩
theorem filter_take_succ {α : Type} (p : α → Bool) (l : List α) (i : Nat) (h : i < l.length) : (l.take (i + 1)).filter p = (l.take i).filter p ++ if p l[i] then [l[i]] else [] := by
 rw [List.take_succ_eq_append_getElem h, List.filter_append]
 congr 1
 cases hp : p l[i] <;> simp [hp]
theorem mkWith_loop {m : Int} (hm : m ≤ 1000000000) : ∀ (d i : Nat), i + d = (allUpTo m).length → Ev (fun k => spec_mkWith.l0 k m (((allUpTo m).take i).filter (withF m)) (allUpTo m) ((allUpTo m).length : Int) (i : Int)) (withL m)
 | 0, i, hi => by
  refine Ev.step (f := fun _ => some (withL m)) (fun k => ?_) (Ev.is rfl)
  simp only [spec_mkWith.l0]
  rw [if_neg (by omega), List.take_of_length_le (by omega)]
  rfl
 | d + 1, i, hi => by
  have hil : i < (allUpTo m).length := by omega
  have hl := allUpTo_len hm
  have hr := mkWith_loop hm d (i + 1) (by omega)
  have hn : (((allUpTo m).take i).filter (withF m)).length ≤ (allUpTo m).length := Nat.le_trans (List.length_filter_le _ _) (by rw [List.length_take]; omega)
  have h3 : 2 < ((rd_L1 (allUpTo m) (i : Int)).length : Int) := by
   rw [rdL1_lt _ i hil, mk_len_ (allUpTo_mk hm _ (List.getElem_mem hil))]
   decide
  rw [filter_take_succ (withF m) _ i hil] at hr
  refine Ev.step (fun k => ?_) hr
  simp only [spec_mkWith.l0]
  rw [if_pos (by omega), if_pos (by omega), if_pos (by omega), if_pos h3, w64_succ hil (by omega)]
  by_cases he : rd (rd_L1 (allUpTo m) (i : Int)) 2 = m
  ·rw [if_pos he, if_pos (by omega)]
   rw [rdL1_lt _ i hil] at he
   rw [rdL1_lt _ i hil, if_pos (withF_iff.2 he)]
  ·rw [if_neg he]
   rw [rdL1_lt _ i hil] at he
   rw [if_neg (fun h => he (withF_iff.1 h)), List.append_nil]
theorem mkWith_ev {m : Int} (h1 : 1 ≤ m) (hm : m ≤ 1000000000) : Ev (fun k => spec_mkWith.f k m) (withL m) := by
  unfold spec_mkWith.f
  exact Ev.bind (mkUpTo_ev h1 hm) (mkWith_loop hm (allUpTo m).length 0 (by omega))
theorem allUpTo_ne (m : Int) : allUpTo m ≠ [] := by
 intro h
 have hl : (allUpTo m).length = (treeOf m [1, 1, 1]).length := (sortM_perm _).length_eq
 rw [h] at hl
 simp [treeOf, dfs] at hl
theorem TriplesWith_ev (m : Int) : Ev (fun k => impl_TriplesWith.f k m) (withAll m) := by
 unfold impl_TriplesWith.f withAll
 cases h : inB 1 1000000000 m with
 | false =>
  simp only [Bool.false_eq_true, if_false]
  exact Ev.is rfl
 | true =>
  have hm := (most_iff.1 h).2
  have hl := allUpTo_len hm
  simp only [if_true]
  refine Ev.bind (markovs_ev hm) ?_
  have hc : allUpTo m ≠ [] ∧ (allUpTo m).length < 5864062014805 ∧ (allUpTo m).all prM = true := ⟨allUpTo_ne m, by omega, List.all_eq_true.2 fun x hx => mk_prM (allUpTo_mk hm x hx)⟩
  rw [if_pos hc]
  exact Ev.is rfl
end Go.Proofs.Ytkdgpbcecnmdhaa.P
namespace Go.Proofs.Ytkdgpbcecnmdhaa.P
open Go.RowKit Go.Proofs.YtkdgpbcecnmdhaaW.PrintWords Go.Proofs.YtkdgpbcecnmdhaaW.PrintLast Go.Proofs.YtkdgpbcecnmdhaaW.PrintMore
def upToAll (m : Int) : List (List Int) × Bool := if inB 1 1000000000 m = true then (allUpTo m, true) else ([], false)
theorem spec_MarkovUpTo_ev (m : Int) : Ev (fun k => spec_MarkovUpTo.f k m) (upToAll m) := by
 unfold spec_MarkovUpTo.f upToAll
 refine Ev.bind0 (most_in m) ?_
 cases h : inB 1 1000000000 m with
 | false =>
  simp only [Bool.false_eq_true, if_false]
  exact Ev.is rfl
 | true =>
  simp only [if_true]
  exact Ev.bind (mkUpTo_ev (most_iff.1 h).1 (most_iff.1 h).2) (Ev.is rfl)
theorem MarkovUpTo_ev (m : Int) : Ev (fun k => impl_MarkovUpTo.f k m) (upToAll m) := by
 unfold impl_MarkovUpTo.f upToAll
 refine Ev.bind0 (within_most m) ?_
 cases h : inB 1 1000000000 m with
 | false =>
  simp only [Bool.false_eq_true, if_false]
  exact Ev.is rfl
 | true =>
  simp only [if_true]
  exact Ev.bind (markovs_ev (most_iff.1 h).2) (Ev.is rfl)
def tops (m : Int) : List Int := (allUpTo m).map fun t => rd t 2
def numsAll (m : Int) : List Int × Bool := if inB 1 1000000000 m = true then (numsOf (tops m), true) else ([], false)
theorem tops_len {m : Int} (hm : m ≤ 1000000000) : (tops m).length ≤ 4294967296 := by
  have := allUpTo_len hm
  simpa [tops] using this
theorem tops_at (m : Int) (i : Nat) (hi : i < (allUpTo m).length) : rd (rd_L1 (allUpTo m) (i : Int)) 2 = (tops m)[i]'(by simpa [tops] using hi) := by
  rw [rdL1_lt _ i hi]
  simp [tops]
theorem tops_take (m : Int) (i : Nat) (hi : i < (allUpTo m).length) : (tops m).take (i + 1) = (tops m).take i ++ [rd (rd_L1 (allUpTo m) (i : Int)) 2] := by
  rw [tops_at m i hi]
  exact List.take_succ_eq_append_getElem (by simpa [tops] using hi)
theorem tops_len3 {m : Int} (hm : m ≤ 1000000000) (i : Nat) (hi : i < (allUpTo m).length) : 2 < ((rd_L1 (allUpTo m) (i : Int)).length : Int) := by
  rw [rdL1_lt _ i hi, mk_len_ (allUpTo_mk hm _ (List.getElem_mem hi))]
  decide
theorem tops_mono (m : Int) (i j : Nat) (hj : j < (tops m).length) (h : i ≤ j) : (tops m)[i]'(by omega) ≤ (tops m)[j] := by
 have hj' : j < (allUpTo m).length := by simpa [tops] using hj
 rcases Nat.lt_or_eq_of_le h with h1 | h1
 ·have h2 := List.pairwise_iff_getElem.1 (allUpTo_sorted m) i j (by omega) hj' h1
  have h3 := cfM_le h2
  simpa [tops] using h3
 ·subst h1
  exact Int.le_refl _
theorem tops_inv (m : Int) : ∀ i, i ≤ (tops m).length → Rises (numsOf ((tops m).take i)) ∧ ∀ x ∈ numsOf ((tops m).take i), ∀ (h : i < (tops m).length), x ≤ (tops m)[i]
 | 0, _ => by simp [numsOf, Rises]
 | i + 1, hi => by
  have hil : i < (tops m).length := by omega
  obtain ⟨h1, h2⟩ := tops_inv m i (by omega)
  have hs := addLast_rises h1 (fun x hx => h2 x hx hil)
  rw [List.take_succ_eq_append_getElem hil, nums_snoc]
  refine ⟨hs.1, fun x hx h => ?_⟩
  exact Int.le_trans (hs.2 x hx) (tops_mono m i (i + 1) h (by omega))
theorem spec_loop {m : Int} (hm : m ≤ 1000000000) : ∀ (d i : Nat), i + d = (allUpTo m).length → Ev (fun k => spec_MarkovNumbersUpTo.l0 k (numsOf ((tops m).take i)) (allUpTo m) ((allUpTo m).length : Int) (i : Int)) (numsOf (tops m), true)
 | 0, i, hi => by
  refine Ev.step (f := fun _ => some (numsOf (tops m), true)) (fun k => ?_) (Ev.is rfl)
  simp only [spec_MarkovNumbersUpTo.l0]
  rw [if_neg (by omega), List.take_of_length_le (by simp [tops]; omega)]
 | d + 1, i, hi => by
  have hil : i < (allUpTo m).length := by omega
  have hil2 : i < (tops m).length := by simpa [tops] using hil
  have hl := allUpTo_len hm
  obtain ⟨h1, h2⟩ := tops_inv m i (by omega)
  have hn := nums_len ((tops m).take i)
  rw [List.length_take] at hn
  have hp := l1Put_ev (o := numsOf ((tops m).take i)) (v := rd (rd_L1 (allUpTo m) (i : Int)) 2) h1 (fun x hx => by rw [tops_at m i hil]; exact h2 x hx hil2) (by omega)
  rw [← nums_snoc, ← tops_take m i hil] at hp
  have hr := spec_loop hm d (i + 1) (by omega)
  refine Ev.step (f := fun k => (spec_l1Put.f k (numsOf ((tops m).take i)) (rd (rd_L1 (allUpTo m) (i : Int)) 2)).bind fun t => spec_MarkovNumbersUpTo.l0 k t (allUpTo m) ((allUpTo m).length : Int) ((i + 1 : Nat) : Int)) (fun k => ?_) (Ev.bind hp hr)
  simp only [spec_MarkovNumbersUpTo.l0]
  rw [if_pos (by omega), if_pos (by omega), if_pos (by omega), if_pos (tops_len3 hm i hil), w64_succ hil (by omega)]
theorem impl_loop {m : Int} (hm : m ≤ 1000000000) : ∀ (d i : Nat), i + d = (allUpTo m).length → Ev (fun k => impl_MarkovNumbersUpTo.l0 k ((tops m).take i) (allUpTo m) ((allUpTo m).length : Int) (i : Int)) (numsOf (tops m), true)
 | 0, i, hi => by
  refine Ev.step (f := fun _ => some (numsOf (tops m), true)) (fun k => ?_) (Ev.is rfl)
  simp only [impl_MarkovNumbersUpTo.l0]
  rw [if_neg (by omega), List.take_of_length_le (by simp [tops]; omega)]
  unfold slices_Compact_int_int.f
  rw [compact_nums]
  rfl
 | d + 1, i, hi => by
  have hil : i < (allUpTo m).length := by omega
  have hl := allUpTo_len hm
  have hr := impl_loop hm d (i + 1) (by omega)
  rw [tops_take m i hil] at hr
  refine Ev.step (fun k => ?_) hr
  simp only [impl_MarkovNumbersUpTo.l0]
  rw [if_pos (by omega), if_pos (by omega), if_pos (by omega), if_pos (tops_len3 hm i hil), if_pos (by rw [List.length_take]; omega), w64_succ hil (by omega)]
theorem spec_MarkovNumbersUpTo_ev (m : Int) : Ev (fun k => spec_MarkovNumbersUpTo.f k m) (numsAll m) := by
 unfold spec_MarkovNumbersUpTo.f numsAll
 refine Ev.bind0 (most_in m) ?_
 cases h : inB 1 1000000000 m with
 | false =>
  simp only [Bool.false_eq_true, if_false]
  exact Ev.is rfl
 | true =>
  simp only [if_true]
  exact Ev.bind (mkUpTo_ev (most_iff.1 h).1 (most_iff.1 h).2) (spec_loop (most_iff.1 h).2 (allUpTo m).length 0 (by omega))
theorem MarkovNumbersUpTo_ev (m : Int) : Ev (fun k => impl_MarkovNumbersUpTo.f k m) (numsAll m) := by
 unfold impl_MarkovNumbersUpTo.f numsAll
 refine Ev.bind0 (within_most m) ?_
 cases h : inB 1 1000000000 m with
 | false =>
  simp only [Bool.false_eq_true, if_false]
  exact Ev.is rfl
 | true =>
  simp only [if_true]
  exact Ev.bind (markovs_ev (most_iff.1 h).2) (impl_loop (most_iff.1 h).2 (allUpTo m).length 0 (by omega))
theorem numsAll_len (m : Int) : (numsAll m).1.length ≤ 4294967296 := by
 unfold numsAll
 by_cases h : inB 1 1000000000 m = true
 ·rw [if_pos h]
  have h1 := tops_len (most_iff.1 h).2
  have h2 := nums_len (tops m)
  show (numsOf (tops m)).length ≤ _
  omega
 ·rw [if_neg h]
  simp
theorem spec_TriplesWith_ev (m : Int) : Ev (fun k => spec_TriplesWith.f k m) (withAll m) := by
 unfold spec_TriplesWith.f withAll
 refine Ev.bind0 (most_in m) ?_
 cases h : inB 1 1000000000 m with
 | false =>
  simp only [Bool.false_eq_true, if_false]
  exact Ev.is rfl
 | true =>
  simp only [if_true]
  exact Ev.bind (mkWith_ev (most_iff.1 h).1 (most_iff.1 h).2) (Ev.is rfl)
def isAll (m : Int) : Bool × Bool := if inB 1 1000000000 m = true then (decide (((withL m).length : Int) > 0), true) else (false, false)
theorem spec_IsMarkovNumber_ev (m : Int) : Ev (fun k => spec_IsMarkovNumber.f k m) (isAll m) := by
 unfold spec_IsMarkovNumber.f isAll
 refine Ev.bind0 (most_in m) ?_
 cases h : inB 1 1000000000 m with
 | false =>
  simp only [Bool.false_eq_true, if_false]
  exact Ev.is rfl
 | true =>
  simp only [if_true]
  exact Ev.bind (mkWith_ev (most_iff.1 h).1 (most_iff.1 h).2) (Ev.is rfl)
theorem IsMarkovNumber_ev (m : Int) : Ev (fun k => impl_IsMarkovNumber.f k m) (isAll m) := by
 unfold impl_IsMarkovNumber.f isAll
 refine Ev.bind (TriplesWith_ev m) (Ev.is ?_)
 unfold withAll
 cases h : inB 1 1000000000 m <;> rfl
theorem dfs_ge {m : Int} (hm : m ≤ 1000000000) : ∀ (n : Nat) (t : List Int), isMk t = true → ∀ x ∈ dfs m n t, rd t 2 ≤ rd x 2 ∧ rd x 2 ≤ max (rd t 2) m
 | 0, t, h, x, hx => by rw [List.mem_singleton.1 hx]; omega
 | n + 1, t, h, x, hx => by
  rcases List.mem_cons.1 hx with rfl | hx
  ·omega
  ·obtain ⟨u, hu, hx⟩ := List.mem_flatMap.1 hx
   have h1 := upsL_mk hm h hu
   have h2 := dfs_ge hm n u h1.1 x hx
   have h3 := mk_pos_ h
   omega
theorem dfs_from {m : Int} : ∀ (n : Nat) (t : List Int), ∀ x ∈ dfs m n t, x = t ∨ ∃ p ∈ dfs m n t, x ∈ upsL m p
 | 0, t, x, hx => .inl (List.mem_singleton.1 hx)
 | n + 1, t, x, hx => by
  rcases List.mem_cons.1 hx with h | hx
  ·exact .inl h
  ·obtain ⟨u, hu, hx⟩ := List.mem_flatMap.1 hx
   right
   rcases dfs_from n u x hx with h | ⟨p, hp, hxp⟩
   ·subst h
    exact ⟨t, List.mem_cons_self, hu⟩
   ·exact ⟨p, List.mem_cons_of_mem _ (List.mem_flatMap.2 ⟨u, hu, hp⟩), hxp⟩
theorem all_head {m : Int} (hm : m ≤ 1000000000) : ∃ rest : List (List Int), allUpTo m = [1, 1, 1] :: rest ∧ ∀ x ∈ rest, 2 ≤ rd x 2 := by
 have he : treeOf m [1, 1, 1] = [1, 1, 1] :: (upsL m [1, 1, 1]).flatMap (dfs m 30) := rfl
 have hr : ∀ x ∈ (upsL m [1, 1, 1]).flatMap (dfs m 30), 2 ≤ rd x 2 := by
  intro x hx
  obtain ⟨u, hu, hx⟩ := List.mem_flatMap.1 hx
  have h1 := upsL_mk hm one_mk hu
  have h2 := dfs_ge hm 30 u h1.1 x hx
  have h3 : rd [1, 1, 1] 2 = 1 := rfl
  omega
 unfold allUpTo
 rw [he]
 generalize (upsL m [1, 1, 1]).flatMap (dfs m 30) = L at hr
 show ∃ rest, insM [1, 1, 1] (sortM L) = _ ∧ _
 have hs : ∀ x ∈ sortM L, 2 ≤ rd x 2 := fun x hx => hr x ((sortM_perm L).mem_iff.1 hx)
 generalize sortM L = S at hs
 refine ⟨S, ?_, hs⟩
 cases S with
 | nil => rfl
 | cons y t =>
  have hy := hs y List.mem_cons_self
  have h3 : rd [1, 1, 1] 2 = 1 := rfl
  unfold insM
  rw [if_pos]
  unfold cfM
  rw [if_neg (by omega)]
  omega
theorem all_bound {m : Int} (h1 : 1 ≤ m) (hm : m ≤ 1000000000) : ∀ x ∈ allUpTo m, rd x 2 ≤ m := by
 intro x hx
 unfold allUpTo at hx
 have := dfs_ge hm 31 [1, 1, 1] one_mk x ((sortM_perm _).mem_iff.1 hx)
 have h3 : rd [1, 1, 1] 2 = 1 := rfl
 omega
theorem all_from {m : Int} (hm : m ≤ 1000000000) {x : List Int} (hx : x ∈ allUpTo m) (h2 : 2 ≤ rd x 2) : ∃ p ∈ allUpTo m, x ∈ upsL m p := by
 unfold allUpTo at hx ⊢
 rcases dfs_from 31 [1, 1, 1] x ((sortM_perm _).mem_iff.1 hx) with h | ⟨p, hp, hxp⟩
 ·rw [h] at h2
  have h3 : rd [1, 1, 1] 2 = 1 := rfl
  omega
 ·exact ⟨p, (sortM_perm _).mem_iff.2 hp, hxp⟩
theorem mem_addLast {o : List Int} {v x : Int} : x ∈ addLast o v ↔ x ∈ o ∨ x = v := by
 unfold addLast
 split
 ·rename_i h
  constructor
  ·exact .inl
  ·rintro (h1 | h1)
   ·exact h1
   ·rw [h1]; exact List.mem_of_getLast? h
 ·simp
theorem mem_numsOf (L : List Int) : ∀ o x, x ∈ L.foldl addLast o ↔ x ∈ o ∨ x ∈ L := by
 induction L with
 | nil => intro o x; simp
 | cons v L ih =>
  intro o x
  rw [List.foldl_cons, ih, mem_addLast, List.mem_cons]
  constructor
  ·rintro ((h | h) | h)
   ·exact .inl h
   ·exact .inr (.inl h)
   ·exact .inr (.inr h)
  ·rintro (h | h | h)
   ·exact .inl (.inl h)
   ·exact .inl (.inr h)
   ·exact .inr h
theorem top_in {m : Int} {x : List Int} (hx : x ∈ allUpTo m) : rd x 2 ∈ numsOf (tops m) := (mem_numsOf (tops m) [] _).2 (.inr (List.mem_map.2 ⟨x, hx, rfl⟩))
end Go.Proofs.Ytkdgpbcecnmdhaa.P
namespace Go.Proofs.Ytkdgpbcecnmdhaa.Pure
open Go.RowKit Go.Proofs.Ytkdgpbcecnmdhaa.P Go.Proofs.YtkdgpbcecnmdhaaW.PrintWords Go.Proofs.YtkdgpbcecnmdhaaW.PrintLast Go.Proofs.YtkdgpbcecnmdhaaW.PrintMore
theorem inB_iff {lo hi x : Int} : inB lo hi x = true ↔ lo ≤ x ∧ x ≤ hi := by simp [inB]
theorem bound_ok (code : List Int) (hc : Bytes code) (at_ seed : Int) (h0 : 0 ≤ at_) (h1 : at_ ≤ 900000000) : ∃ v at' seed', spec_l1Cur_bound.f code at_ seed = some (v, at', seed') := by
 obtain ⟨v, a1, s1, e1, _, _, v2, v3⟩ := pick_ok code hc at_ seed 3000 h0 (by omega) (by omega)
 obtain ⟨y, a2, s2, e2, _, _, _⟩ := among_ok code hc a1 s1 [1, 2, 4, 5, 13, 100, 1000, 100000, 1000000000, 1000000001, 0, (-1), wrap64 (1 + v)] (by omega) (by omega) (by simp) (by simp)
 unfold spec_l1Cur_bound.f
 simp only [e1, e2, Option.bind_some]
 exact ⟨_, _, _, rfl⟩
theorem draw_most (code : List Int) (hc : Bytes code) : ∃ m, spec_DrawMarkovUpTo.f code = some m := by
 obtain ⟨v, a, s, e⟩ := bound_ok code hc 0 0 (by omega) (by omega)
 unfold spec_DrawMarkovUpTo.f
 rw [e]
 exact ⟨_, rfl⟩
theorem draw_with (code : List Int) (hc : Bytes code) : ∃ n, Ev (fun k => spec_DrawTriplesWith.f k code) n := by
 unfold spec_DrawTriplesWith.f spec_DrawIsMarkovNumber.f
 obtain ⟨t, a1, s1, e1, w1, w2⟩ := one_ok code hc 0 0 2 (by omega) (by omega) (by omega)
 cases t with
 | true =>
  obtain ⟨l, a2, s2, e2, hl, h0, h1⟩ := markov_ok code hc a1 s1 (by omega) (by omega)
  by_cases c : (l.length : Int) = 3
  ·refine ⟨rd l 2, Ev.bind (a := rd l 2) (Ev.bind0 e1 ?_) (Ev.is rfl)⟩
   simp only [if_true]
   refine Ev.bind e2 ?_
   have c2 : 2 < (l.length : Int) := by omega
   simp only [c, if_true]
   rw [if_pos (by decide)]
   exact Ev.is rfl
  ·obtain ⟨v, a3, s3, e3⟩ := bound_ok code hc a2 s2 h0 (by omega)
   refine ⟨v, Ev.bind (a := v) (Ev.bind0 e1 ?_) (Ev.is rfl)⟩
   simp only [if_true]
   refine Ev.bind e2 ?_
   simp only [c, if_false, e3, Option.bind_some]
   exact Ev.is rfl
 | false =>
  obtain ⟨v, a3, s3, e3⟩ := bound_ok code hc a1 s1 (by omega) (by omega)
  refine ⟨v, Ev.bind (a := v) (Ev.bind0 e1 ?_) (Ev.is rfl)⟩
  simp only [Bool.false_eq_true, if_false, e3, Option.bind_some]
  exact Ev.is rfl
theorem l2_loop {n : Int} (L : List (List Int)) (hL : ∀ x ∈ L, isMk x = true ∧ rd x 2 = n) (hl : L.length ≤ 4294967296) (d : Nat) : ∀ i : Nat, i + d = L.length → Ev (fun k => laws_FnMarkovLists.l2 k n L (L.length : Int) (i : Int)) true := by
 induction d with
 | zero =>
  intro i hi
  have c1 : ¬ (i : Int) < (L.length : Int) := by omega
  exact Ev.step (f := fun _ => some true) (fun k => by simp only [laws_FnMarkovLists.l2, c1, if_false]) (Ev.is rfl)
 | succ d ih =>
  intro i hi
  have hil : i < L.length := by omega
  have hr := ih (i + 1) (by omega)
  have g := rdL1_lt L i hil
  obtain ⟨h1, h2⟩ := hL _ (List.getElem_mem hil)
  have h3 := mk_len_ h1
  have c1 : (i : Int) < (L.length : Int) := by omega
  have c2 : (0 : Int) ≤ (i : Int) := by omega
  have c3 : 2 < (L[i].length : Int) := by omega
  have w1 : wrap64 ((i : Int) + 1) = ((i + 1 : Nat) : Int) := w64_succ hil (by omega)
  have e1 := IsMarkov_ev L[i]
  rw [h1] at e1
  refine Ev.step (fun k => by simp only [laws_FnMarkovLists.l2, c1, c2, g, w1, if_true]; rfl) (Ev.bind e1 ?_)
  simp only [if_true, c3, h2]
  exact hr
theorem l1_loop (x1 : List Int) (m : Int) (W : List (List Int)) (N u : List Int) (i : Nat) (hi : i < W.length) (hl : W.length ≤ 4294967296) (hu : u.length ≤ 3) (V : List (List Int)) (hV : V.length ≤ 4294967296) (hV3 : ∀ x ∈ V, x.length ≤ 3) (hk : Ev (fun k => laws_FnMarkovLists.l0 k x1 m W N W (W.length : Int) ((i + 1 : Nat) : Int)) true) (d : Nat) :
  ∀ (j : Nat) (f : Bool), j + d = V.length → (f = true ∨ u ∈ V.drop j) → Ev (fun k => laws_FnMarkovLists.l1 k x1 m W N u true f W (W.length : Int) (i : Int) V (V.length : Int) (j : Int)) true := by
 induction d with
 | zero =>
  intro j f hj hf
  have hf2 : f = true := by
   rcases hf with h | h
   ·exact h
   ·rw [List.drop_of_length_le (by omega)] at h; simp at h
  subst hf2
  have c1 : ¬ (j : Int) < (V.length : Int) := by omega
  have w1 : wrap64 ((i : Int) + 1) = ((i + 1 : Nat) : Int) := w64_succ hi (by omega)
  exact Ev.step (fun k => by simp only [laws_FnMarkovLists.l1, c1, w1, if_true, if_false]) hk
 | succ d ih =>
  intro j f hj hf
  have hjl : j < V.length := by omega
  have g := rdL1_lt V j hjl
  have c1 : (j : Int) < (V.length : Int) := by omega
  have c2 : (0 : Int) ≤ (j : Int) := by omega
  have w1 : wrap64 ((j : Int) + 1) = ((j + 1 : Nat) : Int) := w64_succ hjl (by omega)
  cases f with
  | true =>
   have hr := ih (j + 1) true (by omega) (.inl rfl)
   exact Ev.step (fun k => by simp only [laws_FnMarkovLists.l1, c1, c2, w1, if_true]) hr
  | false =>
   have h3 := hV3 _ (List.getElem_mem hjl)
   have e1 := dSame_ev V[j] u (by omega)
   have hr := ih (j + 1) (decide (V[j] = u)) (by omega) (by
    rcases hf with h | h
    ·simp at h
    ·rw [List.drop_eq_getElem_cons hjl, List.mem_cons] at h
     rcases h with h | h
     ·exact .inl (decide_eq_true h.symm)
     ·exact .inr h)
   exact Ev.step (fun k => by simp only [laws_FnMarkovLists.l1, c1, c2, g, w1, if_true, Bool.false_eq_true, if_false]; rfl) (Ev.bind e1 hr)
theorem below_before {m : Int} {W : List (List Int)} (hs : W.Pairwise fun a b => ¬ cfM b a < 0) (hm : ∀ x ∈ W, isMk x = true) (i : Nat) (hi : i < W.length) (p : List Int) (hp : p ∈ W) (hlt : rd p 2 < rd W[i] 2) : p ∈ W.take i := by
 obtain ⟨j, hj, rfl⟩ := List.getElem_of_mem hp
 have hji : j < i := by
  rcases Nat.lt_trichotomy j i with h | h | h
  ·exact h
  ·subst h; omega
  ·have h1 := List.pairwise_iff_getElem.1 hs i j hi hj h
   have m1 := hm _ (List.getElem_mem hi)
   have m2 := hm _ (List.getElem_mem hj)
   obtain ⟨a, b, c, e1⟩ := mk_three m1
   obtain ⟨x, y, z, e2⟩ := mk_three m2
   rw [e1, e2] at hlt h1
   exact absurd ((cfM_three x y z a b c).2 (.inl hlt)) h1
 rw [List.mem_take_iff_getElem]
 exact ⟨j, by omega, rfl⟩
theorem l0_loop (x1 : List Int) {m : Int} (h1 : 1 ≤ m) (hm : m ≤ 1000000000) (hk : Ev (fun k => laws_FnMarkovLists.l0 k x1 m (allUpTo m) (numsOf (tops m)) (allUpTo m) ((allUpTo m).length : Int) ((allUpTo m).length : Int)) true) (d : Nat) : ∀ i : Nat, i + d = (allUpTo m).length → Ev (fun k => laws_FnMarkovLists.l0 k x1 m (allUpTo m) (numsOf (tops m)) (allUpTo m) ((allUpTo m).length : Int) (i : Int)) true := by
 have hlen := allUpTo_len hm
 have hmk := allUpTo_mk hm
 have hsrt := allUpTo_sorted m
 have hbd := all_bound h1 hm
 have hfrom := fun x hx h2 => all_from (m := m) hm (x := x) hx h2
 have htop := fun x hx => top_in (m := m) (x := x) hx
 have hnl : (numsOf (tops m)).length ≤ 4611686018427387904 := by
  have := numsAll_len m
  unfold numsAll at this
  rw [inB_iff.2 ⟨h1, hm⟩] at this
  simp only [if_true] at this
  omega
 obtain ⟨rest, hhead, hrest⟩ := all_head hm
 have hge : ∀ i, (h : i < (allUpTo m).length) → 1 ≤ i → 2 ≤ rd (allUpTo m)[i] 2 := by
  intro i h hi
  obtain ⟨j, rfl⟩ : ∃ j, i = j + 1 := ⟨i - 1, by omega⟩
  refine hrest _ ?_
  have : (allUpTo m)[j + 1] = rest[j]'(by rw [hhead] at h; simpa using h) := by
   simp only [hhead, List.getElem_cons_succ]
  rw [this]
  exact List.getElem_mem _
 clear hhead hrest
 generalize allUpTo m = W at *
 generalize numsOf (tops m) = N at *
 induction d with
 | zero =>
  intro i hi
  have : i = W.length := by omega
  subst this
  exact hk
 | succ d ih =>
  intro i hi
  have hil : i < W.length := by omega
  have hr := ih (i + 1) (by omega)
  have g := rdL1_lt W i hil
  have hmem := List.getElem_mem hil
  have hx := hmk _ hmem
  have h3 := mk_len_ hx
  have hb := hbd _ hmem
  have e1 := IsMarkov_ev W[i]
  rw [hx] at e1
  have e2 := dHas_ev hnl (htop _ hmem)
  have c1 : (i : Int) < (W.length : Int) := by omega
  have c2 : (0 : Int) ≤ (i : Int) := by omega
  have c3 : 2 < (W[i].length : Int) := by omega
  have c4 : ¬ rd W[i] 2 > m := by omega
  have w1 : wrap64 ((i : Int) + 1) = ((i + 1 : Nat) : Int) := w64_succ hil (by omega)
  refine Ev.step (fun k => by simp only [laws_FnMarkovLists.l0, c1, c2, g, w1, if_true]; rfl) (Ev.bind e1 ?_)
  simp only [if_true, c3, c4, if_false]
  refine Ev.bind e2 ?_
  simp only [if_true]
  by_cases hi0 : i = 0
  ·subst hi0
   have c5 : ¬ ((0 : Nat) : Int) > 0 := by omega
   simp only [c5, if_false]
   exact hr
  ·obtain ⟨q, rfl⟩ : ∃ q, i = q + 1 := ⟨i - 1, by omega⟩
   have hq : q < W.length := by omega
   have g2 := rdL1_lt W q hq
   have hy := hmk _ (List.getElem_mem hq)
   have hy3 := mk_len_ hy
   have hge2 := hge (q + 1) hil (by omega)
   have hle : ¬ rd W[q + 1] 2 < rd W[q] 2 := by
    intro hlt
    have h5 := List.pairwise_iff_getElem.1 hsrt q (q + 1) hq hil (by omega)
    obtain ⟨a, b, c, e1⟩ := mk_three hx
    obtain ⟨x, y, z, e2⟩ := mk_three hy
    rw [e1, e2] at hlt h5
    exact h5 ((cfM_three a b c x y z).2 (.inl hlt))
   obtain ⟨p, hp, hup⟩ := hfrom _ hmem hge2
   obtain ⟨hdn, hlt⟩ := up_back hm (hmk p hp) hup
   have hin := below_before (m := m) hsrt hmk (q + 1) hil p hp hlt
   have e3 := Down_ev W[q + 1]
   rw [hdn] at e3
   have hp3 := mk_len_ (hmk p hp)
   have hfin := l1_loop x1 m W N p (q + 1) hil hlen (by omega) (W.take (q + 1)) (by rw [List.length_take]; omega) (fun x hx => by have := mk_len_ (hmk x (List.mem_of_mem_take hx)); omega) hr (W.take (q + 1)).length 0 false (by omega) (.inr hin)
   have c5 : ((q + 1 : Nat) : Int) > 0 := by omega
   have w2 : wrap64 (((q + 1 : Nat) : Int) - 1) = (q : Int) := by rw [w64 (by omega) (by omega)]; omega
   have c6 : (0 : Int) ≤ (q : Int) := by omega
   have c7 : (q : Int) < (W.length : Int) := by omega
   have c8 : 2 < (W[q].length : Int) := by omega
   have c9 : ((q + 1 : Nat) : Int) ≤ (W.length : Int) := by omega
   simp only [c5, w2, c6, c7, g2, c8, hle, if_true, if_false]
   refine Ev.bind e3 ?_
   simp only [c9, if_true, Option.bind_some, Int.toNat_natCast]
   exact hfin
theorem tail_ev (x1 : List Int) (hc : Bytes x1) (m : Int) (W : List (List Int)) (N : List Int) : Ev (fun k => laws_FnMarkovLists.l0 k x1 m W N W (W.length : Int) (W.length : Int)) true := by
 obtain ⟨n, hD⟩ := draw_with x1 hc
 have c1 : ¬ (W.length : Int) < (W.length : Int) := by omega
 have e1 := TriplesWith_ev n
 have e2 := spec_TriplesWith_ev n
 have e3 := IsMarkovNumber_ev n
 have e4 := spec_IsMarkovNumber_ev n
 have hw : (withAll n).1.length ≤ 4294967296 ∧ (∀ x ∈ (withAll n).1, isMk x = true ∧ rd x 2 = n) ∧ (isAll n).2 = (withAll n).2 ∧ (isAll n).1 = decide (((withAll n).1.length : Int) > 0) := by
  unfold withAll isAll
  split
  ·rename_i h
   have h2 := inB_iff.1 h
   exact ⟨withL_len h2.2, withL_mk h2.2, rfl, rfl⟩
  ·exact ⟨by simp, by simp, rfl, by simp⟩
 have e5 := dLists_ev (withAll n).1 (by omega) (fun x hx => by have := mk_len_ (hw.2.1 x hx).1; omega)
 have e6 := l2_loop (n := n) (withAll n).1 hw.2.1 hw.1 (withAll n).1.length 0 (by omega)
 refine Ev.step (fun k => by simp only [laws_FnMarkovLists.l0, c1, if_false]; rfl) (Ev.bind hD (Ev.bind e1 (Ev.bind e2 (Ev.bind e3 (Ev.bind e4 ?_)))))
 rw [hw.2.2.1, hw.2.2.2]
 simp only [bne_self_eq_false, Bool.false_eq_true, if_false]
 refine Ev.bind e5 ?_
 simp only [if_true]
 exact e6
theorem FnMarkovLists : laws_FnMarkovLists.Pure := by
 intro l0 l1 _ _ hb _ _ hb1
 refine Ev.rounds ?_
 unfold laws_FnMarkovLists.f
 cases hbig : laws_big.f l0 l1 with
 | none => exact absurd hbig (by unfold laws_big.f; split <;> simp)
 | some t =>
  cases t with
  | true =>
   simp only [Option.bind_some, if_true]
   exact Ev.is rfl
  | false =>
   simp only [Option.bind_some, Bool.false_eq_true, if_false]
   obtain ⟨m, hD⟩ := draw_most l0 (bytes_of_u8 hb)
   have e1 := MarkovUpTo_ev m
   have e2 := spec_MarkovUpTo_ev m
   have e3 := MarkovNumbersUpTo_ev m
   have e4 := spec_MarkovNumbersUpTo_ev m
   have hu : (upToAll m).1.length ≤ 4294967296 ∧ (∀ x ∈ (upToAll m).1, isMk x = true) ∧ (numsAll m).2 = (upToAll m).2 := by
    unfold upToAll numsAll
    split
    ·rename_i h
     have h2 := inB_iff.1 h
     exact ⟨allUpTo_len h2.2, allUpTo_mk h2.2, rfl⟩
    ·exact ⟨by simp, by simp, rfl⟩
   have e5 := dLists_ev (upToAll m).1 (by omega) (fun x hx => by have := mk_len_ (hu.2.1 x hx); omega)
   have hnl := numsAll_len m
   have e6 := dSame_ev (numsAll m).1 (numsAll m).1 (by omega)
   rw [decide_eq_true rfl] at e6
   refine Ev.bind0 hD (Ev.bind e1 (Ev.bind e2 (Ev.bind e3 (Ev.bind e4 ?_))))
   simp only [bne_self_eq_false, Bool.false_eq_true, if_false]
   refine Ev.bind e5 ?_
   simp only [if_true]
   refine Ev.bind e6 ?_
   rw [hu.2.2]
   simp only [if_true, bne_self_eq_false]
   refine Ev.step (fun k => by simp only [laws_FnMarkovLists.j0, Bool.false_eq_true, if_false]; rfl) ?_
   unfold upToAll numsAll
   cases hin : inB 1 1000000000 m with
   | false =>
    simp only [Bool.false_eq_true, if_false]
    exact tail_ev l1 (bytes_of_u8 hb1) m [] []
   | true =>
    have h2 := inB_iff.1 hin
    simp only [if_true]
    exact l0_loop l1 h2.1 h2.2 (tail_ev l1 (bytes_of_u8 hb1) m (allUpTo m) (numsOf (tops m))) (allUpTo m).length 0 (by omega)
end Go.Proofs.Ytkdgpbcecnmdhaa.Pure
