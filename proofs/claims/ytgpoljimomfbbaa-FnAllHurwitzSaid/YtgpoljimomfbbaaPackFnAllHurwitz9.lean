/- All solutions up to a bound are told in order, and each comes down to a fundamental one that is told, too. No condition. -/
import Derived.Test.YtgpoljimomfbbaaPackFnAllHurwitz8
import Derived.Sort.Statements
-- Ucmp
namespace Go.Proofs.Ytgpoljimomfbbaa.P
open Go.RowKit Go.Proofs.YtgpoljimomfbbaaW.PrintWords Go.Proofs.YtgpoljimomfbbaaW.PrintLast
set_option linter.unusedVariables false
set_option linter.unusedSimpArgs false

def cmpL : List Int → List Int → Int
  | [], [] => 0
  | [], _ :: _ => -1
  | _ :: _, [] => 1
  | x :: a, y :: b => if x < y then -1 else if y < x then 1 else cmpL a b
theorem rd_app (pre : List Int) (x : Int) (a : List Int) : rd (pre ++ x :: a) (pre.length : Int) = x := by
  simp [rd]
end Go.Proofs.Ytgpoljimomfbbaa.P

-- PureFnAllHurwitz
namespace Go.Proofs.Ytgpoljimomfbbaa.Pure
set_option linter.unusedVariables false
set_option linter.unusedSimpArgs false
open Go.RowKit Go.Proofs.Ytgpoljimomfbbaa.P Go.Proofs.YtgpoljimomfbbaaW.PrintWords Go.Proofs.YtgpoljimomfbbaaW.PrintLast Go.Proofs.YtgpoljimomfbbaaW.PrintMore
theorem vBefore_loop (l m : List Int) (hl : l.length ≤ 4611686018427387904) : ∀ (a b pre pre' : List Int), l = pre ++ a → m = pre' ++ b → pre.length = pre'.length → Ev (fun k => laws_vBefore.l0 k l m (pre.length : Int)) (decide (cmpL a b < 0)) := by
  intro a
  induction a with
  | nil =>
    intro b pre pre' h1 h2 h3
    have e1 : l.length = pre.length := by rw [h1]; simp
    have c1 : ¬ (pre.length : Int) < (l.length : Int) := by omega
    refine Ev.step (f := fun k => laws_vBefore.j1 k l m (pre.length : Int) false) (fun k => by simp only [laws_vBefore.l0]; rw [if_neg c1]) ?_
    refine Ev.step (f := fun _ => some (decide ((l.length : Int) < (m.length : Int)))) (fun k => by simp only [laws_vBefore.j1, Bool.false_eq_true, if_false]) (Ev.is ?_)
    have e2 : m.length = pre.length + b.length := by rw [h2, List.length_append]; omega
    cases b with
    | nil =>
      have : ¬ (l.length : Int) < (m.length : Int) := by simp at e2; omega
      rw [decide_eq_false this]
      rfl
    | cons y b =>
      have : (l.length : Int) < (m.length : Int) := by simp at e2; omega
      rw [decide_eq_true this]
      rfl
  | cons x a ih =>
    intro b pre pre' h1 h2 h3
    have e1 : l.length = pre.length + (a.length + 1) := by rw [h1, List.length_append, List.length_cons]
    have e2 : m.length = pre.length + b.length := by rw [h2, List.length_append]; omega
    have c1 : (pre.length : Int) < (l.length : Int) := by omega
    cases b with
    | nil =>
      have c2 : ¬ (pre.length : Int) < (m.length : Int) := by simp at e2; omega
      have c3 : ¬ (l.length : Int) < (m.length : Int) := by simp at e2; omega
      refine Ev.step (f := fun k => laws_vBefore.j1 k l m (pre.length : Int) false) (fun k => by simp only [laws_vBefore.l0]; rw [if_pos c1, decide_eq_false c2]) ?_
      refine Ev.step (f := fun _ => some (decide ((l.length : Int) < (m.length : Int)))) (fun k => by simp only [laws_vBefore.j1, Bool.false_eq_true, if_false]) (Ev.is ?_)
      rw [decide_eq_false c3]
      rfl
    | cons y b =>
      have c2 : (pre.length : Int) < (m.length : Int) := by simp at e2; omega
      have r1 : rd l (pre.length : Int) = x := by rw [h1]; exact rd_app pre x a
      have r2 : rd m (pre.length : Int) = y := by rw [h2, h3]; exact rd_app pre' y b
      have c0 : (0 : Int) ≤ (pre.length : Int) := by omega
      refine Ev.step (f := fun k => laws_vBefore.j1 k l m (pre.length : Int) true) (fun k => by simp only [laws_vBefore.l0]; rw [if_pos c1, decide_eq_true c2]) ?_
      by_cases hxy : x = y
      · subst hxy
        have hr := ih b (pre ++ [x]) (pre' ++ [x]) (by rw [h1]; simp) (by rw [h2]; simp) (by simp [h3])
        rw [List.length_append, List.length_singleton] at hr
        have hc : cmpL (x :: a) (x :: b) = cmpL a b := by simp [cmpL]
        rw [hc]
        refine Ev.step (fun k => ?_) hr
        simp only [laws_vBefore.j1, if_true, c0, c1, c2, r1, r2]
        rw [w64_succ (n := l.length) (by omega) hl]
      · refine Ev.step (f := fun _ => some (decide (x < y))) (fun k => ?_) (Ev.is ?_)
        · simp only [laws_vBefore.j1, if_true, c0, c1, c2, r1, r2]
          rw [if_neg hxy]
        · congr 1
          have : (x < y) ↔ cmpL (x :: a) (y :: b) < 0 := by
            unfold cmpL
            split <;> (try split) <;> omega
          exact decide_eq_decide.2 this
theorem vBefore_ev (l m : List Int) (hl : l.length ≤ 4611686018427387904) : Ev (fun k => laws_vBefore.f k l m) (decide (cmpL l m < 0)) := vBefore_loop l m hl l m [] [] rfl rfl rfl
theorem rdL1_at {W : List (List Int)} (i : Nat) (hi : i < W.length) : rd_L1 W (i : Int) = W[i] := by
  unfold rd_L1
  rw [Int.toNat_natCast, List.getD_eq_getElem?_getD, List.getElem?_eq_getElem hi]
  rfl
theorem vSame_loop (l m : List Int) (hlm : l.length = m.length) (hn : l.length ≤ 1000000) (d : Nat) : ∀ i : Nat, i + d = l.length → l.take i = m.take i → Ev (fun k => laws_vSame.l0 k l m (l.length : Int) (i : Int)) (decide (l = m)) := by
  induction d with
  | zero =>
    intro i hi ht
    rw [List.take_of_length_le (by omega), List.take_of_length_le (by omega)] at ht
    have c1 : ¬ (i : Int) < (l.length : Int) := by omega
    rw [decide_eq_true ht]
    exact Ev.step (f := fun _ => some true) (fun k => by simp only [laws_vSame.l0, c1, if_false]) (Ev.is rfl)
  | succ d ih =>
    intro i hi ht
    have hil : i < l.length := by omega
    have him : i < m.length := by omega
    have c1 : (i : Int) < (l.length : Int) := by omega
    have c2 : (0 : Int) ≤ (i : Int) := by omega
    have c3 : (i : Int) < (m.length : Int) := by omega
    have w1 : wrap64 ((i : Int) + 1) = ((i + 1 : Nat) : Int) := w64_succ hil (by omega)
    have r1 : rd l (i : Int) = l[i] := by unfold rd; rw [Int.toNat_natCast, List.getD_eq_getElem?_getD, List.getElem?_eq_getElem hil]; rfl
    have r2 : rd m (i : Int) = m[i] := by unfold rd; rw [Int.toNat_natCast, List.getD_eq_getElem?_getD, List.getElem?_eq_getElem him]; rfl
    by_cases he : rd l (i : Int) = rd m (i : Int)
    · have hr := ih (i + 1) (by omega) (by
        rw [List.take_succ_eq_append_getElem hil, List.take_succ_eq_append_getElem him, ht, ← r1, ← r2, he])
      exact Ev.step (fun k => by simp only [laws_vSame.l0, c1, c2, c3, he, w1, if_true]) hr
    · have hne : ¬ l = m := fun e => he (by rw [e])
      rw [decide_eq_false hne]
      exact Ev.step (f := fun _ => some false) (fun k => by simp only [laws_vSame.l0, c1, c2, c3, he, if_true, if_false]) (Ev.is rfl)
theorem vSame_is (l m : List Int) (hn : l.length ≤ 1000000) : Ev (fun k => laws_vSame.f k l m) (decide (l = m)) := by
  unfold laws_vSame.f
  by_cases h : (l.length : Int) = (m.length : Int)
  · simp only [h, if_true]
    have := vSame_loop l m (by omega) hn l.length 0 (by omega) rfl
    rw [h] at this
    exact this
  · have hne : ¬ l = m := fun e => h (by rw [e])
    rw [decide_eq_false hne]
    simp only [h, if_false]
    exact Ev.is rfl
theorem vHas_loop (W : List (List Int)) (x : List Int) (hn : W.length ≤ 1000000) (hx : x.length ≤ 1000000) (d : Nat) : ∀ i : Nat, i + d = W.length → Ev (fun k => laws_vHas.l0 k x W (W.length : Int) (i : Int)) (decide (x ∈ W.drop i)) := by
  induction d with
  | zero =>
    intro i hi
    have c1 : ¬ (i : Int) < (W.length : Int) := by omega
    rw [List.drop_of_length_le (by omega), decide_eq_false (by simp)]
    exact Ev.step (f := fun _ => some false) (fun k => by simp only [laws_vHas.l0, c1, if_false]) (Ev.is rfl)
  | succ d ih =>
    intro i hi
    have hil : i < W.length := by omega
    have c1 : (i : Int) < (W.length : Int) := by omega
    have c2 : (0 : Int) ≤ (i : Int) := by omega
    have w1 : wrap64 ((i : Int) + 1) = ((i + 1 : Nat) : Int) := w64_succ hil (by omega)
    have g := rdL1_at i hil
    have e1 := vSame_is x W[i] hx
    refine Ev.step (fun k => by simp only [laws_vHas.l0, c1, c2, g, w1, if_true]; rfl) (Ev.bind e1 ?_)
    rw [List.drop_eq_getElem_cons hil]
    by_cases he : x = W[i]
    · rw [decide_eq_true he, decide_eq_true (show x ∈ W[i] :: W.drop (i + 1) by rw [← he]; exact List.mem_cons_self)]
      simp only [if_true]
      exact Ev.is rfl
    · rw [decide_eq_false he]
      simp only [Bool.false_eq_true, if_false]
      have e2 : decide (x ∈ W[i] :: W.drop (i + 1)) = decide (x ∈ W.drop (i + 1)) := by
        rw [decide_eq_decide, List.mem_cons]
        exact ⟨fun h => h.resolve_left he, .inr⟩
      rw [e2]
      exact ih (i + 1) (by omega)
theorem vHas_ev (W : List (List Int)) (x : List Int) (hn : W.length ≤ 1000000) (hx : x.length ≤ 1000000) : Ev (fun k => laws_vHas.f k W x) (decide (x ∈ W)) := by
  have := vHas_loop W x hn hx W.length 0 (by omega)
  rw [List.drop_zero] at this
  exact this
/-- The draws. -/
theorem search_ok (code : List Int) (hc : Bytes code) : ∃ p m at1 s1, spec_l1Cur_search.f code 0 0 = some (p, m, at1, s1) ∧ 0 ≤ at1 ∧ at1 ≤ 900000000 := by
  obtain ⟨v, a1, s1, e1, _, _, v2, v3⟩ := pick_ok code hc 0 0 2 (by omega) (by omega) (by omega)
  obtain ⟨u, a2, s2, e2, _, _, u2, u3⟩ := pick_ok code hc a1 s1 14 (by omega) (by omega) (by omega)
  obtain ⟨t, a3, s3, e3, _, _, t2, t3⟩ := pick_ok code hc a2 s2 12 (by omega) (by omega) (by omega)
  obtain ⟨y, a4, s4, e4, _, y2, y3⟩ := among_ok code hc a3 s3 [(-1), 2, 3, 4, 5] (by omega) (by omega) (by decide) (by decide)
  obtain ⟨z, a5, s5, e5, _, z2, z3⟩ := among_ok code hc a3 s3 [(-1), 0, 40, 41] (by omega) (by omega) (by decide) (by decide)
  unfold spec_l1Cur_search.f
  simp only [e1, e2, e3, Option.bind_some]
  by_cases h0 : t = 0
  · simp only [h0, if_true, e4, Option.bind_some]
    exact ⟨_, _, _, _, rfl, by omega, by omega⟩
  · by_cases h1 : t = 1
    · simp only [h1, if_true, e5, Option.bind_some]
      rw [if_neg (by decide)]
      exact ⟨_, _, _, _, rfl, by omega, by omega⟩
    · simp only [h0, h1, if_false]
      exact ⟨_, _, _, _, rfl, by omega, by omega⟩
theorem draw_sol (code : List Int) (hc : Bytes code) : ∃ p a b m, spec_DrawSolutionsUpTo.f code = some (p, a, b, m) := by
  obtain ⟨p, m, at1, s1, e1, h0, h1⟩ := search_ok code hc
  obtain ⟨a, b, at2, s2, e2, _, _⟩ := given_ok code hc at1 s1 h0 h1
  unfold spec_DrawSolutionsUpTo.f
  simp only [e1, e2, Option.bind_some]
  exact ⟨_, _, _, _, rfl⟩
theorem draw_fac (code : List Int) (hc : Bytes code) : ∃ p b m, spec_DrawFactorsFor.f code = some (p, b, m) := by
  obtain ⟨p, m, at1, s1, e1, h0, h1⟩ := search_ok code hc
  obtain ⟨a, b, at2, s2, e2, _, _⟩ := given_ok code hc at1 s1 h0 h1
  unfold spec_DrawFactorsFor.f
  simp only [e1, e2, Option.bind_some]
  exact ⟨_, _, _, rfl⟩
/-- Where the way down ends. -/
theorem jmp_first {l : List Int} {a b : Int} (h : huIs l a b = true) (hl : lastOf l a = false) : rd (jmp l a 0) 0 ≤ rd l 0 := by
  obtain ⟨h1, h2, h3, h4⟩ := huIs_iff.1 h
  have hin : inB 1 (rd l 0 - 1) (oth l a 0) = true := by
    unfold lastOf at hl
    simpa using hl
  have ho := inB_iff.1 hin
  have hjl := jmp_length l a 0
  have hm : rd (jmp l a 0) ((0 : Nat) : Int) ∈ jmp l a 0 := rd_mem (by omega)
  have hm2 : rd (jmp l a 0) ((0 : Nat) : Int) ∈ l.set 0 (oth l a 0) := (down_perm _).mem_iff.1 hm
  rw [show ((0 : Nat) : Int) = 0 from rfl] at hm2
  rcases List.mem_or_eq_of_mem_set hm2 with h5 | h5
  · exact rd_first h3 _ h5
  · omega
theorem way_last {a b : Int} (hg : huGv a b = true) (d : Nat) : ∀ l, huIs l a b = true → smm l ≤ d → huIs (rd_L1 (way a d l) (((way a d l).length : Int) - 1)) a b = true ∧ (rd_L1 (way a d l) (((way a d l).length : Int) - 1)).length = l.length ∧ rd (rd_L1 (way a d l) (((way a d l).length : Int) - 1)) 0 ≤ rd l 0 ∧ lastOf (rd_L1 (way a d l) (((way a d l).length : Int) - 1)) a = true := by
  induction d with
  | zero =>
    intro l h hs
    have h1 := (huIs_iff.1 h)
    have h2 := smm_bd h1.2.1
    omega
  | succ d ih =>
    intro l h hs
    rw [way]
    by_cases hl : lastOf l a = true
    · rw [if_pos hl]
      exact ⟨h, rfl, Int.le_refl _, hl⟩
    · rw [if_neg hl]
      have hl2 : lastOf l a = false := by simpa using hl
      obtain ⟨s1, s2, s3⟩ := step_down hg h hl2
      rw [last_cons l _ (way_length a d _).1]
      obtain ⟨i1, i2, i3, i4⟩ := ih (jmp l a 0) s3 (by omega)
      exact ⟨i1, i2.trans (jmp_length l a 0), Int.le_trans i3 (jmp_first h hl2), i4⟩
theorem fund_is {l : List Int} {a b : Int} (hg : huGv a b = true) (h : huIs l a b = true) : (fundOf l a b).2 = true ∧ huIs (fundOf l a b).1 a b = true ∧ (fundOf l a b).1.length = l.length ∧ rd (fundOf l a b).1 0 ≤ rd l 0 ∧ lastOf (fundOf l a b).1 a = true := by
  have h1 := huIs_iff.1 h
  have h2 := smm_bd h1.2.1
  have := way_last hg 400000 l h (by omega)
  unfold fundOf
  rw [huSol_iff.2 ⟨hg, h⟩]
  exact ⟨rfl, this⟩
/-- All solutions are told. -/
theorem allL_in (f : Int → List (List Int)) (u : List Int) (i : Int) (hu : u ∈ f i) : ∀ (j : Nat) (n : Int), n ≤ i → i < n + j → u ∈ allL f j n
  | 0, n, h1, h2 => by omega
  | j + 1, n, h1, h2 => by
    rw [allL, List.mem_append]
    by_cases h : n = i
    · exact .inl (h ▸ hu)
    · exact .inr (allL_in f u i hu j (n + 1) (by omega) (by omega))
theorem falls_from (n : Int) : ∀ t : List Int, fallsFrom n t = true → ∀ y ∈ t, y ≤ n
  | [], _, y, hy => by simp at hy
  | z :: t, h, y, hy => by
    rw [fallsFrom, Bool.and_eq_true] at h
    have h1 := of_decide_eq_true h.1
    rcases List.mem_cons.1 hy with rfl | hy
    · exact h1
    · exact Int.le_trans (falls_from z t h.2 y hy) h1
theorem allF_in (p : Nat) : ∀ (x t : List Int) (m : Int), t.length = p → falls t = true → (∀ n ∈ t, 1 ≤ n ∧ n ≤ m) → x ++ t ∈ allF p x m := by
  induction p with
  | zero =>
    intro x t m ht _ _
    have : t = [] := List.eq_nil_of_length_eq_zero ht
    subst this
    rw [allF, List.append_nil]
    exact List.mem_singleton.2 rfl
  | succ p ih =>
    intro x t m ht hf hn
    cases t with
    | nil => simp at ht
    | cons n t =>
      have h1 := hn n List.mem_cons_self
      have hf2 : fallsFrom n t = true := hf
      have hle := falls_from n t hf2
      have hft : falls t = true := by
        cases t with
        | nil => rfl
        | cons z t =>
          rw [fallsFrom, Bool.and_eq_true] at hf2
          exact hf2.2
      have := ih (x ++ [n]) t n (by simpa using ht) hft (fun y hy => ⟨(hn y (List.mem_cons_of_mem _ hy)).1, hle y hy⟩)
      rw [allF]
      refine allL_in _ _ n ?_ _ _ h1.1 (by omega)
      rw [List.append_assoc] at this
      exact this
theorem sol_in {u : List Int} {a b m : Int} (h : huIs u a b = true) (hm : rd u 0 ≤ m) : u ∈ allS a b u.length [] m := by
  obtain ⟨h1, h2, h3, h4⟩ := huIs_iff.1 h
  rw [allS_filter, List.mem_filter]
  refine ⟨?_, h⟩
  have := allF_in u.length [] u m rfl h3 (fun n hn => ⟨(h2 n hn).1, Int.le_trans (rd_first h3 n hn) hm⟩)
  exact this
/-- They stand in order. -/
theorem cmp_pre (x : List Int) : ∀ (y z : List Int), cmpL (x ++ y) (x ++ z) = cmpL y z := by
  induction x with
  | nil => intro y z; rfl
  | cons n x ih =>
    intro y z
    show (if n < n then -1 else if n < n then 1 else cmpL (x ++ y) (x ++ z)) = cmpL y z
    rw [if_neg (by omega), if_neg (by omega), ih]
theorem allF_pre (p : Nat) : ∀ (x : List Int) (m : Int) (u : List Int), u ∈ allF p x m → ∃ t, u = x ++ t := by
  induction p with
  | zero =>
    intro x m u hu
    rw [allF, List.mem_singleton] at hu
    exact ⟨[], by rw [List.append_nil]; exact hu⟩
  | succ p ih =>
    intro x m u hu
    obtain ⟨i, _, _, h⟩ := allL_mem _ u _ _ hu
    obtain ⟨t, rfl⟩ := ih (x ++ [i]) i u h
    exact ⟨[i] ++ t, by rw [List.append_assoc]⟩
theorem allF_sorted (p : Nat) : ∀ (x : List Int) (m : Int), (allF p x m).Pairwise fun a b => cmpL a b < 0 := by
  induction p with
  | zero =>
    intro x m
    rw [allF]
    exact List.pairwise_singleton _ _
  | succ p ih =>
    intro x m
    rw [allF]
    have key : ∀ (j : Nat) (n : Int), (allL (fun n => allF p (x ++ [n]) n) j n).Pairwise fun a b => cmpL a b < 0 := by
      intro j
      induction j with
      | zero => intro n; exact List.Pairwise.nil
      | succ j ihj =>
        intro n
        rw [allL, List.pairwise_append]
        refine ⟨ih _ _, ihj (n + 1), fun u hu v hv => ?_⟩
        obtain ⟨i, h1, _, h3⟩ := allL_mem _ v _ _ hv
        obtain ⟨t, rfl⟩ := allF_pre p _ _ u hu
        obtain ⟨s, rfl⟩ := allF_pre p _ _ v h3
        rw [List.append_assoc, List.append_assoc, cmp_pre]
        show (if n < i then -1 else if i < n then 1 else cmpL t s) < 0
        rw [if_pos (by omega)]
        decide
    exact key _ _
theorem allS_sorted (a b : Int) (p : Nat) (x : List Int) (m : Int) : (allS a b p x m).Pairwise fun a b => cmpL a b < 0 := by
  rw [allS_filter]
  exact (allF_sorted p x m).filter _
theorem allS_most {a b : Int} (p : Nat) (hp : 1 ≤ p) (m : Int) (u : List Int) (hu : u ∈ allS a b p [] m) (hm : m ≤ 40) : rd u 0 ≤ m := by
  rw [allS_filter] at hu
  have h1 := (List.mem_filter.1 hu).1
  obtain ⟨p, rfl⟩ : ∃ q, p = q + 1 := ⟨p - 1, by omega⟩
  obtain ⟨i, i1, i2, i3⟩ := allL_mem _ u _ _ h1
  obtain ⟨t, rfl⟩ := allF_pre p _ _ u i3
  show i ≤ m
  omega
/-- Without a rest, a factor is no greater than the number of parts. -/
theorem bound_alg {x y F rest n : Int} (h1 : y ≤ x) (h2 : x + x ≤ F) (h3 : x * x + (y * y + rest) = x * F) (h4 : y * y + rest ≤ (n - 1) * (y * y)) (hy : 1 ≤ y) : F ≤ n * y := by
  have hk : 0 ≤ (y - x) * (y + x - F) := Int.mul_nonneg_of_nonpos_of_nonpos (by omega) (by omega)
  have e : (y - x) * (y + x - F) = y * y - y * F - (x * x - x * F) := by
    rw [Int.sub_mul, Int.mul_sub, Int.mul_sub, Int.mul_add, Int.mul_add, Int.mul_comm x y]
    omega
  rw [e] at hk
  rw [Int.sub_mul, Int.one_mul] at h4
  have h5 : y * F ≤ n * (y * y) := by omega
  rw [show n * (y * y) = y * (n * y) from by rw [← Int.mul_assoc, Int.mul_comm (n * y) y]] at h5
  exact Int.le_of_mul_le_mul_left h5 (by omega)
theorem factor_end {f y Q n : Int} (h : f * (y * Q) ≤ n * y) (hf : 1 ≤ f) (hy : 1 ≤ y) (hQ : 1 ≤ Q) : f ≤ n := by
  have h1 : f * y ≤ f * (y * Q) := Int.mul_le_mul_of_nonneg_left (by
    have := Int.mul_le_mul_of_nonneg_left hQ (show 0 ≤ y by omega)
    omega) (by omega)
  have h2 : f * y ≤ n * y := Int.le_trans h1 h
  exact Int.le_of_mul_le_mul_right h2 (by omega)
theorem hurwitz_bound {u : List Int} {f : Int} (h : huIs u f 0 = true) (hf : 1 ≤ f ∧ f ≤ 20) : f ≤ (u.length : Int) := by
  have hg : huGv f 0 = true := gv_fac hf (by omega)
  obtain ⟨_, g2, g3, _, g5⟩ := fund_is hg h
  rw [← g3]
  generalize (fundOf u f 0).1 = w at g2 g5
  clear h g3
  obtain ⟨h1, h2, h3, h4⟩ := huIs_iff.1 g2
  unfold lastOf at g5
  have hno : ¬ (1 ≤ oth w f 0 ∧ oth w f 0 ≤ rd w 0 - 1) := fun hc => by
    rw [inB_iff.2 hc] at g5
    simp at g5
  match w, h1 with
  | [x, y, z], _ =>
    have hx := (h2 x (by simp)).1
    have hy := (h2 y (by simp)).1
    have hz := (h2 z (by simp)).1
    simp only [falls, fallsFrom, Bool.and_true, Bool.and_eq_true, decide_eq_true_eq] at h3
    have ho : oth [x, y, z] f 0 = f * (y * z) - x := by
      show f * (y * (z * 1)) - x = _
      rw [Int.mul_one]
    rw [ho] at hno
    have hr : rd [x, y, z] 0 = x := rfl
    rw [hr] at hno
    have heq : x * x + (y * y + z * z) = x * (f * (y * z)) := by
      have : x * x + (y * y + (z * z + 0)) = f * (x * (y * (z * 1))) + 0 := h4
      rw [Int.mul_one] at this
      rw [show x * (f * (y * z)) = f * (x * (y * z)) from by rw [← Int.mul_assoc, Int.mul_comm x f, Int.mul_assoc]]
      omega
    have hyy : 1 ≤ y * y := by have := Int.mul_le_mul_of_nonneg_left hy (show 0 ≤ y by omega); omega
    have hzz : z * z ≤ y * y := Int.mul_le_mul h3.2 h3.2 (by omega) (by omega)
    have hzz0 : 1 ≤ z * z := by have := Int.mul_le_mul_of_nonneg_left hz (show 0 ≤ z by omega); omega
    have hF : x + x ≤ f * (y * z) := by
      have hp : 0 < x * (f * (y * z) - x) := by rw [Int.mul_sub]; omega
      have hp2 : 0 < f * (y * z) - x := by
        refine Classical.byContradiction fun hc => ?_
        have := Int.mul_nonpos_of_nonneg_of_nonpos (show 0 ≤ x by omega) (show f * (y * z) - x ≤ 0 by omega)
        omega
      omega
    have := bound_alg (n := 3) h3.1 hF heq (by omega) hy
    exact factor_end this hf.1 hy hz
  | [x, y, z, t], _ =>
    have hx := (h2 x (by simp)).1
    have hy := (h2 y (by simp)).1
    have hz := (h2 z (by simp)).1
    have htt := (h2 t (by simp)).1
    simp only [falls, fallsFrom, Bool.and_true, Bool.and_eq_true, decide_eq_true_eq] at h3
    have ho : oth [x, y, z, t] f 0 = f * (y * (z * t)) - x := by
      show f * (y * (z * (t * 1))) - x = _
      rw [Int.mul_one]
    rw [ho] at hno
    have hr : rd [x, y, z, t] 0 = x := rfl
    rw [hr] at hno
    have heq : x * x + (y * y + (z * z + t * t)) = x * (f * (y * (z * t))) := by
      have : x * x + (y * y + (z * z + (t * t + 0))) = f * (x * (y * (z * (t * 1)))) + 0 := h4
      rw [Int.mul_one] at this
      rw [show x * (f * (y * (z * t))) = f * (x * (y * (z * t))) from by rw [← Int.mul_assoc, Int.mul_comm x f, Int.mul_assoc]]
      omega
    have hyy : 1 ≤ y * y := by have := Int.mul_le_mul_of_nonneg_left hy (show 0 ≤ y by omega); omega
    have hzz : z * z ≤ y * y := Int.mul_le_mul h3.2.1 h3.2.1 (by omega) (by omega)
    have htz : t * t ≤ y * y := Int.mul_le_mul (by omega) (by omega) (by omega) (by omega)
    have hzz0 : 1 ≤ z * z := by have := Int.mul_le_mul_of_nonneg_left hz (show 0 ≤ z by omega); omega
    have htt0 : 1 ≤ t * t := by have := Int.mul_le_mul_of_nonneg_left htt (show 0 ≤ t by omega); omega
    have hzt : 1 ≤ z * t := by have := Int.mul_le_mul_of_nonneg_left htt (show 0 ≤ z by omega); omega
    have hF : x + x ≤ f * (y * (z * t)) := by
      have hp : 0 < x * (f * (y * (z * t)) - x) := by rw [Int.mul_sub]; omega
      have hp2 : 0 < f * (y * (z * t)) - x := by
        refine Classical.byContradiction fun hc => ?_
        have := Int.mul_nonpos_of_nonneg_of_nonpos (show 0 ≤ x by omega) (show f * (y * (z * t)) - x ≤ 0 by omega)
        omega
      omega
    have := bound_alg (n := 4) h3.1 hF heq (by omega) hy
    exact factor_end this hf.1 hy hzt
/-- The fundamental ones are among all. -/
theorem l2_loop (W R : List (List Int)) (hW : W.length ≤ 500) (hR : R.length ≤ 500) (h4 : ∀ x ∈ R, x.length ≤ 4) (hin : ∀ x ∈ R, x ∈ W) (n : Nat) : ∀ i : Nat, i + n = R.length → Ev (fun k => laws_FnAllHurwitz.l2 k W R (R.length : Int) (i : Int)) true := by
  induction n with
  | zero =>
    intro i hi
    have c1 : ¬ (i : Int) < (R.length : Int) := by omega
    exact Ev.step (f := fun _ => some true) (fun k => by simp only [laws_FnAllHurwitz.l2, c1, if_false]) (Ev.is rfl)
  | succ n ih =>
    intro i hi
    have hil : i < R.length := by omega
    have hr := ih (i + 1) (by omega)
    have g := rdL1_at (W := R) i hil
    have hmem := List.getElem_mem hil
    have c1 : (i : Int) < (R.length : Int) := by omega
    have c2 : (0 : Int) ≤ (i : Int) := by omega
    have w1 : wrap64 ((i : Int) + 1) = ((i + 1 : Nat) : Int) := w64_succ hil (by omega)
    have e1 := vHas_ev W R[i] (by omega) (by have := h4 _ hmem; omega)
    rw [decide_eq_true (hin _ hmem)] at e1
    refine Ev.step (fun k => by simp only [laws_FnAllHurwitz.l2, c1, c2, g, w1, if_true]; rfl) (Ev.bind e1 ?_)
    simp only [if_true]
    exact hr
theorem idx_facts (i len : Nat) (h : i + 1 < len) (hl : len ≤ 500) : ((i + 1 : Nat) : Int) > 0 ∧ wrap64 (((i + 1 : Nat) : Int) - 1) = (i : Int) ∧ (0 : Int) ≤ (i : Int) ∧ (i : Int) < (len : Int) := by
  refine ⟨by omega, ?_, by omega, by omega⟩
  rw [w64 (by omega) (by omega)]
  omega
theorem l1_loop {a b m : Int} {p : Nat} (hp : 3 ≤ p ∧ p ≤ 4) (hm : m ≤ 40) (hg : huGv a b = true) (W : List (List Int)) (hWe : W = allS a b p [] m) (hW5 : W.length ≤ 500) (n : Nat) : ∀ i : Nat, i + n = W.length → Ev (fun k => laws_FnAllHurwitz.l1 k (p : Int) a b m W (W.filter (fun u => lastOf u a)) W (W.length : Int) (i : Int)) true := by
  have hR5 := List.length_filter_le (fun u => lastOf u a) W
  have hWm : ∀ x ∈ W, huIs x a b = true ∧ x.length = p ∧ rd x 0 ≤ m := by
    intro x hx
    rw [hWe] at hx
    have := allS_is a b p [] m x hx
    exact ⟨this.1, by simpa using this.2, allS_most p (by omega) m x hx hm⟩
  have hWs : W.Pairwise fun a b => cmpL a b < 0 := by rw [hWe]; exact allS_sorted a b p [] m
  have hWin : ∀ x, huIs x a b = true → x.length = p → rd x 0 ≤ m → x ∈ W := by
    intro x h1 h2 h3
    rw [hWe, ← h2]
    exact sol_in h1 h3
  clear hWe
  induction n with
  | zero =>
    intro i hi
    have c1 : ¬ (i : Int) < (W.length : Int) := by omega
    have := l2_loop W (W.filter (fun u => lastOf u a)) hW5 (by omega) (fun x hx => by have := (hWm x (List.mem_filter.1 hx).1).2.1; omega) (fun x hx => (List.mem_filter.1 hx).1) (W.filter (fun u => lastOf u a)).length 0 (by omega)
    exact Ev.step (fun k => by simp only [laws_FnAllHurwitz.l1, c1, if_false]; rfl) this
  | succ n ih =>
    intro i hi
    have hil : i < W.length := by omega
    have hr := ih (i + 1) (by omega)
    have g := rdL1_at (W := W) i hil
    have hmem := List.getElem_mem hil
    obtain ⟨hx, hxl, hxm⟩ := hWm _ hmem
    have hbef : ∀ j, j + 1 = i → Ev (fun k => laws_vBefore.f k (rd_L1 W (j : Int)) W[i]) true := by
      intro j hj
      subst hj
      have g2 := rdL1_at (W := W) j (by omega)
      rw [g2]
      have hlt : cmpL W[j] W[j + 1] < 0 := List.pairwise_iff_getElem.1 hWs j (j + 1) (by omega) hil (by omega)
      have hb4 := (hWm _ (List.getElem_mem (show j < W.length by omega))).2.1
      have e4 := vBefore_ev W[j] W[j + 1] (by omega)
      rw [decide_eq_true hlt] at e4
      exact e4
    generalize W[i] = x at *
    obtain ⟨f1, f2, f3, f4, f5⟩ := fund_is hg hx
    have hfin : (fundOf x a b).1 ∈ W.filter (fun u => lastOf u a) := List.mem_filter.2 ⟨hWin _ f2 (f3.trans hxl) (Int.le_trans f4 hxm), f5⟩
    have e1 := FundamentalOf_ev x a b
    have e2 := vHas_ev (W.filter (fun u => lastOf u a)) (fundOf x a b).1 (by omega) (by omega)
    rw [decide_eq_true hfin] at e2
    have c1 : (i : Int) < (W.length : Int) := by omega
    have c2 : (0 : Int) ≤ (i : Int) := by omega
    have c3 : (0 : Int) < (x.length : Int) := by omega
    have c4 : ¬ rd x 0 > m := by omega
    have c5 : (x.length : Int) = (p : Int) := by omega
    have w1 : wrap64 ((i : Int) + 1) = ((i + 1 : Nat) : Int) := w64_succ hil (by omega)
    refine Ev.step (fun k => by simp only [laws_FnAllHurwitz.l1, c1, c2, g, w1, if_true]; rfl) (Ev.bind e1 ?_)
    simp only [f1, if_true]
    refine Ev.bind e2 ?_
    simp only [if_true, c3, c4, if_false]
    simp only [c5, if_true]
    cases i with
    | zero =>
      have c6 : ¬ ((0 : Nat) : Int) > 0 := by omega
      simp only [c6, if_false]
      exact hr
    | succ i =>
      obtain ⟨c6, w2, c7, c8⟩ := idx_facts i W.length hil hW5
      have e5 := hbef i rfl
      simp only [c6, w2, c7, c8, if_true]
      refine Ev.bind e5 ?_
      simp only [if_true]
      exact hr
theorem l0_loop (a0 a1 a2 a3 p d : Int) (W R : List (List Int)) (ok : Bool) (L : List Int) (hL : L.length ≤ 1000) (hb : d = 0 → ∀ f ∈ L, f ≤ p) (hk : Ev (fun k => if ok = true then laws_FnAllHurwitz.l1 k a0 a1 a2 a3 W R W (W.length : Int) 0 else some true) true) (n : Nat) : ∀ i : Nat, i + n = L.length → Ev (fun k => laws_FnAllHurwitz.l0 k a0 a1 a2 a3 W ok R p d L (L.length : Int) (i : Int)) true := by
  induction n with
  | zero =>
    intro i hi
    have c1 : ¬ (i : Int) < (L.length : Int) := by omega
    exact Ev.step (fun k => by simp only [laws_FnAllHurwitz.l0, c1, if_false]) hk
  | succ n ih =>
    intro i hi
    have hil : i < L.length := by omega
    have hr := ih (i + 1) (by omega)
    have c1 : (i : Int) < (L.length : Int) := by omega
    have c2 : (0 : Int) ≤ (i : Int) := by omega
    have w1 : wrap64 ((i : Int) + 1) = ((i + 1 : Nat) : Int) := w64_succ hil (by omega)
    by_cases hd : d = 0
    · have c3 : ¬ rd L (i : Int) > p := by
        have := hb hd _ (rd_mem (l := L) hil)
        omega
      exact Ev.step (fun k => by simp only [laws_FnAllHurwitz.l0, c1, c2, w1, hd, c3, if_true, if_false]) (hd ▸ hr)
    · exact Ev.step (fun k => by simp only [laws_FnAllHurwitz.l0, c1, c2, w1, hd, if_true, if_false]) hr
theorem FnAllHurwitz : laws_FnAllHurwitz.Pure := by
  intro l0 l1 _ _ hb _ _ hb1
  refine Ev.rounds ?_
  unfold laws_FnAllHurwitz.f
  cases hbig : laws_big.f l0 l1 with
  | none => exact absurd hbig (by unfold laws_big.f; split <;> simp)
  | some t =>
    cases t with
    | true =>
      simp only [Option.bind_some, if_true]
      exact Ev.is rfl
    | false =>
      simp only [Option.bind_some, Bool.false_eq_true, if_false]
      obtain ⟨a0, a1, a2, a3, hD⟩ := draw_sol l0 (bytes_of_u8 hb)
      obtain ⟨q, d, mq, hE⟩ := draw_fac l1 (bytes_of_u8 hb1)
      obtain ⟨fr, ef1, ef2, efl, eft, eff⟩ := fac_both q d mq
      have hlen := solsUp_len a0 a1 a2 a3
      have his := fun u hu => solsUp_is (a0 := a0) (a1 := a1) (a2 := a2) (a3 := a3) u hu
      have e1 := impl_SolutionsUpTo_ev a0 a1 a2 a3
      have e2 := spec_SolutionsUpTo_ev a0 a1 a2 a3
      have e3 := impl_FundamentalsUpTo_ev a0 a1 a2 a3
      have e4 := spec_FundamentalsUpTo_ev a0 a1 a2 a3
      have hs1 : Ev (fun k => laws_vSameLists.f k (solsUp a0 a1 a2 a3).1 (solsUp a0 a1 a2 a3).1) true := vSameLists_ev _ (by omega) (fun x hx => by have := (huIs_iff.1 (his x hx).2).1; omega)
      have hf : (fundsUp a0 a1 a2 a3).2 = (solsUp a0 a1 a2 a3).2 ∧ (fundsUp a0 a1 a2 a3).1.length ≤ 500 ∧ (∀ x ∈ (fundsUp a0 a1 a2 a3).1, x ∈ (solsUp a0 a1 a2 a3).1) := by
        unfold fundsUp
        split
        · rename_i h
          have := List.length_filter_le (fun u => lastOf u a1) (solsUp a0 a1 a2 a3).1
          exact ⟨h.symm, by simp only; omega, fun x hx => (List.mem_filter.1 hx).1⟩
        · rename_i h
          exact ⟨by simpa using h, by simp, by simp⟩
      have hs2 : Ev (fun k => laws_vSameLists.f k (fundsUp a0 a1 a2 a3).1 (fundsUp a0 a1 a2 a3).1) true := vSameLists_ev _ (by omega) (fun x hx => by have := (huIs_iff.1 (his x (hf.2.2 x hx)).2).1; omega)
      refine Ev.bind0 hD (Ev.bind e1 (Ev.bind e2 (Ev.bind e3 (Ev.bind e4 ?_))))
      simp only [bne_self_eq_false, Bool.false_eq_true, if_false]
      refine Ev.bind hs1 ?_
      simp only [if_true]
      refine Ev.bind hs2 ?_
      rw [hf.1]
      simp only [if_true, bne_self_eq_false]
      refine Ev.step (fun k => by simp only [laws_FnAllHurwitz.j0, Bool.false_eq_true, if_false]; rfl) ?_
      refine Ev.bind0 hE (Ev.bind0 ef2 (Ev.bind ef1 ?_))
      simp only [bne_self_eq_false, Bool.false_eq_true, if_false]
      have hsf := vSame_is fr.1 fr.1 (by omega)
      rw [decide_eq_true rfl] at hsf
      refine Ev.bind hsf ?_
      refine Ev.step (fun k => by simp only [laws_FnAllHurwitz.j1, Bool.not_true, Bool.false_eq_true, if_false]; rfl) ?_
      refine l0_loop a0 a1 a2 a3 q d (solsUp a0 a1 a2 a3).1 (fundsUp a0 a1 a2 a3).1 (solsUp a0 a1 a2 a3).2 fr.1 (by omega) (fun hd f hfm => ?_) ?_ fr.1.length 0 (by omega)
      · cases ht : triedF q d mq with
        | false =>
          rw [eff ht] at hfm
          simp at hfm
        | true =>
          obtain ⟨u, u1, u2, u3, u4⟩ := eft ht f hfm
          subst hd
          have := hurwitz_bound u1 ⟨u3, u4⟩
          unfold triedF at ht
          simp only [Bool.and_eq_true, inB_iff] at ht
          omega
      · unfold solsUp fundsUp
        cases ht : tried a0 a1 a2 a3 with
        | false =>
          simp only [Bool.false_eq_true, if_false]
          exact Ev.is rfl
        | true =>
          obtain ⟨⟨p, rfl, hp1, hp2⟩, hg, hm1, hm2⟩ := parts_is ht
          simp only [if_true, Int.toNat_natCast]
          by_cases c : ((allS a1 a2 p [] a3).length : Int) > 500
          · simp only [c, if_true, Bool.false_eq_true, if_false]
            exact Ev.is rfl
          · have es : solsUp (p : Int) a1 a2 a3 = (allS a1 a2 p [] a3, true) := by
              unfold solsUp
              rw [ht]
              simp only [if_true, Int.toNat_natCast, c, if_false]
            simp only [c, if_false, if_true, es]
            exact l1_loop ⟨hp1, hp2⟩ hm2 hg (allS a1 a2 p [] a3) rfl (by omega) (allS a1 a2 p [] a3).length 0 (by omega)
end Go.Proofs.Ytgpoljimomfbbaa.Pure
