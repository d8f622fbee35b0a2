/- FactorsFor answers what the reference answers, for all numbers; what it hands back is its own. No condition. -/
import Derived.Test.YtfdjbcbhlfjogaaPackFnExactFactorsFor3
import Derived.Sort.Grow
import Derived.Test.YtfdjbcbhlfjogaaLib
import Derived.Deep.RegionHeld3
-- Uscalar
namespace Go.Proofs.Ytfdjbcbhlfjogaa.P
set_option linter.unusedVariables false
set_option linter.unusedSimpArgs false
open Go.RowKit Go.Proofs.YtfdjbcbhlfjogaaW.PrintWords Go.Proofs.YtfdjbcbhlfjogaaW.PrintLast

end Go.Proofs.Ytfdjbcbhlfjogaa.P

-- GcloneInts
namespace Go.Proofs.Ytfdjbcbhlfjogaa.P
open Go.RowKit Go.Proofs.YtfdjbcbhlfjogaaW.PrintWords Go.Proofs.YtfdjbcbhlfjogaaW.PrintLast
set_option linter.unusedVariables false
set_option linter.unusedSimpArgs false

end Go.Proofs.Ytfdjbcbhlfjogaa.P

-- Gsolutions
namespace Go.Proofs.Ytfdjbcbhlfjogaa.P
open Go Go.RowKit Go.Proofs.YtfdjbcbhlfjogaaW.PrintWords Go.Proofs.YtfdjbcbhlfjogaaW.PrintLast
set_option linter.unusedVariables false
set_option linter.unusedSimpArgs false

end Go.Proofs.Ytfdjbcbhlfjogaa.P

-- PFimplSolutionsUpTo
namespace Go.Proofs.Ytfdjbcbhlfjogaa.P
open Go.RowKit Go.Proofs.YtfdjbcbhlfjogaaW.PrintWords Go.Proofs.YtfdjbcbhlfjogaaW.PrintLast
set_option linter.unusedVariables false
set_option linter.unusedSimpArgs false

/-! ### impl_SolutionsUpTo: function 28 -/
end Go.Proofs.Ytfdjbcbhlfjogaa.P

-- Gfundamentals
namespace Go.Proofs.Ytfdjbcbhlfjogaa.P
open Go Go.RowKit Go.Proofs.YtfdjbcbhlfjogaaW.PrintWords Go.Proofs.YtfdjbcbhlfjogaaW.PrintLast
set_option linter.unusedVariables false
set_option linter.unusedSimpArgs false

end Go.Proofs.Ytfdjbcbhlfjogaa.P

-- UhuAll
namespace Go.Proofs.Ytfdjbcbhlfjogaa.P
open Go.RowKit Go.Proofs.YtfdjbcbhlfjogaaW.PrintWords Go.Proofs.YtfdjbcbhlfjogaaW.PrintLast
set_option linter.unusedVariables false
set_option linter.unusedSimpArgs false
def allL (f : Int → List (List Int)) : Nat → Int → List (List Int)
  | 0, _ => []
  | j + 1, n => f n ++ allL f j (n + 1)
def allS (a b : Int) : Nat → List Int → Int → List (List Int)
  | 0, x, _ => if huIs x a b = true then [x] else []
  | p + 1, x, m => allL (fun n => allS a b p (x ++ [n]) n) m.toNat 1
theorem allL_len (f : Int → List (List Int)) (B : Nat) (m : Int) (h : ∀ n, n ≤ m → (f n).length ≤ B) : ∀ (j : Nat) (n : Int), n + j ≤ m + 1 → (allL f j n).length ≤ j * B
  | 0, n, _ => by simp [allL]
  | j + 1, n, hn => by
    have h1 := h n (by omega)
    have h2 := allL_len f B m h j (n + 1) (by omega)
    rw [allL, List.length_append, Nat.succ_mul]
    omega
theorem allS_len (a b : Int) (p : Nat) : ∀ (x : List Int) (m : Int), m ≤ 40 → (allS a b p x m).length ≤ 40 ^ p := by
  induction p with
  | zero =>
    intro x m _
    unfold allS
    split <;> simp
  | succ p ih =>
    intro x m hm
    unfold allS
    by_cases h0 : m ≤ 0
    · rw [show m.toNat = 0 from by omega]
      simp [allL]
    · have h1 := allL_len (fun n => allS a b p (x ++ [n]) n) (40 ^ p) m (fun n hn => ih (x ++ [n]) n (by omega)) m.toNat 1 (by omega)
      refine Nat.le_trans h1 ?_
      rw [Nat.pow_succ, Nat.mul_comm (40 ^ p) 40]
      exact Nat.mul_le_mul_right _ (by omega)
theorem huAll_ev {a b : Int} (hg : huGv a b = true) (p : Nat) : ∀ (x : List Int) (m : Int), m ≤ 40 → x.length + p ≤ 1000 → p ≤ 4 → Ev (fun k => spec_huAll.f k x (p : Int) a b m) (allS a b p x m) := by
  induction p with
  | zero =>
    intro x m _ hx _
    refine Ev.step (f := fun k => (spec_huGood.f k x a b).bind fun t214 => (if t214 = true then ((spec_l1Own.f x).bind fun t215 => (some (([t215] : List (List Int))))) else (some ([] : List (List Int))))) (fun k => by simp only [spec_huAll.f]; rw [if_pos (by rfl)]) ?_
    refine Ev.bind (huGood_ev x a b hg (by omega)) ?_
    unfold allS
    cases h : huIs x a b with
    | false =>
      simp only [Bool.false_eq_true, if_false]
      exact Ev.is rfl
    | true =>
      simp only [if_true, own_is x (by omega), Option.bind_some]
      exact Ev.is rfl
  | succ p ih =>
    intro x m hm hx hp
    have c0 : ¬ ((p + 1 : Nat) : Int) = 0 := by omega
    have wp : wrap64 (((p + 1 : Nat) : Int) - 1) = (p : Int) := by unfold wrap64; omega
    have hpow : 40 ^ p ≤ 2560000 := by
      have : 40 ^ p ≤ 40 ^ 4 := Nat.pow_le_pow_right (by decide) (by omega)
      simpa using this
    have key : ∀ (j : Nat) (n : Int) (o : List (List Int)), 1 ≤ n → n + j = m + 1 ∨ (j = 0 ∧ m < n) → n + j ≤ 41 → o.length + j * 40 ^ p < 1000000000 → Ev (fun k => spec_huAll.l0 k x ((p + 1 : Nat) : Int) a b m o n) (o ++ allL (fun n => allS a b p (x ++ [n]) n) j n) := by
      intro j
      induction j with
      | zero =>
        intro n o _ hn _ _
        have c1 : ¬ n ≤ m := by omega
        simp only [allL, List.append_nil]
        exact Ev.step (f := fun _ => some o) (fun k => by simp only [spec_huAll.l0, c1, if_false]) (Ev.is rfl)
      | succ j ihj =>
        intro n o hn1 hn hn2 ho2
        rw [Nat.succ_mul] at ho2
        have c1 : n ≤ m := by omega
        have h1 := ih (x ++ [n]) n (by omega) (by rw [List.length_append, List.length_singleton]; omega) (by omega)
        have hl := allS_len a b p (x ++ [n]) n (by omega)
        have h2 := ihj (n + 1) (o ++ allS a b p (x ++ [n]) n) (by omega) (by omega) (by omega) (by rw [List.length_append]; omega)
        have c2 : x.length < 17592186044416 := by omega
        have c3 : o.length + (allS a b p (x ++ [n]) n).length < 5864062014805 := by omega
        have w1 : wrap64 (n + 1) = n + 1 := by unfold wrap64; omega
        rw [allL, ← List.append_assoc]
        refine Ev.step (fun k => by simp only [spec_huAll.l0, c1, if_true, own_is x c2, Option.bind_some, c2, wp, w1]; rfl) (Ev.bind h1 ?_)
        simp only [c3, if_true]
        exact h2
    refine Ev.step (f := fun k => spec_huAll.l0 k x ((p + 1 : Nat) : Int) a b m [] 1) (fun k => by simp only [spec_huAll.f]; rw [if_neg c0]) ?_
    unfold allS
    by_cases h0 : m ≤ 0
    · rw [show m.toNat = 0 from by omega]
      exact key 0 1 [] (by omega) (by omega) (by omega) (by simp)
    · have h3 : m.toNat * 40 ^ p ≤ 40 * 40 ^ p := Nat.mul_le_mul_right _ (by omega)
      exact key m.toNat 1 [] (by omega) (by omega) (by omega) (by simp; omega)
theorem allL_mem (f : Int → List (List Int)) (u : List Int) : ∀ (j : Nat) (n : Int), u ∈ allL f j n → ∃ i : Int, n ≤ i ∧ i < n + j ∧ u ∈ f i
  | 0, n, h => by simp [allL] at h
  | j + 1, n, h => by
    rw [allL, List.mem_append] at h
    rcases h with h | h
    · exact ⟨n, by omega, by omega, h⟩
    · obtain ⟨i, h1, h2, h3⟩ := allL_mem f u j (n + 1) h
      exact ⟨i, by omega, by omega, h3⟩
theorem allS_is (a b : Int) (p : Nat) : ∀ (x : List Int) (m : Int) (u : List Int), u ∈ allS a b p x m → huIs u a b = true ∧ u.length = x.length + p := by
  induction p with
  | zero =>
    intro x m u hu
    unfold allS at hu
    split at hu
    · rename_i h
      rw [List.mem_singleton] at hu
      subst hu
      exact ⟨h, rfl⟩
    · simp at hu
  | succ p ih =>
    intro x m u hu
    obtain ⟨i, _, _, h⟩ := allL_mem _ u _ _ hu
    have := ih (x ++ [i]) i u h
    rw [List.length_append, List.length_singleton] at this
    exact ⟨this.1, by omega⟩
end Go.Proofs.Ytfdjbcbhlfjogaa.P

-- UhuFactors
namespace Go.Proofs.Ytfdjbcbhlfjogaa.P
open Go.RowKit Go.Proofs.YtfdjbcbhlfjogaaW.PrintWords Go.Proofs.YtfdjbcbhlfjogaaW.PrintLast
set_option linter.unusedVariables false
set_option linter.unusedSimpArgs false
/-- All lists that are visited. -/
def allF : Nat → List Int → Int → List (List Int)
  | 0, x, _ => [x]
  | p + 1, x, m => allL (fun n => allF p (x ++ [n]) n) m.toNat 1
def foldO {σ : Type} (step : σ → List Int → Option σ) : σ → List (List Int) → Option σ
  | s, [] => some s
  | s, u :: us => (step s u).bind fun s1 => foldO step s1 us
theorem foldO_append {σ : Type} (step : σ → List Int → Option σ) (M : List (List Int)) : ∀ (L : List (List Int)) (s : σ), foldO step s (L ++ M) = (foldO step s L).bind fun s1 => foldO step s1 M
  | [], s => rfl
  | u :: L, s => by
    rw [List.cons_append, foldO, foldO]
    cases step s u with
    | none => rfl
    | some s1 => exact foldO_append step M L s1
theorem fallS_fold {σ : Type} (step : σ → List Int → Option σ) (p : Nat) : ∀ (x : List Int) (m : Int) (s : σ), fallS step p x m s = foldO step s (allF p x m) := by
  induction p with
  | zero =>
    intro x m s
    show step s x = (step s x).bind fun s1 => some s1
    cases step s x <;> rfl
  | succ p ih =>
    intro x m s
    show fallL (fun s n => fallS step p (x ++ [n]) n s) m.toNat 1 s = foldO step s (allL (fun n => allF p (x ++ [n]) n) m.toNat 1)
    have key : ∀ (j : Nat) (n : Int) (s : σ), fallL (fun s n => fallS step p (x ++ [n]) n s) j n s = foldO step s (allL (fun n => allF p (x ++ [n]) n) j n) := by
      intro j
      induction j with
      | zero => intro n s; rfl
      | succ j ihj =>
        intro n s
        rw [fallL, allL, foldO_append, ih]
        congr 1
        funext s1
        exact ihj (n + 1) s1
    exact key _ _ _
theorem allL_filter (f g : Int → List (List Int)) (q : List Int → Bool) (h : ∀ n, g n = (f n).filter q) : ∀ (j : Nat) (n : Int), allL g j n = (allL f j n).filter q
  | 0, n => rfl
  | j + 1, n => by rw [allL, allL, List.filter_append, h, allL_filter f g q h j (n + 1)]
theorem allS_filter (a b : Int) (p : Nat) : ∀ (x : List Int) (m : Int), allS a b p x m = (allF p x m).filter (fun u => huIs u a b) := by
  induction p with
  | zero =>
    intro x m
    show (if huIs x a b = true then [x] else []) = [x].filter (fun u => huIs u a b)
    by_cases h : huIs x a b = true
    · rw [if_pos h, List.filter_cons_of_pos (p := fun u => huIs u a b) h]
      rfl
    · rw [if_neg h, List.filter_cons_of_neg (p := fun u => huIs u a b) h]
      rfl
  | succ p ih =>
    intro x m
    unfold allS allF
    exact allL_filter _ _ _ (fun n => ih _ _) _ _
/-- A list whose numbers do not rise and lie between 1 and 40, and end no lower than m. -/
def Down (x : List Int) (m : Int) : Prop := (∀ n ∈ x, 1 ≤ n ∧ n ≤ 40) ∧ falls x = true ∧ (∀ n ∈ x, m ≤ n)
theorem fallsFrom_snoc (n : Int) : ∀ (l : List Int) (q : Int), fallsFrom q l = true → (∀ y ∈ l, n ≤ y) → n ≤ q → fallsFrom q (l ++ [n]) = true
  | [], q, _, _, h => by simp [fallsFrom, h]
  | y :: l, q, h, hl, _ => by
    rw [fallsFrom, Bool.and_eq_true] at h
    rw [List.cons_append, fallsFrom, Bool.and_eq_true]
    exact ⟨h.1, fallsFrom_snoc n l y h.2 (fun z hz => hl z (List.mem_cons_of_mem _ hz)) (hl y List.mem_cons_self)⟩
theorem falls_snoc (n : Int) (l : List Int) (h : falls l = true) (hl : ∀ y ∈ l, n ≤ y) : falls (l ++ [n]) = true := by
  cases l with
  | nil => rfl
  | cons y l => exact fallsFrom_snoc n l y h (fun z hz => hl z (List.mem_cons_of_mem _ hz)) (hl y List.mem_cons_self)
theorem down_snoc {x : List Int} {m n : Int} (h : Down x m) (h1 : 1 ≤ n) (h2 : n ≤ m) (hm : m ≤ 40) : Down (x ++ [n]) n := by
  obtain ⟨d1, d2, d3⟩ := h
  refine ⟨fun y hy => ?_, falls_snoc n x d2 (fun y hy => Int.le_trans h2 (d3 y hy)), fun y hy => ?_⟩
  · rcases List.mem_append.1 hy with hy | hy
    · exact d1 y hy
    · rw [List.mem_singleton] at hy; omega
  · rcases List.mem_append.1 hy with hy | hy
    · exact Int.le_trans h2 (d3 y hy)
    · rw [List.mem_singleton] at hy; omega
theorem allF_down (p : Nat) : ∀ (x : List Int) (m : Int), m ≤ 40 → Down x m → ∀ u ∈ allF p x m, (∀ n ∈ u, 1 ≤ n ∧ n ≤ 40) ∧ falls u = true ∧ u.length = x.length + p := by
  induction p with
  | zero =>
    intro x m _ h u hu
    rw [allF, List.mem_singleton] at hu
    subst hu
    exact ⟨h.1, h.2.1, rfl⟩
  | succ p ih =>
    intro x m hm h u hu
    obtain ⟨i, h1, h2, h3⟩ := allL_mem _ u _ _ hu
    have hi : i ≤ m := by omega
    have := ih (x ++ [i]) i (by omega) (down_snoc h h1 hi hm) u h3
    rw [List.length_append, List.length_singleton] at this
    exact ⟨this.1, this.2.1, by omega⟩
theorem mul_40 {x y Y : Int} (h1 : 0 ≤ x) (h2 : x ≤ 40) (h3 : 0 ≤ y) (h4 : y ≤ Y) : 0 ≤ x * y ∧ x * y ≤ 40 * Y := ⟨Int.mul_nonneg h1 h3, Int.mul_le_mul h2 h4 h3 (by omega)⟩
theorem facL_is : ∀ (u : List Int) (s p : Int), (∀ n ∈ u, 1 ≤ n ∧ n ≤ 40) → -1000000 ≤ s → s + 1600 * (u.length : Int) ≤ 1000000 → 1 ≤ p → p * 40 ^ u.length ≤ 1000000000000 → facL u s p = (s + sqs u, p * prd u)
  | [], s, p, _, _, _, _, _ => by simp [facL, sqs, prd]
  | n :: u, s, p, h, h1, h2, h3, h4 => by
    obtain ⟨n1, n2⟩ := h n List.mem_cons_self
    rw [List.length_cons] at h2 h4
    have hq := mul_40 (x := n) (y := n) (Y := 40) (by omega) n2 (by omega) n2
    have hpow : (1 : Int) ≤ (40 : Int) ^ u.length := by
      have := Nat.one_le_pow u.length 40 (by decide)
      exact_mod_cast this
    have hpn : p * n ≤ p * 40 := Int.mul_le_mul_of_nonneg_left n2 (by omega)
    have hpn1 : 1 ≤ p * n := by
      have := Int.mul_le_mul_of_nonneg_left n1 (show 0 ≤ p by omega)
      omega
    have h5 : p * n * (40 : Int) ^ u.length ≤ 1000000000000 := by
      refine Int.le_trans (Int.mul_le_mul_of_nonneg_right hpn (by omega)) ?_
      have e : p * 40 * (40 : Int) ^ u.length = p * (40 ^ (u.length + 1)) := by rw [Int.pow_succ, Int.mul_comm ((40 : Int) ^ u.length) 40, Int.mul_assoc]
      rw [e]
      exact h4
    have h6 : p * n ≤ 1000000000000 := by
      have := Int.mul_le_mul_of_nonneg_left hpow (show 0 ≤ p * n by omega)
      omega
    have w1 : wrap64 (n * n) = n * n := by unfold wrap64; omega
    have w2 : wrap64 (s + n * n) = s + n * n := by unfold wrap64; omega
    have w3 : wrap64 (p * n) = p * n := by unfold wrap64; omega
    have ih := facL_is u (s + n * n) (p * n) (fun y hy => h y (List.mem_cons_of_mem _ hy)) (by omega) (by push_cast at h2; omega) hpn1 h5
    rw [facL, w1, w2, w3, ih, sqs, prd, Int.add_assoc, Int.mul_assoc]
/-- The factor of a list, if it has one. -/
def hasF (b : Int) (u : List Int) (a : Nat) : Prop := 1 ≤ a ∧ a ≤ 20 ∧ sqs u = (a : Int) * prd u + b
theorem sqs_nn : ∀ u : List Int, 0 ≤ sqs u
  | [] => Int.le_refl _
  | n :: u => by
    rw [sqs]
    have := sqs_nn u
    have h2 : 0 ≤ n * n := by
      rcases Int.le_total 0 n with h | h
      · exact Int.mul_nonneg h h
      · exact Int.mul_nonneg_of_nonpos_of_nonpos h h
    omega
theorem sqs_40 : ∀ u : List Int, (∀ n ∈ u, 1 ≤ n ∧ n ≤ 40) → sqs u ≤ 1600 * (u.length : Int)
  | [], _ => by simp [sqs]
  | n :: u, h => by
    have ih := sqs_40 u (fun y hy => h y (List.mem_cons_of_mem _ hy))
    obtain ⟨n1, n2⟩ := h n List.mem_cons_self
    have hq := mul_40 (x := n) (y := n) (Y := 40) (by omega) n2 (by omega) n2
    rw [sqs, List.length_cons]
    push_cast
    omega
theorem fac_one {b : Int} (hb : -50 ≤ b ∧ b ≤ 50) (u : List Int) (h : ∀ n ∈ u, 1 ≤ n ∧ n ≤ 40) (hl : u.length ≤ 4) (hs : List Bool) (hh : hs.length = 21) : ∃ hs', facStep b hs u = some hs' ∧ hs'.length = 21 ∧ ∀ a : Nat, a ≤ 20 → (hs'[a]? = some true ↔ hs[a]? = some true ∨ hasF b u a) := by
  have w0 : wrap64 (-b) = -b := by unfold wrap64; omega
  have hpow : (40 : Int) ^ u.length ≤ 2560000 := by
    have : (40 : Nat) ^ u.length ≤ 40 ^ 4 := Nat.pow_le_pow_right (by decide) hl
    have e : (40 : Nat) ^ 4 = 2560000 := by decide
    rw [e] at this
    have e3 : (40 : Int) ^ u.length = (((40 : Nat) ^ u.length : Nat) : Int) := by rw [Int.natCast_pow]; rfl
    rw [e3]
    generalize (40 : Nat) ^ u.length = q at this
    omega
  have hf := facL_is u (-b) 1 h (by omega) (by omega) (by omega) (by omega)
  have hp1 := prd_pos (fun n hn => (h n hn).1)
  have hq := sqs_40 u h
  have hq0 := sqs_nn u
  unfold facStep
  rw [w0, hf, Int.one_mul]
  show ∃ hs', facEnd hs (-b + sqs u) (prd u) = some hs' ∧ _
  unfold facEnd
  have key : ∀ a : Nat, hasF b u a → 0 < -b + sqs u ∧ Int.tmod (-b + sqs u) (prd u) = 0 ∧ Int.tdiv (-b + sqs u) (prd u) = (a : Int) := by
    rintro a ⟨a1, a2, a3⟩
    have e : -b + sqs u = (a : Int) * prd u := by omega
    have hpos : 1 ≤ (a : Int) * prd u := by
      have := Int.mul_le_mul_of_nonneg_right (show (1 : Int) ≤ (a : Int) by omega) (show 0 ≤ prd u by omega)
      omega
    refine ⟨by omega, ?_, ?_⟩
    · rw [e]; exact Int.mul_tmod_left _ _
    · rw [e]; exact Int.mul_tdiv_cancel _ (by omega)
  by_cases s1 : 0 < -b + sqs u
  · rw [if_pos s1, if_neg (by omega)]
    by_cases m0 : Int.tmod (-b + sqs u) (prd u) = 0
    · rw [if_pos m0]
      obtain ⟨q, hq2⟩ : ∃ q, q = Int.tdiv (-b + sqs u) (prd u) := ⟨_, rfl⟩
      have e : q * prd u = -b + sqs u := by
        rw [hq2]
        exact Int.tdiv_mul_cancel (Int.dvd_of_tmod_eq_zero m0)
      have q0 : 1 ≤ q := by
        by_cases h1 : 1 ≤ q
        · exact h1
        · have h1 : q ≤ 0 := by omega
          have := Int.mul_nonpos_of_nonpos_of_nonneg h1 (show 0 ≤ prd u by omega)
          omega
      have q3 : q ≤ -b + sqs u := by
        have := Int.mul_le_mul_of_nonneg_left hp1 (show 0 ≤ q by omega)
        omega
      have w1 : wrap64 (Int.tdiv (-b + sqs u) (prd u)) = q := by rw [← hq2]; unfold wrap64; omega
      rw [w1]
      by_cases q1 : q ≤ 20
      · rw [if_pos q1, if_pos (by omega)]
        refine ⟨_, rfl, by rw [List.length_set]; exact hh, fun a ha => ?_⟩
        rw [List.getElem?_set]
        constructor
        · intro h1
          split at h1
          · rename_i h2
            refine .inr ⟨by omega, by omega, ?_⟩
            have : (a : Int) = q := by omega
            rw [this]
            omega
          · exact .inl h1
        · rintro (h1 | h1)
          · split
            · split
              · rfl
              · omega
            · exact h1
          · have := (key a h1).2.2
            rw [if_pos (by omega), if_pos (by omega)]
      · rw [if_neg q1]
        refine ⟨hs, rfl, hh, fun a ha => ⟨.inl, ?_⟩⟩
        rintro (h1 | h1)
        · exact h1
        · have := (key a h1).2.2
          omega
    · rw [if_neg m0]
      refine ⟨hs, rfl, hh, fun a ha => ⟨.inl, ?_⟩⟩
      rintro (h1 | h1)
      · exact h1
      · exact absurd (key a h1).2.1 m0
  · rw [if_neg s1]
    refine ⟨hs, rfl, hh, fun a ha => ⟨.inl, ?_⟩⟩
    rintro (h1 | h1)
    · exact h1
    · exact absurd (key a h1).1 s1
theorem fac_all {b : Int} (hb : -50 ≤ b ∧ b ≤ 50) : ∀ (L : List (List Int)) (hs : List Bool), (∀ u ∈ L, (∀ n ∈ u, 1 ≤ n ∧ n ≤ 40) ∧ u.length ≤ 4) → hs.length = 21 → ∃ hs', foldO (facStep b) hs L = some hs' ∧ hs'.length = 21 ∧ ∀ a : Nat, a ≤ 20 → (hs'[a]? = some true ↔ hs[a]? = some true ∨ ∃ u ∈ L, hasF b u a)
  | [], hs, _, hh => ⟨hs, rfl, hh, fun a _ => by simp⟩
  | u :: L, hs, h, hh => by
    obtain ⟨h1, e1, l1, k1⟩ := fac_one hb u (h u List.mem_cons_self).1 (h u List.mem_cons_self).2 hs hh
    obtain ⟨h2, e2, l2, k2⟩ := fac_all hb L h1 (fun v hv => h v (List.mem_cons_of_mem _ hv)) l1
    refine ⟨h2, by rw [foldO, e1]; exact e2, l2, fun a ha => ?_⟩
    rw [k2 a ha, k1 a ha]
    simp only [List.mem_cons, exists_eq_or_imp]
    exact or_assoc
/-- What FactorsFor tells. -/
def triedF (a0 a1 a2 : Int) : Bool := inB 3 4 a0 && inB (-50) 50 a1 && inB 1 40 a2
theorem gv_fac {a b : Int} (ha : 1 ≤ a ∧ a ≤ 20) (hb : -50 ≤ b ∧ b ≤ 50) : huGv a b = true := by
  simp only [huGv, inB_iff, Bool.and_eq_true]
  exact ⟨ha, hb⟩
theorem has_all {p : Nat} (hp : 3 ≤ p ∧ p ≤ 4) {b m : Int} (hm : m ≤ 40) (a : Nat) (ha : 1 ≤ a ∧ a ≤ 20) : (∃ u ∈ allF p [] m, hasF b u a) ↔ 0 < (allS (a : Int) b p [] m).length := by
  rw [allS_filter, List.length_pos_iff_exists_mem]
  have hd : Down [] m := ⟨by simp, rfl, by simp⟩
  constructor
  · rintro ⟨u, hu, h1, h2, h3⟩
    obtain ⟨d1, d2, d3⟩ := allF_down p [] m hm hd u hu
    refine ⟨u, List.mem_filter.2 ⟨hu, ?_⟩⟩
    simp only [List.length_nil, Nat.zero_add] at d3
    exact huIs_iff.2 ⟨by omega, fun x hx => by have := d1 x hx; omega, d2, h3⟩
  · rintro ⟨u, hu⟩
    obtain ⟨h1, h2⟩ := List.mem_filter.1 hu
    exact ⟨u, h1, ha.1, ha.2, (huIs_iff.1 h2).2.2.2⟩
theorem fac_both (a0 a1 a2 : Int) : ∃ r : List Int × Bool, Ev (fun k => spec_FactorsFor.f k a0 a1 a2) r ∧ impl_FactorsFor.f a0 a1 a2 = some r ∧ r.1.length ≤ 21 ∧ (triedF a0 a1 a2 = true → ∀ f ∈ r.1, ∃ u, huIs u f a1 = true ∧ u.length = a0.toNat ∧ 1 ≤ f ∧ f ≤ 20) ∧ (triedF a0 a1 a2 = false → r.1 = []) := by
  have e1 : spec_huTask.f a0 1 a1 a2 = some (triedF a0 a1 a2) := by
    unfold spec_huTask.f triedF
    rw [l1In_inB, huGiven_is, l1In_inB]
    have : huGv 1 a1 = inB (-50) 50 a1 := by
      unfold huGv
      rw [inB_iff.2 (show (1 : Int) ≤ 1 ∧ (1 : Int) ≤ 20 by omega), Bool.true_and]
    rw [this]
    cases inB 3 4 a0 <;> cases inB (-50) 50 a1 <;> rfl
  have e2 : impl_areTried.f a0 a1 a2 = some (triedF a0 a1 a2) := by
    unfold impl_areTried.f triedF
    rw [within_inB, within_inB, within_inB]
    cases inB 3 4 a0 <;> cases inB (-50) 50 a1 <;> rfl
  unfold spec_FactorsFor.f impl_FactorsFor.f
  cases ht : triedF a0 a1 a2 with
  | false =>
    refine ⟨([], false), Ev.bind0 e1 ?_, ?_, by simp, by simp, by simp⟩
    · rw [ht]
      simp only [Bool.false_eq_true, if_false]
      exact Ev.is rfl
    · rw [e2, ht]
      rfl
  | true =>
    have ht2 := ht
    unfold triedF at ht2
    simp only [Bool.and_eq_true, inB_iff] at ht2
    obtain ⟨⟨⟨t1, t2⟩, hb⟩, hm⟩ := ht2
    obtain ⟨p, rfl⟩ : ∃ p : Nat, a0 = (p : Int) := ⟨a0.toNat, by omega⟩
    have hp : 3 ≤ p ∧ p ≤ 4 := by omega
    have hd : Down [] a2 := ⟨by simp, rfl, by simp⟩
    obtain ⟨hs, f1, f2, f3⟩ := fac_all hb (allF p [] a2) (List.replicate 21 false) (fun u hu => by
      obtain ⟨d1, d2, d3⟩ := allF_down p [] a2 hm.2 hd u hu
      simp only [List.length_nil, Nat.zero_add] at d3
      exact ⟨d1, by omega⟩) (by simp)
    have f4 : ∀ a : Nat, 1 ≤ a → a ≤ 20 → (hs[a]? = some true ↔ 0 < (allS (a : Int) a1 p [] a2).length) := by
      intro a ha1 ha2
      rw [f3 a ha2, ← has_all hp hm.2 a ⟨ha1, ha2⟩]
      constructor
      · rintro (h | h)
        · rw [List.getElem?_replicate] at h
          split at h <;> simp at h
        · exact h
      · exact .inr
    have f0 : hs[0]? ≠ some true := by
      rw [Ne, f3 0 (by omega)]
      rintro (h | ⟨u, _, h, _⟩)
      · simp [List.getElem?_replicate] at h
      · omega
    have hloop : ∀ (d i : Nat) (o : List Int), i + d = 21 → 1 ≤ i → o.length ≤ i → Ev (fun k => spec_FactorsFor.l0 k (p : Int) a1 a2 o (i : Int)) (o ++ foundF (hs.drop i) (i : Int), true) := by
      intro d
      induction d with
      | zero =>
        intro i o hi h1 ho
        have c1 : ¬ (i : Int) ≤ 20 := by omega
        rw [List.drop_of_length_le (by omega), foundF, List.append_nil]
        exact Ev.step (f := fun _ => some (o, true)) (fun k => by simp only [spec_FactorsFor.l0, c1, if_false]) (Ev.is rfl)
      | succ d ih =>
        intro i o hi h1 ho
        have c1 : (i : Int) ≤ 20 := by omega
        have hil : i < hs.length := by omega
        have e := huAll_ev (a := (i : Int)) (b := a1) (gv_fac (by omega) hb) p [] a2 hm.2 (by simp; omega) hp.2
        have w1 : wrap64 ((i : Int) + 1) = ((i + 1 : Nat) : Int) := by unfold wrap64; omega
        have c2 : o.length < 17592186044416 := by omega
        have hk := f4 i h1 (by omega)
        rw [List.getElem?_eq_getElem hil] at hk
        rw [List.drop_eq_getElem_cons hil, foundF]
        refine Ev.step (fun k => by simp only [spec_FactorsFor.l0, c1, if_true, w1]; rfl) (Ev.bind e ?_)
        by_cases c3 : ((allS (i : Int) a1 p [] a2).length : Int) > 0
        · have hb2 : hs[i] = true := Option.some.inj (hk.2 (by omega))
          simp only [c3, c2, if_true, hb2]
          have := ih (i + 1) (o ++ [(i : Int)]) (by omega) (by omega) (by rw [List.length_append, List.length_singleton]; omega)
          rw [List.append_assoc] at this
          exact this
        · have hb2 : hs[i] = false := by
            cases hv : hs[i] with
            | false => rfl
            | true => exact absurd (hk.1 (by rw [hv])) (by omega)
          simp only [c3, if_false, hb2, Bool.false_eq_true]
          exact ih (i + 1) o (by omega) (by omega) (by omega)
    have hl0 : 0 < hs.length := by omega
    have e0 : foundF hs 0 = foundF (hs.drop 1) ((1 : Nat) : Int) := by
      have h1 : hs = hs[0] :: hs.drop 1 := by
        have := List.drop_eq_getElem_cons hl0
        rwa [List.drop_zero] at this
      have h2 : hs[0] = false := by
        cases hv : hs[0] with
        | false => rfl
        | true => exact absurd (by rw [List.getElem?_eq_getElem hl0, hv]) f0
      rw [h1, foundF, h2]
      simp
    have flen : ∀ (l : List Bool) (i : Int), (foundF l i).length ≤ l.length := by
      intro l
      induction l with
      | nil => intro i; simp [foundF]
      | cons h l ih =>
        intro i
        rw [foundF]
        have := ih (i + 1)
        split <;> simp <;> omega
    have fmem : ∀ (l : List Bool) (i : Int) (f : Int), f ∈ foundF l i → ∃ j : Nat, f = i + j ∧ l[j]? = some true := by
      intro l
      induction l with
      | nil => intro i f hf; simp [foundF] at hf
      | cons h l ih =>
        intro i f hf
        rw [foundF] at hf
        split at hf
        · rename_i hh
          rcases List.mem_cons.1 hf with rfl | hf
          · exact ⟨0, by omega, by simp [hh]⟩
          · obtain ⟨j, h1, h2⟩ := ih (i + 1) f hf
            exact ⟨j + 1, by omega, by simpa using h2⟩
        · obtain ⟨j, h1, h2⟩ := ih (i + 1) f hf
          exact ⟨j + 1, by omega, by simpa using h2⟩
    refine ⟨(foundF hs 0, true), Ev.bind0 e1 ?_, ?_, by have := flen hs 0; simp only; omega, fun _ f hf => ?_, by simp⟩
    · rw [ht]
      simp only [if_true]
      rw [e0]
      exact hloop 20 1 [] (by omega) (by omega) (by simp)
    · rw [e2, ht]
      have c1 : 0 ≤ (p : Int) ∧ (p : Int) ≤ 900 ∧ a2 ≤ 1000000 := by omega
      simp only [Option.bind_some, if_true, c1, and_self, Int.toNat_natCast]
      rw [fallS_fold, f1]
      rfl
    · obtain ⟨j, rfl, hj⟩ := fmem hs 0 f hf
      have hjl : j < 21 := by
        have := (List.getElem?_eq_some_iff.1 hj).1
        omega
      have hj1 : 1 ≤ j := by
        rcases Nat.eq_zero_or_pos j with h | h
        · subst h; exact absurd hj f0
        · exact h
      have hpos := (f4 j hj1 (by omega)).1 hj
      obtain ⟨u, hu⟩ := List.length_pos_iff_exists_mem.1 hpos
      obtain ⟨h1, h2⟩ := allS_is _ _ _ _ _ u hu
      refine ⟨u, by rw [Int.zero_add]; exact h1, by simpa using h2, by omega, by omega⟩
end Go.Proofs.Ytfdjbcbhlfjogaa.P

-- PureFnExactFactorsFor
namespace Go.Proofs.Ytfdjbcbhlfjogaa.Pure
set_option linter.unusedVariables false
set_option linter.unusedSimpArgs false
open Go.RowKit Go.Proofs.Ytfdjbcbhlfjogaa.P Go.Proofs.YtfdjbcbhlfjogaaW.PrintWords Go.Proofs.YtfdjbcbhlfjogaaW.PrintLast
theorem FnExactFactorsFor : laws_FnExactFactorsFor.Pure := by
  intro a0 a1 a2 _ _ _
  refine Ev.rounds ?_
  unfold laws_FnExactFactorsFor.f
  obtain ⟨r, e1, e2, hl, _⟩ := fac_both a0 a1 a2
  refine Ev.bind e1 (Ev.bind0 e2 (Ev.bind (eqIntS_ev r.1 r.1 (by omega)) ?_))
  simp only [decide_true, if_true, bne_self_eq_false]
  refine Ev.step (fun k => by simp only [laws_FnExactFactorsFor.j0, Bool.false_eq_true, if_false]; rfl) ?_
  refine held_then r.1 false true _ (by omega) ?_
  refine Ev.bind0 e2 (Ev.bind (eqIntS_ev r.1 r.1 (by omega)) ?_)
  simp only [decide_true, if_true, bne_self_eq_false]
  refine Ev.step (fun k => by simp only [laws_FnExactFactorsFor.j1, Bool.false_eq_true, if_false]; rfl) ?_
  exact held_last r.1.length (by omega)
end Go.Proofs.Ytfdjbcbhlfjogaa.Pure
