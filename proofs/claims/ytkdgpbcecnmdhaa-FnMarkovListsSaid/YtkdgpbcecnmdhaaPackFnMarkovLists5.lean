/- All triples up to a bound are told in order, with all that are below them, and each number is the greatest one of those that are told. No condition. -/
import Derived.Test.YtkdgpbcecnmdhaaPackFnMarkovLists4
import Derived.Sort.Statements
import Derived.Sort.Grow
import Derived.Test.YtkdgpbcecnmdhaaLib
set_option linter.unusedVariables false
set_option linter.unusedSimpArgs false
namespace Go.Proofs.Ytkdgpbcecnmdhaa.P
open Go.RowKit Go.Proofs.YtkdgpbcecnmdhaaW.PrintWords Go.Proofs.YtkdgpbcecnmdhaaW.PrintLast
def cmpL : List Int → List Int → Int
 | [], [] => 0
 | [], _ :: _ => -1
 | _ :: _, [] => 1
 | x :: a, y :: b => if x < y then -1 else if y < x then 1 else cmpL a b
theorem cmpL_self : ∀ a, cmpL a a = 0
  | [] => rfl
  | x :: a => by simp [cmpL, cmpL_self a]
theorem cmpL_anti : ∀ a b, cmpL b a = - cmpL a b
 | [], [] => rfl
 | [], _ :: _ => rfl
 | _ :: _, [] => rfl
 | x :: a, y :: b => by
  simp only [cmpL, cmpL_anti a b]
  split <;> split <;> first | rfl | omega
theorem cmpL_eq : ∀ a b, cmpL a b = 0 → a = b
 | [], [], _ => rfl
 | [], _ :: _, h => by simp [cmpL] at h
 | _ :: _, [], h => by simp [cmpL] at h
 | x :: a, y :: b, h => by
  simp only [cmpL] at h
  split at h
  ·omega
  ·split at h
   ·omega
   ·rw [cmpL_eq a b h, show x = y by omega]
theorem cmpL_trans : ∀ a b c, cmpL a b < 0 → cmpL b c < 0 → cmpL a c < 0
 | [], [], _, h, _ => by simp [cmpL] at h
 | [], _ :: _, [], _, h => by simp [cmpL] at h
 | [], _ :: _, _ :: _, _, _ => by simp [cmpL]
 | _ :: _, [], _, h, _ => by simp [cmpL] at h
 | _ :: _, _ :: _, [], _, h => by simp [cmpL] at h
 | x :: a, y :: b, z :: c, h, g => by
  have ih := cmpL_trans a b c
  simp only [cmpL] at h g ⊢
  split at h <;> split at g <;> (try split at h) <;> (try split at g) <;> (try split) <;> (try split) <;> first | omega | (apply ih <;> assumption)
structure Total (cf : List Int → List Int → Int) : Prop where
 anti : ∀ a b, cf a b < 0 ↔ 0 < cf b a
 trans : ∀ a b c, cf a b < 0 → cf b c < 0 → cf a c < 0
 eq : ∀ a b, cf a b = 0 → a = b
 self : ∀ a, cf a a = 0
theorem Total.swo {cf : List Int → List Int → Int} (h : Total cf) : Go.Sort.SWO (fun a b => decide (cf a b < 0)) where
 irrefl := fun x => by have := h.self x; simp; omega
 trans := fun x y z hx hy => by simp only [decide_eq_true_eq] at *; exact h.trans x y z hx hy
 ntrans := fun x y z hx hy => by
  simp only [decide_eq_false_iff_not] at *
  intro hz
  by_cases e1 : cf x y = 0
  ·exact hy (h.eq x y e1 ▸ hz)
  ·by_cases e2 : cf y z = 0
   ·exact hx (h.eq y z e2 ▸ hz)
   ·have h1 : cf y x < 0 := by rw [h.anti]; omega
    have h2 : cf z y < 0 := by rw [h.anti]; omega
    have h3 := h.trans z y x h2 h1
    have h4 := (h.anti x z).1 hz
    omega
theorem cmpL_total : Total cmpL where
 anti := fun a b => by rw [cmpL_anti a b]; omega
 trans := cmpL_trans
 eq := cmpL_eq
 self := cmpL_self
theorem Total.unique {cf : List Int → List Int → Int} (h : Total cf) {xs ys : List (List Int)} (hp : xs.Perm ys) (hx : xs.Pairwise fun a b => ¬ cf b a < 0) (hy : ys.Pairwise fun a b => ¬ cf b a < 0) : xs = ys := by
 refine List.Perm.eq_of_pairwise (le := fun a b => ¬ cf b a < 0) ?_ hx hy hp
 intro a b _ _ h1 h2
 by_cases e : cf a b = 0
 ·exact h.eq a b e
 ·have := h.anti b a
  omega
theorem Total.uniqueS {cf : List Int → List Int → Int} (h : Total cf) : ∀ {xs ys : List (List Int)}, (xs.Pairwise fun a b => cf a b < 0) → (ys.Pairwise fun a b => cf a b < 0) → (∀ z, z ∈ xs ↔ z ∈ ys) → xs = ys
 | [], [], _, _, _ => rfl
 | [], y :: ys, _, _, hm => by have := (hm y).2 (by simp); simp at this
 | x :: xs, [], _, _, hm => by have := (hm x).1 (by simp); simp at this
 | x :: xs, y :: ys, hx, hy, hm => by
  rw [List.pairwise_cons] at hx hy
  have hxy : x = y := by
   rcases List.mem_cons.1 ((hm x).1 (by simp)) with e | h1
   ·exact e
   ·rcases List.mem_cons.1 ((hm y).2 (by simp)) with e | h2
    ·exact e.symm
    ·have h3 := hy.1 x h1
     have h4 := hx.1 y h2
     have := (h.anti x y).1 h4
     omega
  subst hxy
  congr 1
  refine h.uniqueS hx.2 hy.2 fun z => ?_
  constructor
  ·intro hz
   rcases List.mem_cons.1 ((hm z).1 (List.mem_cons_of_mem _ hz)) with e | h1
   ·subst e; have := hx.1 z hz; have := h.self z; omega
   ·exact h1
  ·intro hz
   rcases List.mem_cons.1 ((hm z).2 (List.mem_cons_of_mem _ hz)) with e | h1
   ·subst e; have := hy.1 z hz; have := h.self z; omega
   ·exact h1
theorem rd_app (pre : List Int) (x : Int) (a : List Int) : rd (pre ++ x :: a) (pre.length : Int) = x := by
  simp [rd]
theorem compare_loop (l m : List Int) (hl : l.length < 9223372036854775807) : ∀ (a b pre pre' : List Int) (k : Nat), l = pre ++ a → m = pre' ++ b → pre.length = pre'.length → a.length < k → slices_Compare_int_int.l0 k l m l (l.length : Int) (pre.length : Int) = some (cmpL a b)
 | a, b, pre, pre', 0, _, _, _, hk => by omega
 | [], b, pre, pre', k + 1, el, em, ep, _ => by
  have h1 : l.length = pre.length := by rw [el]; simp
  have h2 : m.length = pre'.length + b.length := by rw [em]; simp
  simp only [slices_Compare_int_int.l0]
  rw [if_neg (by omega)]
  cases b with
  | nil => rw [if_neg (by simp at h2; omega)]; rfl
  | cons y b => rw [if_pos (by simp at h2; omega)]; rfl
 | x :: a, b, pre, pre', k + 1, el, em, ep, hk => by
  have h1 : l.length = pre.length + (a.length + 1) := by rw [el]; simp
  have h2 : m.length = pre'.length + b.length := by rw [em]; simp
  simp only [slices_Compare_int_int.l0]
  rw [if_pos (by omega), if_pos (by omega), if_pos (by omega)]
  cases b with
  | nil => rw [if_pos (by simp at h2; omega)]; rfl
  | cons y b =>
   simp only [List.length_cons] at h2 hk
   rw [if_neg (by omega), if_pos (by omega)]
   have e1 : rd l (pre.length : Int) = x := by rw [el]; exact rd_app _ _ _
   have e2 : rd m (pre.length : Int) = y := by rw [em, ep]; exact rd_app _ _ _
   rw [e1, e2]
   have hw : wrap64 ((pre.length : Int) + 1) = ((pre ++ [x]).length : Int) := by
    rw [show wrap64 ((pre.length : Int) + 1) = (pre.length : Int) + 1 from ?_]
    ·simp
    ·unfold wrap64; omega
   have ih := compare_loop l m hl a b (pre ++ [x]) (pre' ++ [y]) k (by rw [el]; simp) (by rw [em]; simp) (by simp [ep]) (by omega)
   rw [hw]
   simp only [cmp_Compare_int.f, cmp_isNaN_int.f]
   simp only [cmpL]
   rcases Int.lt_trichotomy x y with hlt | heq | hgt
   ·simp [hlt, show ¬ y < x by omega, cmp_isNaN_int.f]
   ·subst heq
    simpa [cmp_isNaN_int.f] using ih
   ·simp [hgt, show ¬ x < y by omega, cmp_isNaN_int.f]
theorem compare_ev (l m : List Int) (hl : l.length < 9223372036854775807) : slices_Compare_int_int.f (l.length + 1) l m = some (cmpL l m) := by
  have := compare_loop l m hl l m [] [] (l.length + 1) rfl rfl rfl (by omega)
  simpa [slices_Compare_int_int.f] using this
theorem equal_loop (l m : List Int) (hlm : l.length = m.length) (hl : l.length < 9223372036854775807) : ∀ (a b pre pre' : List Int) (k : Nat), l = pre ++ a → m = pre' ++ b → pre.length = pre'.length → a.length < k → slices_Equal_int_int.l0 k l m (l.length : Int) (pre.length : Int) = some (decide (a = b))
 | a, b, pre, pre', 0, _, _, _, hk => by omega
 | [], b, pre, pre', k + 1, el, em, ep, _ => by
  have h1 : l.length = pre.length := by rw [el]; simp
  have h2 : m.length = pre'.length + b.length := by rw [em]; simp
  simp only [slices_Equal_int_int.l0]
  rw [if_neg (by omega), show b = [] from List.eq_nil_of_length_eq_zero (by omega)]
  rfl
 | x :: a, b, pre, pre', k + 1, el, em, ep, hk => by
  have h1 : l.length = pre.length + (a.length + 1) := by rw [el]; simp
  have h2 : m.length = pre'.length + b.length := by rw [em]; simp
  simp only [slices_Equal_int_int.l0]
  rw [if_pos (by omega), if_pos (by omega), if_pos (by omega), if_pos (by omega)]
  cases b with
  | nil => simp at h2; omega
  | cons y b =>
   simp only [List.length_cons] at h2 hk
   have e1 : rd l (pre.length : Int) = x := by rw [el]; exact rd_app _ _ _
   have e2 : rd m (pre.length : Int) = y := by rw [em, ep]; exact rd_app _ _ _
   rw [e1, e2]
   have hw : wrap64 ((pre.length : Int) + 1) = ((pre ++ [x]).length : Int) := by
    rw [show wrap64 ((pre.length : Int) + 1) = (pre.length : Int) + 1 from ?_]
    ·simp
    ·unfold wrap64; omega
   have ih := equal_loop l m hlm hl a b (pre ++ [x]) (pre' ++ [y]) k (by rw [el]; simp) (by rw [em]; simp) (by simp [ep]) (by omega)
   rw [hw]
   by_cases e : x = y
   ·subst e
    rw [if_pos rfl, ih]
    simp
   ·rw [if_neg e]
    simp [e]
theorem equal_ev (l m : List Int) (hl : l.length < 9223372036854775807) : slices_Equal_int_int.f (l.length + 1) l m = some (decide (l = m)) := by
 unfold slices_Equal_int_int.f
 by_cases h : l.length = m.length
 ·rw [if_pos (by omega)]
  have := equal_loop l m h hl l m [] [] (l.length + 1) rfl rfl rfl (by omega)
  simpa using this
 ·rw [if_neg (by omega)]
  have : l ≠ m := fun e => h (by rw [e])
  simp [this]
end Go.Proofs.Ytkdgpbcecnmdhaa.P
namespace Go.Proofs.Ytkdgpbcecnmdhaa.P
open Go.RowKit Go.Proofs.YtkdgpbcecnmdhaaW.PrintWords Go.Proofs.YtkdgpbcecnmdhaaW.PrintLast
def cfM (a b : List Int) : Int := if rd a 2 = rd b 2 then cmpL a b else rd a 2 - rd b 2
theorem cfM_total : Total cfM where
 anti := fun a b => by
  unfold cfM
  by_cases h : rd a 2 = rd b 2
  ·rw [if_pos h, if_pos h.symm, cmpL_anti b a]
   omega
  ·rw [if_neg h, if_neg (fun e => h e.symm)]
   omega
 trans := fun a b c => by
  unfold cfM
  intro h1 h2
  by_cases e1 : rd a 2 = rd b 2
  ·rw [if_pos e1] at h1
   by_cases e2 : rd b 2 = rd c 2
   ·rw [if_pos e2] at h2
    rw [if_pos (e1.trans e2)]
    exact cmpL_trans _ _ _ h1 h2
   ·rw [if_neg e2] at h2
    rw [if_neg (by omega)]
    omega
  ·rw [if_neg e1] at h1
   by_cases e2 : rd b 2 = rd c 2
   ·rw [if_neg (by omega)]
    omega
   ·rw [if_neg e2] at h2
    rw [if_neg (by omega)]
    omega
 eq := fun a b h => by
  unfold cfM at h
  by_cases e : rd a 2 = rd b 2
  ·rw [if_pos e] at h
   exact cmpL_eq _ _ h
  ·rw [if_neg e] at h
   omega
 self := fun a => by
  unfold cfM
  rw [if_pos rfl, cmpL_self]
def insM (x : List Int) : List (List Int) → List (List Int)
  | [] => [x]
  | y :: t => if cfM x y < 0 then x :: y :: t else y :: insM x t
def sortM : List (List Int) → List (List Int)
  | [] => []
  | x :: t => insM x (sortM t)
theorem insM_perm (x : List Int) : ∀ l, (insM x l).Perm (x :: l)
 | [] => .refl _
 | y :: t => by
  unfold insM
  split
  ·exact .refl _
  ·exact ((insM_perm x t).cons y).trans (List.Perm.swap x y t)
theorem insM_sorted (x : List Int) : ∀ l, (l.Pairwise fun a b => ¬ cfM b a < 0) → (insM x l).Pairwise fun a b => ¬ cfM b a < 0
 | [], _ => by simp [insM]
 | y :: t, h => by
  unfold insM
  rw [List.pairwise_cons] at h
  have hn := cfM_total.swo.ntrans
  simp only [decide_eq_false_iff_not] at hn
  split
  ·rename_i h1
   have h2 : ¬ cfM y x < 0 := by have := (cfM_total.anti x y).1 h1; omega
   rw [List.pairwise_cons, List.pairwise_cons]
   refine ⟨fun z hz => ?_, h.1, h.2⟩
   rcases List.mem_cons.1 hz with e | hz
   ·subst e; exact h2
   ·exact hn z y x (h.1 z hz) h2
  ·rename_i h1
   rw [List.pairwise_cons]
   refine ⟨fun z hz => ?_, insM_sorted x t h.2⟩
   rcases List.mem_cons.1 ((insM_perm x t).mem_iff.1 hz) with e | hz
   ·subst e; exact h1
   ·exact h.1 z hz
theorem sortM_perm : ∀ l, (sortM l).Perm l
  | [] => .refl _
  | x :: t => (insM_perm x _).trans ((sortM_perm t).cons x)
theorem sortM_sorted : ∀ l, (sortM l).Pairwise fun a b => ¬ cfM b a < 0
  | [] => .nil
  | x :: t => insM_sorted x _ (sortM_sorted t)
theorem sortM_is {l m : List (List Int)} (hp : m.Perm l) (hs : m.Pairwise fun a b => ¬ cfM b a < 0) : m = sortM l :=
  cfM_total.unique (hp.trans (sortM_perm l).symm) hs (sortM_sorted l)
def prM (x : List Int) : Bool := decide (2 < x.length ∧ x.length < 9223372036854775807 ∧ 0 ≤ rd x 2 ∧ rd x 2 ≤ 1000000000)
theorem prM_iff {x : List Int} : prM x = true ↔ 2 < x.length ∧ x.length < 9223372036854775807 ∧ 0 ≤ rd x 2 ∧ rd x 2 ≤ 1000000000 := by simp [prM]
end Go.Proofs.Ytkdgpbcecnmdhaa.P
namespace Go.Proofs.Ytkdgpbcecnmdhaa.P
def insS (x : List Int) : List (List Int) → List (List Int)
  | [] => [x]
  | y :: t => if cmpL x y < 0 then x :: y :: t else if cmpL x y = 0 then y :: t else y :: insS x t
def sortDedup : List (List Int) → List (List Int)
  | [] => []
  | x :: t => insS x (sortDedup t)
theorem insS_mem (x z : List Int) : ∀ l, z ∈ insS x l ↔ z = x ∨ z ∈ l
 | [] => by simp [insS]
 | y :: t => by
  unfold insS
  split
  ·simp
  ·split
   ·rename_i h
    have := cmpL_eq x y h
    subst this
    simp
   ·simp only [List.mem_cons, insS_mem x z t]
    constructor
    ·rintro (h | h | h) <;> simp [h]
    ·rintro (h | h | h) <;> simp [h]
theorem insS_sorted (x : List Int) : ∀ l, (l.Pairwise fun a b => cmpL a b < 0) → (insS x l).Pairwise fun a b => cmpL a b < 0
 | [], _ => by simp [insS]
 | y :: t, h => by
  unfold insS
  rw [List.pairwise_cons] at h
  split
  ·rename_i h1
   rw [List.pairwise_cons, List.pairwise_cons]
   refine ⟨fun z hz => ?_, h.1, h.2⟩
   rcases List.mem_cons.1 hz with e | hz
   ·subst e; exact h1
   ·exact cmpL_trans _ _ _ h1 (h.1 z hz)
  ·split
   ·rw [List.pairwise_cons]; exact h
   ·rename_i h1 h2
    rw [List.pairwise_cons]
    refine ⟨fun z hz => ?_, insS_sorted x t h.2⟩
    rcases (insS_mem x z t).1 hz with e | hz
    ·subst e
     rw [cmpL_anti]
     omega
    ·exact h.1 z hz
theorem sortDedup_mem (z : List Int) : ∀ l, z ∈ sortDedup l ↔ z ∈ l
  | [] => by simp [sortDedup]
  | x :: t => by simp [sortDedup, insS_mem, sortDedup_mem z t]
theorem sortDedup_sorted : ∀ l, (sortDedup l).Pairwise fun a b => cmpL a b < 0
  | [] => by simp [sortDedup]
  | x :: t => insS_sorted x _ (sortDedup_sorted t)
theorem sortDedup_is {l m : List (List Int)} (h1 : m.Pairwise fun a b => cmpL a b < 0) (h2 : ∀ z, z ∈ m ↔ z ∈ l) : m = sortDedup l :=
  cmpL_total.uniqueS h1 (sortDedup_sorted l) (fun z => (h2 z).trans (sortDedup_mem z l).symm)
end Go.Proofs.Ytkdgpbcecnmdhaa.P
namespace Go.Proofs.Ytkdgpbcecnmdhaa.P
open Go.RowKit Go.Proofs.YtkdgpbcecnmdhaaW.PrintWords Go.Proofs.YtkdgpbcecnmdhaaW.PrintLast
theorem scalar_reps {α : Type} {enc : α → Value} {R : α → List Value → Prop} (hR : ∀ x c, R x c ↔ c = [enc x]) (xs : List α) (cs : List Value) : Reps R 1 xs cs ↔ cs = xs.map enc := by
 constructor
 ·rintro ⟨h1, h2⟩
  apply List.ext_getElem
  ·simp [h1]
  ·intro i hi1 hi2
   have hx : i < xs.length := by simpa using hi2
   have h3 := (hR _ _).1 (h2 i xs[i] (List.getElem?_eq_getElem hx))
   rw [Nat.mul_one] at h3
   have h4 : (cs.drop i).take 1 = [cs[i]] := by rw [List.drop_eq_getElem_cons hi1]; rfl
   rw [h4] at h3
   simpa using h3
 ·rintro rfl
  refine ⟨by simp, fun j p hp => (hR _ _).2 ?_⟩
  obtain ⟨hj, rfl⟩ := List.getElem?_eq_some_iff.1 hp
  rw [Nat.mul_one, List.drop_eq_getElem_cons (by simpa using hj)]
  simp
theorem scalar_R {α : Type} {enc : α → Value} {h1 : ∀ x, (enc x).oneCell' = true} {e : Nat} {w : World} {base : Nat} {ok : Nat → Prop} {v : Value} {xs : List α} :
  (Kd.scalar enc h1).R e w base ok v xs ↔ (∀ k, v.ownBlock = some k → ok k) ∧ w.ownsRow base e 1 v xs.length (xs.map enc) := by
 constructor
 ·rintro ⟨h2, inner, h3, h4⟩
  exact ⟨h2, by rw [← (scalar_reps (enc := enc) (fun x c => Iff.rfl) xs inner).1 h4]; exact h3⟩
 ·rintro ⟨h2, h3⟩
  exact ⟨h2, _, h3, (scalar_reps (enc := enc) (fun x c => Iff.rfl) xs _).2 rfl⟩
theorem scalar_open {α : Type} {enc : α → Value} {h1 : ∀ x, (enc x).oneCell' = true} {e : Nat} {w : World} {base : Nat} {ok : Nat → Prop} {v : Value} {xs : List α} (h : (Kd.scalar enc h1).R e w base ok v xs) :
  (v = .slice none 0 0 ∧ xs = []) ∨ ∃ g cap cur, v = .slice (some ⟨g, 0, none⟩) xs.length cap ∧ ok g ∧ base ≤ g ∧ w.heap[g]? = some (.cells cur e (0, 0)) ∧ xs.length ≤ cap ∧ cap ≤ maxLen ∧ cur.size = cap ∧ cur.toList.take xs.length = xs.map enc := by
 obtain ⟨h2, h3, h4⟩ := scalar_R.1 h
 rcases h4 with ⟨rfl, h5⟩ | ⟨g, cap, cur, rfl, hg, hb, hc, hm, hs, ht⟩
 ·exact .inl ⟨rfl, List.eq_nil_of_length_eq_zero h5⟩
 ·exact .inr ⟨g, cap, cur, rfl, h2 g (by simp [Value.ownBlock]), hg, hb, hc, hm, by omega, by rw [← ht, Nat.mul_one]⟩
theorem scalar_close {α : Type} {enc : α → Value} {h1 : ∀ x, (enc x).oneCell' = true} {e : Nat} {w : World} {base : Nat} {ok : Nat → Prop} {g cap : Nat} {cur : Array Value} {xs : List α} (hok : ok g) (hg : base ≤ g) (hb : w.heap[g]? = some (.cells cur e (0, 0))) (hc : xs.length ≤ cap) (hm : cap ≤ maxLen) (hs : cur.size = cap) (ht : cur.toList.take xs.length = xs.map enc) :
    (Kd.scalar enc h1).R e w base ok (.slice (some ⟨g, 0, none⟩) xs.length cap) xs :=
  scalar_R.2 ⟨fun k hk => by simp [Value.ownBlock] at hk; exact hk ▸ hok, by simp, .inr ⟨g, cap, cur, rfl, hg, hb, hc, hm, by omega, by rw [Nat.mul_one]; exact ht⟩⟩
theorem scalar_cell {α : Type} {enc : α → Value} {e : Nat} {w : World} {g : Nat} {cur : Array Value} {xs : List α} (hb : w.heap[g]? = some (.cells cur e (0, 0))) (ht : cur.toList.take xs.length = xs.map enc) (j : Nat) (hj : j < xs.length) : w.cell? ⟨g, j, none⟩ = some (enc xs[j]) := by
 have h1 : j < (cur.toList.take xs.length).length := by rw [ht]; simpa using hj
 have h2 : j < cur.size := by simp at h1; omega
 rw [cell_of_row w g j cur e _ hb]
 have h3 : (cur.toList.take xs.length)[j] = enc xs[j] := by simp [ht]
 rw [List.getElem_take] at h3
 rw [Array.getElem?_eq_getElem h2, ← h3]
 simp
theorem own_free {e : Nat} {w : World} {g : Nat} {cur : Array Value} (hb : w.heap[g]? = some (.cells cur e (0, 0))) (j : Nat) : w.frozen? ⟨g, j, none⟩ = false := by simp [World.frozen?, hb]
theorem scalar_holds {α : Type} [Inhabited α] {enc : α → Value} {e : Nat} {w : World} {g : Nat} {cur : Array Value} {xs : List α} (hb : w.heap[g]? = some (.cells cur e (0, 0))) (ht : cur.toList.take xs.length = xs.map enc) : Go.Sort.Holds enc w g 0 xs.toArray := by
 intro j hj
 have hj' : j < xs.length := by simpa using hj
 refine ⟨?_, own_free hb _⟩
 rw [Nat.zero_add, scalar_cell hb ht j hj']
 simp [hj']
theorem scalar_sorted {α : Type} [Inhabited α] {enc : α → Value} {h1 : ∀ x, (enc x).oneCell' = true} {e : Nat} {w0 w : World} {ok : Nat → Prop} {g cap : Nat} {cur : Array Value} {xs ys : List α} (hB : Below w0.heap.size w0 w) (hok : ok g) (hg : w0.heap.size ≤ g) (hb : w.heap[g]? = some (.cells cur e (0, 0))) (hc : xs.length ≤ cap) (hm : cap ≤ maxLen) (hs : cur.size = cap) (hl : ys.length = xs.length) (n : Nat) (os : Array Obj) (w' : World) (hw : w' = Go.Sort.grow (Go.Sort.putRow enc (Go.Sort.ahead w n) g 0 ys.toArray) os) :
  (Kd.scalar enc h1).R e w' w0.heap.size (fun k_ => (ok k_ ∨ w.heap.size ≤ k_)) (.slice (some ⟨g, 0, none⟩) xs.length cap) ys ∧ Below w0.heap.size w0 w' ∧ Kept w w' (fun k_ => ok k_) := by
 have hlt : g < w.heap.size := by
  have := (Array.getElem?_eq_some_iff.1 hb).1
  exact this
 have hsz : (Go.Sort.putRow enc (Go.Sort.ahead w n) g 0 ys.toArray).heap.size = w.heap.size := by simp
 have hold : ∀ k, k < w.heap.size → w'.heap[k]? = (Go.Sort.putRow enc (Go.Sort.ahead w n) g 0 ys.toArray).heap[k]? := fun k hk => by
  rw [hw, Go.Sort.heap_grow_old _ _ (by rw [hsz]; exact hk)]
 have hne : ∀ k, k < w.heap.size → k ≠ g → w'.heap[k]? = w.heap[k]? := fun k hk hkg => by
  rw [hold k hk]
  simp only [Go.Sort.putRow, Go.Sort.mapBlock, Array.getElem?_modify]
  rw [if_neg (by omega)]
  rfl
 have hrow : w'.heap[g]? = some (.cells (Go.Sort.putCells enc 0 ys.toArray cur) e (0, 0)) := by
  rw [hold g hlt]
  simp only [Go.Sort.putRow, Go.Sort.mapBlock, Array.getElem?_modify]
  rw [if_pos trivial]
  show (w.heap[g]?).map _ = _
  rw [hb]
  rfl
 have hsize : w.heap.size ≤ w'.heap.size := by rw [hw, Go.Sort.size_grow, hsz]; omega
 refine ⟨?_, hB.trans ⟨?_, ?_, ?_, hsize, fun k hk => hne k (by have := hB.size; omega) (by omega)⟩, hsize, fun i hi hn => hne i hi (fun h => hn (h ▸ hok))⟩
 ·rw [← hl]
  refine scalar_close (.inl hok) hg hrow (by omega) hm (by simp [Go.Sort.putCells, hs]) ?_
  apply List.ext_getElem
  ·simp [Go.Sort.putCells, hs]; omega
  ·intro i hi1 hi2
   have hi3 : i < ys.length := by simpa using hi2
   simp [Go.Sort.putCells, hi3]
 ·rw [hw]; rfl
 ·rw [hw]; rfl
 ·rw [hw]; rfl
theorem scalar_take {α : Type} {enc : α → Value} {h1 : ∀ x, (enc x).oneCell' = true} {e : Nat} {w : World} {base : Nat} {ok : Nat → Prop} {ad : Addr} {n cap : Nat} {xs : List α} (h : (Kd.scalar enc h1).R e w base ok (.slice (some ad) n cap) xs) (k : Nat) (hk : k ≤ xs.length) :
  (Kd.scalar enc h1).R e w base ok (.slice (some ad) k cap) (xs.take k) := by
 rcases scalar_open h with ⟨h2, _⟩ | ⟨g, cap', cur, hv, hok, hg, hb, hc, hm, hs, ht⟩
 ·simp at h2
 ·injection hv with e1 e2 e3
  injection e1 with e1
  subst e1 e3
  have hl : (xs.take k).length = k := by rw [List.length_take]; omega
  have h3 := scalar_close (h1 := h1) (ok := ok) (base := base) (xs := xs.take k) (cap := cap) hok hg hb (by omega) hm hs (by rw [hl, List.map_take, ← ht, List.take_take, Nat.min_eq_left hk])
  rw [hl] at h3
  exact h3
end Go.Proofs.Ytkdgpbcecnmdhaa.P
namespace Go.Proofs.Ytkdgpbcecnmdhaa.P
open Go.RowKit Go.Proofs.YtkdgpbcecnmdhaaW.PrintWords Go.Proofs.YtkdgpbcecnmdhaaW.PrintLast
def slices_Clone_int_int.f (l0 : List Int) : Option (List Int) := if l0.length < 17592186044416 then some l0 else none
theorem slices_Clone_int_int.calls (A0 : Option Addr) (c0 : Nat) (l0 : List Int) (r : List Int) (w : World) (hr0 : Kd.C (Kd.int .i64) w A0 l0.length l0) (hc0 : l0.length ≤ c0) (h : slices_Clone_int_int.f l0 = some r) :
 Calls Try.prog 57 #[.slice A0 l0.length c0] w fun e w' => ∃ v0_ : Value, e = .returned (v0_) ∧ Kd.R (Kd.int .i64) 3 w' w.heap.size (fun _ => True) v0_ r ∧ Below w.heap.size w w' := by
 have hr : l0 = r ∧ l0.length < 17592186044416 := by
  unfold slices_Clone_int_int.f at h
  split at h
  ·exact ⟨by simpa using h, by assumption⟩
  ·simp at h
 obtain ⟨rfl, hlen⟩ := hr
 cases A0 with
 | none =>
  have h0 : l0 = [] := by
   rcases Nat.eq_zero_or_pos l0.length with h1 | h1
   ·exact List.eq_nil_of_length_eq_zero h1
   ·obtain ⟨ad, h2, _⟩ := hr0.2.2 h1
    simp at h2
  subst h0
  refine (Go.Proofs.Try.slices_Clone_int_nil 0 c0 w).mono ?_
  rintro e w' ⟨rfl, rfl⟩
  exact ⟨_, rfl, Kd.R_nil _ _ _ _ _, Below.refl _ _⟩
 | some a =>
  by_cases h0 : l0.length = 0
  ·have h1 : l0 = [] := List.eq_nil_of_length_eq_zero h0
   subst h1
   refine (Go.Proofs.Try.slices_Clone_int_zero a c0 w).mono ?_
   rintro e w' ⟨v', rfl, hown, _, hb⟩
   exact ⟨v', rfl, scalar_R.2 ⟨fun _ _ => trivial, hown⟩, hb⟩
  ·obtain ⟨ad, he, hc⟩ := hr0.2.2 (by omega)
   injection he with he
   subst he
   have hcell : ∀ j, j < l0.length → w.cell? (a.add j) = some (.int .i64 (l0.getD j 0)) := fun j hj => by
    obtain ⟨c, hcl, hp, hcell⟩ := hc j l0[j] (List.getElem?_eq_getElem hj)
    have hc1 : c = [Value.int .i64 l0[j]] := hp
    subst hc1
    have h2 := hcell 0 _ rfl
    rw [Nat.add_zero, show j * (Kd.int .i64).sz = j from Nat.mul_one j] at h2
    rw [h2]
    simp [List.getD_eq_getElem?_getD, hj]
   obtain ⟨b, off, spot⟩ := a
   have hspot : spot = none := by
    have h2 := hcell 0 (by omega)
    cases spot with
    | none => rfl
    | some k =>
     simp only [Addr.add, if_true, World.cell?] at h2
     split at h2 <;> simp at h2
   subst hspot
   refine (Go.Proofs.Try.slices_Clone_int b off l0.length c0 l0 w (Nat.le_refl _) (by omega) (fun j hj => ?_)).mono ?_
   ·rw [← hcell j hj]
    congr 1
    by_cases h1 : j = 0
    ·subst h1
     simp [Addr.add]
    ·simp [Addr.add, h1]
   ·rintro e w' ⟨v', rfl, hown, _, hb⟩
    exact ⟨v', rfl, scalar_R.2 ⟨fun _ _ => trivial, by rw [List.take_length] at hown; exact hown⟩, hb⟩
end Go.Proofs.Ytkdgpbcecnmdhaa.P
namespace Go.Proofs.Ytkdgpbcecnmdhaa.P
open Go.RowKit Go.Proofs.YtkdgpbcecnmdhaaW.PrintWords Go.Proofs.YtkdgpbcecnmdhaaW.PrintLast
def slices_Sort_int_int.f (l0 : List Int) : Option (List Int) := if l0.length < 4611686018427387904 then some (l0.mergeSort fun x y => decide (x ≤ y)) else none
theorem slices_Sort_int_int.calls (P0_ : Nat → Prop) (u9000_ : Value) (l0 : List Int) (r : List Int) (w0 w : World) (hB : Below w0.heap.size w0 w) (ho0 : Kd.R (Kd.int .i64) 3 w w0.heap.size P0_ u9000_ l0) (h : slices_Sort_int_int.f l0 = some r) :
 Calls Try.prog 58 #[u9000_] w fun e w' => e = .returned (.tuple #[]) ∧ Kd.R (Kd.int .i64) 3 w' w0.heap.size (fun k_ => (P0_ k_ ∨ w.heap.size ≤ k_)) u9000_ r ∧ Below w0.heap.size w0 w' ∧ Kept w w' (fun k_ => P0_ k_) := by
 have hr : l0.mergeSort (fun x y => decide (x ≤ y)) = r ∧ l0.length < 4611686018427387904 := by
  unfold slices_Sort_int_int.f at h
  split at h
  ·exact ⟨by simpa using h, by assumption⟩
  ·simp at h
 obtain ⟨rfl, hz⟩ := hr
 rcases scalar_open ho0 with ⟨rfl, rfl⟩ | ⟨g, cap, cur, rfl, hok, hg, hb, hc, hm, hs, ht⟩
 ·refine (Go.Proofs.Try.slices_Sort_int_none none 0 w).mono ?_
  rintro e w' ⟨rfl, rfl⟩
  refine ⟨rfl, ?_, hB, Kept.refl _ _⟩
  rw [show (([] : List Int).mergeSort fun x y => decide (x ≤ y)) = [] by simp]
  exact Kd.R_nil _ _ _ _ _
 ·have hlt : g < w.heap.size := (Array.getElem?_eq_some_iff.1 hb).1
  refine (Go.Proofs.Try.slices_Sort_int g 0 cap l0 w (scalar_holds hb ht) hlt hz).mono ?_
  rintro e w' ⟨rfl, n, os, hw⟩
  exact ⟨rfl, scalar_sorted hB hok hg hb hc hm hs (List.length_mergeSort _) n os w' hw⟩
end Go.Proofs.Ytkdgpbcecnmdhaa.P
namespace Go.Proofs.Ytkdgpbcecnmdhaa.P
open Go.RowKit Go.Proofs.YtkdgpbcecnmdhaaW.PrintWords Go.Proofs.YtkdgpbcecnmdhaaW.PrintLast
def impl_moved.f (l0 : List Int) (a1 : Int) : Option (List Int) := (slices_Clone_int_int.f l0).bind fun t358 => (if 0 ≤ (Int.tmod (wrap64 (a1 + 1)) 3) then (if (Int.tmod (wrap64 (a1 + 1)) 3) < (l0.length : Int) then (if 0 ≤ (Int.tmod (wrap64 (a1 + 2)) 3) then (if (Int.tmod (wrap64 (a1 + 2)) 3) < (l0.length : Int) then (if 0 ≤ a1 then (if a1 < (l0.length : Int) then (if a1 < (t358.length : Int) then ((slices_Sort_int_int.f (t358.set (a1 : Int).toNat (wrap64 ((wrap64 ((wrap64 (3 * (rd l0 (Int.tmod (wrap64 (a1 + 1)) 3)))) * (rd l0 (Int.tmod (wrap64 (a1 + 2)) 3)))) - (rd l0 a1))))).bind fun t365 => (some t365)) else (none)) else (none)) else (none)) else (none)) else (none)) else (none)) else (none))
def impl_moved.T2 : Bool × List (List Nat × List Nat) := (true, [([], []), ([], []), ([], []), ([], []), ([3], [3]), ([4], [4]), ([2, 5], [2, 5]), ([6], [6]), ([7], [7]), ([], []), ([], []), ([10], [10]), ([11], [11]), ([9, 12], [9, 12]), ([13], [13]), ([8, 14], [8, 14]), ([], []), ([], []), ([16, 17], [16, 17]), ([18], [18]), ([15, 19], [15, 19]), ([0, 1, 0, 1, 2, 3, 4, 5, 6, 7, 8, 9, 10, 11, 12, 13, 14, 15, 16, 17, 18, 19, 20], [0, 1]), ([21, 20, 0, 1, 2, 3, 4, 5, 6, 7, 8, 9, 10, 11, 12, 13, 14, 15, 16, 17, 18, 19, 20], [20, 21])])
def impl_moved.B2 : List Nat := [0, 0, 0, 0, 8, 24, 60, 124, 252, 0, 0, 1024, 3072, 7680, 15872, 32764, 0, 0, 196608, 458752, 1048572, 2097151, 4194303]
theorem impl_moved.tab2 : rtab .any (opsOf Try.f44 2) = impl_moved.T2 := by kernel_rfl
theorem impl_moved.bits2 : waitsOk impl_moved.T2.2 impl_moved.B2 = true := by kernel_rfl
set_option maxHeartbeats 8000000 in
set_option maxRecDepth 100000 in
theorem impl_moved.calls (A0 : Option Addr) (c0 : Nat) (l0 : List Int) (a1 : Int) (r : List Int) (w : World) (hr0 : Kd.C (Kd.int .i64) w A0 l0.length l0) (hc0 : l0.length ≤ c0) (h : impl_moved.f l0 a1 = some r) :
  Calls Try.prog 44 #[.slice A0 l0.length c0, .int .i64 a1] w fun e w' => ∃ v0_ : Value, e = .returned (v0_) ∧ Kd.R (Kd.int .i64) 3 w' w.heap.size (fun _ => True) v0_ r ∧ Below w.heap.size w w' := by
 have HR0 := Aside0.mk hr0
 have HC0 := Aside0.mk hc0
 clear hr0 hc0
 have HB := Aside0.mk (Below.refl w.heap.size w)
 have H : ((slices_Clone_int_int.f l0).bind fun t358 => (if 0 ≤ (Int.tmod (wrap64 (a1 + 1)) 3) then (if (Int.tmod (wrap64 (a1 + 1)) 3) < (l0.length : Int) then (if 0 ≤ (Int.tmod (wrap64 (a1 + 2)) 3) then (if (Int.tmod (wrap64 (a1 + 2)) 3) < (l0.length : Int) then (if 0 ≤ a1 then (if a1 < (l0.length : Int) then (if a1 < (t358.length : Int) then ((slices_Sort_int_int.f (t358.set (a1 : Int).toNat (wrap64 ((wrap64 ((wrap64 (3 * (rd l0 (Int.tmod (wrap64 (a1 + 1)) 3)))) * (rd l0 (Int.tmod (wrap64 (a1 + 2)) 3)))) - (rd l0 a1))))).bind fun t365 => (some t365)) else (none)) else (none)) else (none)) else (none)) else (none)) else (none)) else (none))) = some r := h
 clear h
 replace H := Option.bind_eq_some_iff.mp H
 obtain ⟨t358, A30, H⟩ := H
 replace H : (if 0 ≤ (Int.tmod (wrap64 (a1 + 1)) 3) then (if (Int.tmod (wrap64 (a1 + 1)) 3) < (l0.length : Int) then (if 0 ≤ (Int.tmod (wrap64 (a1 + 2)) 3) then (if (Int.tmod (wrap64 (a1 + 2)) 3) < (l0.length : Int) then (if 0 ≤ a1 then (if a1 < (l0.length : Int) then (if a1 < (t358.length : Int) then ((slices_Sort_int_int.f (t358.set (a1 : Int).toNat (wrap64 ((wrap64 ((wrap64 (3 * (rd l0 (Int.tmod (wrap64 (a1 + 1)) 3)))) * (rd l0 (Int.tmod (wrap64 (a1 + 2)) 3)))) - (rd l0 a1))))).bind fun t365 => (some t365)) else (none)) else (none)) else (none)) else (none)) else (none)) else (none)) else (none)) = some r := H
 have A3 := Aside0.mk A30
 clear A30
 obtain ⟨ji4, hji4⟩ : ∃ j_ : Int, (Int.tmod (wrap64 (a1 + 1)) 3) = j_ := ⟨_, rfl⟩
 replace H : (if 0 ≤ (ji4) then (if (ji4) < (l0.length : Int) then (if 0 ≤ (Int.tmod (wrap64 (a1 + 2)) 3) then (if (Int.tmod (wrap64 (a1 + 2)) 3) < (l0.length : Int) then (if 0 ≤ a1 then (if a1 < (l0.length : Int) then (if a1 < (t358.length : Int) then ((slices_Sort_int_int.f (t358.set (a1 : Int).toNat (wrap64 ((wrap64 ((wrap64 (3 * (rd l0 (ji4)))) * (rd l0 (Int.tmod (wrap64 (a1 + 2)) 3)))) - (rd l0 a1))))).bind fun t365 => (some t365)) else (none)) else (none)) else (none)) else (none)) else (none)) else (none)) else (none)) = some r := by first | (rw [hji4] at H; exact H) | (simp only [hji4] at H ⊢; exact H)
 (try rw [hji4] at A3)
 by_cases c5 : 0 ≤ (ji4)
 ·rw [if_pos c5] at H
  have c5b0 : decide (0 ≤ (ji4)) = true := decide_eq_true c5
  clear c5
  by_cases c6 : (ji4) < (l0.length : Int)
  ·rw [if_pos c6] at H
   have c6b0 : decide ((ji4) < (l0.length : Int)) = true := decide_eq_true c6
   clear c6
   obtain ⟨ji7, hji7⟩ : ∃ j_ : Int, (Int.tmod (wrap64 (a1 + 2)) 3) = j_ := ⟨_, rfl⟩
   replace H : (if 0 ≤ (ji7) then (if (ji7) < (l0.length : Int) then (if 0 ≤ a1 then (if a1 < (l0.length : Int) then (if a1 < (t358.length : Int) then ((slices_Sort_int_int.f (t358.set (a1 : Int).toNat (wrap64 ((wrap64 ((wrap64 (3 * (rd l0 (ji4)))) * (rd l0 (ji7)))) - (rd l0 a1))))).bind fun t365 => (some t365)) else (none)) else (none)) else (none)) else (none)) else (none)) = some r := by first | (rw [hji7] at H; exact H) | (simp only [hji7] at H ⊢; exact H)
   (try rw [hji7] at A3)
   by_cases c8 : 0 ≤ (ji7)
   ·rw [if_pos c8] at H
    have c8b0 : decide (0 ≤ (ji7)) = true := decide_eq_true c8
    clear c8
    by_cases c9 : (ji7) < (l0.length : Int)
    ·rw [if_pos c9] at H
     have c9b0 : decide ((ji7) < (l0.length : Int)) = true := decide_eq_true c9
     clear c9
     by_cases c10 : 0 ≤ a1
     ·rw [if_pos c10] at H
      have c10b0 : decide (0 ≤ a1) = true := decide_eq_true c10
      clear c10
      by_cases c11 : a1 < (l0.length : Int)
      ·rw [if_pos c11] at H
       have c11b0 : decide (a1 < (l0.length : Int)) = true := decide_eq_true c11
       clear c11
       by_cases c12 : a1 < (t358.length : Int)
       ·rw [if_pos c12] at H
        have c12b0 : decide (a1 < (t358.length : Int)) = true := decide_eq_true c12
        clear c12
        obtain ⟨y364, hy364⟩ : ∃ y_ : List Int, y_ = (t358.set (a1 : Int).toNat (wrap64 ((wrap64 ((wrap64 (3 * (rd l0 (ji4)))) * (rd l0 (ji7)))) - (rd l0 a1)))) := ⟨_, rfl⟩
        replace H : ((slices_Sort_int_int.f y364).bind fun t365 => (some t365)) = some r := by first | (rw [hy364]; with_reducible exact H) | (have H2_ := (Option.bind_some _ _).symm.trans H; rw [hy364]; with_reducible exact H2_) | (have H2_ := (Option.bind_some _ _).symm.trans H; with_reducible exact H2_) | with_reducible exact H | (rw [hy364]; exact H) | exact H
        have Ny364 := Aside0.mk hy364
        clear hy364
        replace H := Option.bind_eq_some_iff.mp H
        obtain ⟨t365, A140, H⟩ := H
        replace H : (some t365) = some r := H
        have A14 := Aside0.mk A140
        clear A140
        obtain rfl := Option.some.inj H
        go_enter Try.func44, Try.ntmps44
        try go_wp2_with (first | ((with_reducible refine gate_callee (f := 57) rfl ?_); refine goesL_ (some 7) rfl rfl Try.func57 (by kernel_rfl) rfl #[.slice A0 l0.length c0] rfl (by (try simp only [List.map_toArray, List.map_cons, List.map_nil]); first | done | rfl | (simp only [List.length_drop, List.length_take]; rfl)) ?_; (with_reducible refine (slices_Clone_int_int.calls _ _ l0 t358 _ ?side1 ?side2 A3.out).mono ?_); (case side1 => repeat (first | exact HR0.out | (with_reducible refine Kd.C_alloc ?_ _) | (with_reducible refine Kd.C_drewN ?_ _) | (with_reducible refine Kd.C_drew ?_))); (case side2 => exact HC0.out); rintro e w15 ⟨v359, rfl, ho0, hb⟩; refine ⟨_, rfl, ?_⟩; have n0_ := Aside0.mk (Kd.R_lower ho0 (below_size (by repeat (first | (with_reducible first | exact HB.out | apply below_alloc | apply pw_below_drewN | apply below_drew1) | exact HB.out)))); have n1_ := Aside0.mk (below_step (by repeat (first | (with_reducible first | exact HB.out | apply below_alloc | apply pw_below_drewN | apply below_drew1) | exact HB.out)) hb); clear HB; have HO360 := n0_; have HB := n1_; clear n0_ n1_; (try clear hb); (try clear hb2); (try clear hk); (try clear hi); (try clear ho0)))
        have n0_ := Aside0.mk (Kd.R_drew HO360.out)
        have n1_ := Aside0.mk (below_drew1 HB.out)
        clear HO360
        clear HB
        have HO360 := n0_
        have HB := n1_
        clear n0_ n1_
        have p361 : 0 ≤ ((ji4) : Int) := of_decide_eq_true (by first | (with_reducible assumption) | assumption)
        have q361 : (ji4) < (l0.length : Int) := of_decide_eq_true (by first | (with_reducible assumption) | assumption)
        obtain ⟨ad361, e361, hx361_0⟩ := Kd.at_int HR0.out (ji4) p361 q361
        have hw361_0 := hx361_0
        cases e361
        replace hx361_0 := (HB.out.cell (World.block_lt_of_cell? w _ hx361_0)).trans hx361_0
        replace p361 := eq_true p361
        replace q361 := eq_true q361
        have p362 : 0 ≤ ((ji7) : Int) := of_decide_eq_true (by first | (with_reducible assumption) | assumption)
        have q362 : (ji7) < (l0.length : Int) := of_decide_eq_true (by first | (with_reducible assumption) | assumption)
        obtain ⟨ad362, e362, hx362_0⟩ := Kd.at_int HR0.out (ji7) p362 q362
        have hw362_0 := hx362_0
        obtain rfl : ad361 = ad362 := (by injection e362)
        replace hx362_0 := (HB.out.cell (World.block_lt_of_cell? w _ hx362_0)).trans hx362_0
        replace p362 := eq_true p362
        replace q362 := eq_true q362
        have p363 : 0 ≤ (a1 : Int) := of_decide_eq_true (by first | (with_reducible assumption) | assumption)
        have q363 : a1 < (l0.length : Int) := of_decide_eq_true (by first | (with_reducible assumption) | assumption)
        obtain ⟨ad363, e363, hx363_0⟩ := Kd.at_int HR0.out a1 p363 q363
        have hw363_0 := hx363_0
        obtain rfl : ad361 = ad363 := (by injection e363)
        replace hx363_0 := (HB.out.cell (World.block_lt_of_cell? w _ hx363_0)).trans hx363_0
        replace p363 := eq_true p363
        replace q363 := eq_true q363
        have p13 : 0 ≤ (a1 : Int) := of_decide_eq_true (by first | (with_reducible assumption) | assumption)
        have q13 : (a1 : Int) < ((t358.length : Int) : Int) := of_decide_eq_true (by first | (with_reducible assumption) | assumption)
        obtain ⟨go13, co13, eo13, gb13, gl13, cl13, HG13⟩ := Kd.R_form HO360.out (by omega)
        (first | cases eo13 | (injection eo13 with ea_ en_ ec_; (first | subst ea_ | (injection ea_ with ea_; subst ea_)); subst ec_; clear en_))
        have GB13 := Aside0.mk gb13
        have GG13 := Aside0.mk HG13
        clear gb13 gl13 HG13
        obtain ⟨hx13_0, hf13_0⟩ := Kd.R_celln 0 HO360.out (a1 : Int) p13 q13
        replace p13 := eq_true p13
        replace q13 := eq_true q13
        have HP17 := Kd.R_putn HO360.out (a1 : Int) (wrap64 ((wrap64 ((wrap64 (3 * (rd l0 (ji4)))) * (rd l0 (ji7)))) - (rd l0 a1)))
        rw [← Ny364.out] at HP17
        have HQ17 := Aside0.mk HP17
        clear HP17
        refine start_ (n := 23) (S := fun w' => w'.cell? (ad361.add ((ji4)).toNat) = some (.int .i64 (rd l0 (ji4))) ∧ w'.cell? (ad361.add ((ji7)).toNat) = some (.int .i64 (rd l0 (ji7))) ∧ w'.cell? (ad361.add (a1).toNat) = some (.int .i64 (rd l0 a1))) (ds := [22]) #[false, false, false, false, false, false, false, false, false, false, false, false, false, false, false, false, false, false, false, false, false, false, false] (by kernel_rfl) rfl rfl ⟨((HB.out.cell (World.block_lt_of_cell? w _ hw361_0)).trans hw361_0), ((HB.out.cell (World.block_lt_of_cell? w _ hw362_0)).trans hw362_0), ((HB.out.cell (World.block_lt_of_cell? w _ hw363_0)).trans hw363_0)⟩ (fun hHeld => ?_); refine with_tabW impl_moved.tab2 impl_moved.bits2 (fun HT_ HW_ => ?_)
        generalize w15.drew = w16 at HO360 HB GG13 HQ17 hf13_0 hx13_0 hx361_0 hx362_0 hx363_0 hHeld ⊢
        refine pure_ (i := 0) (N := some 8) (v := ?_) (a' := ?_) #[true, false, false, false, false, false, false, false, false, false, false, false, false, false, false, false, false, false, false, false, false, false, false] rfl rfl (any_of HT_.out (by kernel_rfl)) (fun _ _ _ h => h) (Or.inl ⟨by rfl, ?_⟩) ?_ ?_
        rotate_left
        ·intro w'
         go_simp
         with_reducible rfl
        rotate_left
        ·simp only [Act.put, List.setIfInBounds_toArray, List.set_cons_zero, List.set_cons_succ, i64_w, i32_w]
         rfl
        refine pure_ (i := 1) (N := some 9) (v := ?_) (a' := ?_) #[true, true, false, false, false, false, false, false, false, false, false, false, false, false, false, false, false, false, false, false, false, false, false] rfl rfl (any_of HT_.out (by kernel_rfl)) (fun _ _ _ h => h) (Or.inl ⟨by rfl, ?_⟩) ?_ ?_
        rotate_left
        ·intro w'
         go_simp
         with_reducible rfl
        rotate_left
        ·simp only [Act.put, List.setIfInBounds_toArray, List.set_cons_zero, List.set_cons_succ, i64_w, i32_w]
         rfl
        refine pure_ (i := 2) (N := some 10) (v := ?_) (a' := ?_) #[true, true, true, false, false, false, false, false, false, false, false, false, false, false, false, false, false, false, false, false, false, false, false] rfl rfl (any_of HT_.out (by kernel_rfl)) (fun _ _ _ h => h) (Or.inl ⟨by rfl, ?_⟩) ?_ ?_
        rotate_left
        ·intro w'
         go_simp
         with_reducible rfl
        rotate_left
        ·simp only [Act.put, List.setIfInBounds_toArray, List.set_cons_zero, List.set_cons_succ, i64_w, i32_w]
         rfl
        refine pure_ (i := 3) (N := some 11) (v := ?_) (a' := ?_) #[true, true, true, true, false, false, false, false, false, false, false, false, false, false, false, false, false, false, false, false, false, false, false] rfl rfl (any_of HT_.out (by kernel_rfl)) (fun _ _ _ h => h) (Or.inl ⟨by rfl, ?_⟩) ?_ ?_
        rotate_left
        ·intro w'
         go_simp
         with_reducible rfl
        rotate_left
        ·simp only [Act.put, List.setIfInBounds_toArray, List.set_cons_zero, List.set_cons_succ, i64_w, i32_w]
         rfl
        refine pure_ (i := 4) (N := some 12) (v := ?_) (a' := ?_) #[true, true, true, true, true, false, false, false, false, false, false, false, false, false, false, false, false, false, false, false, false, false, false] rfl rfl (any_of HT_.out (by kernel_rfl)) (fun _ _ _ h => h) (Or.inl ⟨by rfl, ?_⟩) ?_ ?_
        rotate_left
        ·intro w'
         go_simp
         with_reducible rfl
        rotate_left
        ·simp only [Act.put, List.setIfInBounds_toArray, List.set_cons_zero, List.set_cons_succ, i64_w, i32_w]
         rfl
        refine pure_ (i := 5) (N := some 13) (v := ?_) (a' := ?_) #[true, true, true, true, true, true, false, false, false, false, false, false, false, false, false, false, false, false, false, false, false, false, false] rfl rfl (any_of HT_.out (by kernel_rfl)) (fun _ _ _ h => h) (Or.inl ⟨by rfl, ?_⟩) ?_ ?_
        rotate_left
        ·intro w'
         go_simp
         with_reducible rfl
        rotate_left
        ·simp only [Act.put, List.setIfInBounds_toArray, List.set_cons_zero, List.set_cons_succ, i64_w, i32_w]
         rfl
        refine pure_ (i := 6) (N := some 14) (v := ?_) (a' := ?_) #[true, true, true, true, true, true, true, false, false, false, false, false, false, false, false, false, false, false, false, false, false, false, false] rfl rfl (any_of HT_.out (by kernel_rfl)) (fun _ _ _ h => h) (Or.inl ⟨by rfl, ?_⟩) ?_ ?_
        rotate_left
        ·intro w'
         go_simp
         with_reducible rfl
        rotate_left
        ·simp only [Act.put, List.setIfInBounds_toArray, List.set_cons_zero, List.set_cons_succ, i64_w, i32_w]
         rfl
        refine pure_ (i := 9) (N := some 17) (v := ?_) (a' := ?_) #[true, true, true, true, true, true, true, false, false, true, false, false, false, false, false, false, false, false, false, false, false, false, false] rfl rfl (any_of HT_.out (by kernel_rfl)) (fun _ _ _ h => h) (Or.inl ⟨by rfl, ?_⟩) ?_ ?_
        rotate_left
        ·intro w'
         go_simp
         with_reducible rfl
        rotate_left
        ·simp only [Act.put, List.setIfInBounds_toArray, List.set_cons_zero, List.set_cons_succ, i64_w, i32_w]
         rfl
        refine pure_ (i := 10) (N := some 18) (v := ?_) (a' := ?_) #[true, true, true, true, true, true, true, false, false, true, true, false, false, false, false, false, false, false, false, false, false, false, false] rfl rfl (any_of HT_.out (by kernel_rfl)) (fun _ _ _ h => h) (Or.inl ⟨by rfl, ?_⟩) ?_ ?_
        rotate_left
        ·intro w'
         go_simp
         with_reducible rfl
        rotate_left
        ·simp only [Act.put, List.setIfInBounds_toArray, List.set_cons_zero, List.set_cons_succ, i64_w, i32_w]
         rfl
        refine pure_ (i := 11) (N := some 19) (v := ?_) (a' := ?_) #[true, true, true, true, true, true, true, false, false, true, true, true, false, false, false, false, false, false, false, false, false, false, false] rfl rfl (any_of HT_.out (by kernel_rfl)) (fun _ _ _ h => h) (Or.inl ⟨by rfl, ?_⟩) ?_ ?_
        rotate_left
        ·intro w'
         go_simp
         with_reducible rfl
        rotate_left
        ·simp only [Act.put, List.setIfInBounds_toArray, List.set_cons_zero, List.set_cons_succ, i64_w, i32_w]
         rfl
        refine pure_ (i := 12) (N := some 20) (v := ?_) (a' := ?_) #[true, true, true, true, true, true, true, false, false, true, true, true, true, false, false, false, false, false, false, false, false, false, false] rfl rfl (any_of HT_.out (by kernel_rfl)) (fun _ _ _ h => h) (Or.inl ⟨by rfl, ?_⟩) ?_ ?_
        rotate_left
        ·intro w'
         go_simp
         with_reducible rfl
        rotate_left
        ·simp only [Act.put, List.setIfInBounds_toArray, List.set_cons_zero, List.set_cons_succ, i64_w, i32_w]
         rfl
        refine pure_ (i := 13) (N := some 21) (v := ?_) (a' := ?_) #[true, true, true, true, true, true, true, false, false, true, true, true, true, true, false, false, false, false, false, false, false, false, false] rfl rfl (any_of HT_.out (by kernel_rfl)) (fun _ _ _ h => h) (Or.inl ⟨by rfl, ?_⟩) ?_ ?_
        rotate_left
        ·intro w'
         go_simp
         with_reducible rfl
        rotate_left
        ·simp only [Act.put, List.setIfInBounds_toArray, List.set_cons_zero, List.set_cons_succ, i64_w, i32_w]
         rfl
        refine pure_ (i := 16) (N := some 24) (v := ?_) (a' := ?_) #[true, true, true, true, true, true, true, false, false, true, true, true, true, true, false, false, true, false, false, false, false, false, false] rfl rfl (any_of HT_.out (by kernel_rfl)) (fun _ _ _ h => h) (Or.inl ⟨by rfl, ?_⟩) ?_ ?_
        rotate_left
        ·intro w'
         go_simp
         with_reducible rfl
        rotate_left
        ·simp only [Act.put, List.setIfInBounds_toArray, List.set_cons_zero, List.set_cons_succ, i64_w, i32_w]
         rfl
        refine pure_ (i := 17) (N := some 25) (v := ?_) (a' := ?_) #[true, true, true, true, true, true, true, false, false, true, true, true, true, true, false, false, true, true, false, false, false, false, false] rfl rfl (any_of HT_.out (by kernel_rfl)) (fun _ _ _ h => h) (Or.inl ⟨by rfl, ?_⟩) ?_ ?_
        rotate_left
        ·intro w'
         go_simp
         with_reducible rfl
        rotate_left
        ·simp only [Act.put, List.setIfInBounds_toArray, List.set_cons_zero, List.set_cons_succ, i64_w, i32_w]
         rfl
        refine pure_ (i := 18) (N := some 26) (v := ?_) (a' := ?_) #[true, true, true, true, true, true, true, false, false, true, true, true, true, true, false, false, true, true, true, false, false, false, false] rfl rfl (any_of HT_.out (by kernel_rfl)) (fun _ _ _ h => h) (Or.inl ⟨by rfl, ?_⟩) ?_ ?_
        rotate_left
        ·intro w'
         go_simp
         with_reducible rfl
        rotate_left
        ·simp only [Act.put, List.setIfInBounds_toArray, List.set_cons_zero, List.set_cons_succ, i64_w, i32_w]
         rfl
        refine take_ (i := 7) (N := some 15) (v := ?_) (a' := ?_) #[true, true, true, true, true, true, true, true, false, true, true, true, true, true, false, false, true, true, true, false, false, false, false] rfl rfl (take_ofW HT_.out HW_.out (by kernel_rfl)) (fun _ _ _ h => h) (Or.inl ⟨by rfl, ?_⟩) hHeld ?_ ?_
        rotate_left
        ·rintro w' ⟨s0, s1, s2⟩
         go_simp
         with_reducible rfl
        rotate_left
        ·simp only [Act.put, List.setIfInBounds_toArray, List.set_cons_zero, List.set_cons_succ, i64_w, i32_w]
         rfl
        refine pure_ (i := 8) (N := some 16) (v := ?_) (a' := ?_) #[true, true, true, true, true, true, true, true, true, true, true, true, true, true, false, false, true, true, true, false, false, false, false] rfl rfl (any_of HT_.out (by kernel_rfl)) (fun _ _ _ h => h) (Or.inl ⟨by rfl, ?_⟩) ?_ ?_
        rotate_left
        ·intro w'
         go_simp
         with_reducible rfl
        rotate_left
        ·simp only [Act.put, List.setIfInBounds_toArray, List.set_cons_zero, List.set_cons_succ, i64_w, i32_w]
         rfl
        refine take_ (i := 14) (N := some 22) (v := ?_) (a' := ?_) #[true, true, true, true, true, true, true, true, true, true, true, true, true, true, true, false, true, true, true, false, false, false, false] rfl rfl (take_ofW HT_.out HW_.out (by kernel_rfl)) (fun _ _ _ h => h) (Or.inl ⟨by rfl, ?_⟩) hHeld ?_ ?_
        rotate_left
        ·rintro w' ⟨s0, s1, s2⟩
         go_simp
         with_reducible rfl
        rotate_left
        ·simp only [Act.put, List.setIfInBounds_toArray, List.set_cons_zero, List.set_cons_succ, i64_w, i32_w]
         rfl
        refine pure_ (i := 15) (N := some 23) (v := ?_) (a' := ?_) #[true, true, true, true, true, true, true, true, true, true, true, true, true, true, true, true, true, true, true, false, false, false, false] rfl rfl (any_of HT_.out (by kernel_rfl)) (fun _ _ _ h => h) (Or.inl ⟨by rfl, ?_⟩) ?_ ?_
        rotate_left
        ·intro w'
         go_simp
         with_reducible rfl
        rotate_left
        ·simp only [Act.put, List.setIfInBounds_toArray, List.set_cons_zero, List.set_cons_succ, i64_w, i32_w]
         rfl
        refine take_ (i := 19) (N := some 27) (v := ?_) (a' := ?_) #[true, true, true, true, true, true, true, true, true, true, true, true, true, true, true, true, true, true, true, true, false, false, false] rfl rfl (take_ofW HT_.out HW_.out (by kernel_rfl)) (fun _ _ _ h => h) (Or.inl ⟨by rfl, ?_⟩) hHeld ?_ ?_
        rotate_left
        ·rintro w' ⟨s0, s1, s2⟩
         go_simp
         with_reducible rfl
        rotate_left
        ·simp only [Act.put, List.setIfInBounds_toArray, List.set_cons_zero, List.set_cons_succ, i64_w, i32_w]
         rfl
        refine pure_ (i := 20) (N := some 28) (v := ?_) (a' := ?_) #[true, true, true, true, true, true, true, true, true, true, true, true, true, true, true, true, true, true, true, true, true, false, false] rfl rfl (any_of HT_.out (by kernel_rfl)) (fun _ _ _ h => h) (Or.inl ⟨by rfl, ?_⟩) ?_ ?_
        rotate_left
        ·intro w'
         go_simp
         with_reducible rfl
        rotate_left
        ·simp only [Act.put, List.setIfInBounds_toArray, List.set_cons_zero, List.set_cons_succ, i64_w, i32_w]
         rfl
        refine pure_ (i := 21) (N := some 29) (v := ?_) (a' := ?_) #[true, true, true, true, true, true, true, true, true, true, true, true, true, true, true, true, true, true, true, true, true, true, false] rfl rfl (any_of HT_.out (by kernel_rfl)) (fun _ _ _ h => h) (Or.inl ⟨by rfl, ?_⟩) ?_ ?_
        rotate_left
        ·intro w'
         go_simp
         with_reducible rfl
        rotate_left
        ·simp only [Act.put, List.setIfInBounds_toArray, List.set_cons_zero, List.set_cons_succ, i64_w, i32_w]
         rfl
        refine last_ (i := 22) (N := none) #[true, true, true, true, true, true, true, true, true, true, true, true, true, true, true, true, true, true, true, true, true, true, true] rfl rfl (one_of HT_.out (by kernel_rfl)) (by decide) (fun K hK => ?_)
        refine skip_ (w1 := ?_) (by rfl) rfl ?_ ?_
        rotate_left
        ·go_simp
         rfl
        refine hK.out _ _ ?_
        clear hK K
        refine done_ (done_of HT_.out (by kernel_rfl)) ?_
        have n0_ : Aside0 (Kd.R (Kd.int .i64) 3 (w16.setCell ⟨go13, (a1 : Int).toNat, none⟩ (.int .i64 (wrap64 ((wrap64 ((wrap64 (3 * (rd l0 (ji4)))) * (rd l0 (ji7)))) - (rd l0 a1))))) w.heap.size (fun _ => True) (.slice (some ⟨go13, 0, none⟩) t358.length co13) y364) := ⟨by (with_reducible repeat (first | apply Kd.R_alloc | apply Kd.R_drewN | apply Kd.R_drew)); exact HQ17.out⟩
        have n1_ : Aside0 (Below w.heap.size w (w16.setCell ⟨go13, (a1 : Int).toNat, none⟩ (.int .i64 (wrap64 ((wrap64 ((wrap64 (3 * (rd l0 (ji4)))) * (rd l0 (ji7)))) - (rd l0 a1)))))) := ⟨by repeat (first | (with_reducible first | exact HB.out | apply below_alloc | apply pw_below_drewN | apply below_drew1 | refine below_set ?_ GB13.out) | exact HB.out)⟩
        (try clear HO360)
        (try clear HB)
        generalize (w16.setCell ⟨go13, (a1 : Int).toNat, none⟩ (.int .i64 (wrap64 ((wrap64 ((wrap64 (3 * (rd l0 (ji4)))) * (rd l0 (ji7)))) - (rd l0 a1))))) = w18 at n0_ n1_ ⊢
        have HO360 := n0_
        have HB := n1_
        clear n0_ n1_
        try go_wp2_with (first | ((with_reducible refine gate_callee (f := 58) rfl ?_); refine goesL_ (some 31) rfl rfl Try.func58 (by kernel_rfl) rfl #[.slice (some ⟨go13, 0, none⟩) t358.length co13] rfl (by (try simp only [List.map_toArray, List.map_cons, List.map_nil]); first | done | rfl | (simp only [List.length_drop, List.length_take]; rfl)) ?_; (with_reducible refine (slices_Sort_int_int.calls (fun k_ => some k_ = (.slice (some ⟨go13, 0, none⟩) t358.length co13 : Value).ownBlock) (.slice (some ⟨go13, 0, none⟩) t358.length co13) y364 t365 w _ ?side1 ?side2 A14.out).mono ?_); (case side1 => repeat (first | (with_reducible first | exact HB.out | apply below_alloc | apply pw_below_drewN | apply below_drew1) | exact HB.out)); (case side2 => exact Kd.R_tight rfl HO360.out); rintro e w19 ⟨rfl, hy0, hb, hkp⟩; refine ⟨_, rfl, ?_⟩; have n0_ := Aside0.mk (Kd.R_reok rfl hy0 (fun k_ e_ => HO360.out.1 k_ e_)); have n1_ := Aside0.mk (hb); clear HO360; clear HB; have HO360 := n0_; have HB := n1_; clear n0_ n1_; (try clear hb); (try clear hkp); (try clear hy0)))
        go_ret
        exact ⟨_, by first | rfl | (simp [errW_none, errW_some] <;> rfl) | (simp only [← hji4, ← hji7]; first | rfl | (simp [errW_none, errW_some] <;> rfl)) | (simp [*, errW_none, errW_some] <;> rfl), by (with_reducible repeat (first | apply Kd.R_alloc | apply Kd.R_drewN | apply Kd.R_drew)); exact HO360.out, by repeat (first | (with_reducible first | exact HB.out | apply below_alloc | apply pw_below_drewN | apply below_drew1) | exact HB.out)⟩
       ·rw [if_neg c12] at H
        exact absurd H (by simp)
      ·rw [if_neg c11] at H
       exact absurd H (by simp)
     ·rw [if_neg c10] at H
      exact absurd H (by simp)
    ·rw [if_neg c9] at H
     exact absurd H (by simp)
   ·rw [if_neg c8] at H
    exact absurd H (by simp)
  ·rw [if_neg c6] at H
   exact absurd H (by simp)
 ·rw [if_neg c5] at H
  exact absurd H (by simp)
end Go.Proofs.Ytkdgpbcecnmdhaa.P
namespace Go.Proofs.Ytkdgpbcecnmdhaa.P
open Go.RowKit Go.Proofs.YtkdgpbcecnmdhaaW.PrintWords Go.Proofs.YtkdgpbcecnmdhaaW.PrintLast
theorem compact_length (zs : List Int) : (Go.Lib.compact zs).length ≤ zs.length := by
 unfold Go.Lib.compact Go.Lib.compactUpTo
 rw [List.length_map]
 exact Nat.le_trans (List.length_filter_le _ _) (by simp)
def slices_Compact_int_int.f (l0 : List Int) : Option (List Int) := some (Go.Lib.compact l0)
theorem slices_Compact_int_int.calls (P0_ : Nat → Prop) (u9000_ : Value) (l0 : List Int) (r : List Int) (w0 w : World) (hB : Below w0.heap.size w0 w) (ho0 : Kd.R (Kd.int .i64) 3 w w0.heap.size P0_ u9000_ l0) (h : slices_Compact_int_int.f l0 = some r) :
 Calls Try.prog 36 #[u9000_] w fun e w' => ∃ v0_ : Value, e = .returned (v0_) ∧ Kd.R (Kd.int .i64) 3 w' w0.heap.size (fun k_ => (P0_ k_ ∨ w.heap.size ≤ k_)) v0_ r ∧ Below w0.heap.size w0 w' ∧ Kept w w' (fun k_ => P0_ k_) := by
 have hr : Go.Lib.compact l0 = r := by simpa [slices_Compact_int_int.f] using h
 subst hr
 rcases scalar_open ho0 with ⟨rfl, rfl⟩ | ⟨g, cap, cur, rfl, hok, hg, hb, hc, hm, hs, ht⟩
 ·refine (Go.Proofs.Try.slices_Compact_int_empty none 0 w).mono ?_
  rintro e w' ⟨rfl, rfl⟩
  refine ⟨_, rfl, ?_, hB, Kept.refl _ _⟩
  rw [show Go.Lib.compact ([] : List Int) = [] by simp [Go.Lib.compact, Go.Lib.compactUpTo]]
  exact Kd.R_nil _ _ _ _ _
 ·have hC := Go.Proofs.Try.slices_Compact_int g 0 cap l0 w (scalar_holds hb ht) (by have : cap ≤ maxLen := hm; simp only [maxLen] at this; omega) hc
  have hcl := compact_length l0
  refine hC.mono ?_
  rintro e w' ⟨rfl, q, hw⟩
  have hS := scalar_sorted (enc := Value.int .i64) (h1 := fun _ => rfl) (xs := l0) (ys := Go.Lib.compact l0 ++ List.replicate (l0.length - (Go.Lib.compact l0).length) 0) (cap := cap) hB hok hg hb hc hm hs (by rw [List.length_append, List.length_replicate]; omega) q #[] w' (by rw [Go.Sort.grow_empty]; exact hw)
  have hT := scalar_take hS.1 (Go.Lib.compact l0).length (by rw [List.length_append]; omega)
  rw [List.take_left' rfl] at hT
  exact ⟨_, rfl, hT, hS.2⟩
end Go.Proofs.Ytkdgpbcecnmdhaa.P
namespace Go.Proofs.Ytkdgpbcecnmdhaa.P
open Go.RowKit Go.Proofs.YtkdgpbcecnmdhaaW.PrintWords Go.Proofs.YtkdgpbcecnmdhaaW.PrintLast
def impl_MarkovDown.f (k : Nat) (l0 : List Int) : Option (List Int × Bool) := (impl_IsMarkov.f k l0).bind fun t366 => (if t366 = true then (if 2 < (l0.length : Int) then (if (rd l0 2) = 1 then (some (([] : List Int), false)) else ((impl_moved.f l0 2).bind fun t368 => (some (t368, true)))) else (none)) else (some (([] : List Int), false)))
theorem impl_MarkovDown.mono : ∀ a0 k, LeO (impl_MarkovDown.f k a0) (impl_MarkovDown.f (k + 1) a0) := by
 intro a0 k
 unfold impl_MarkovDown.f
 repeat' first
   | (with_reducible exact impl_IsMarkov.mono _ _)
   | (with_reducible exact LeO.refl _)
   | (with_reducible exact LeO.none _)
   | (with_reducible refine LeO.ite ?_ ?_)
   | (with_reducible refine LeO.bind ?_ (fun _ => ?_))
   | exact impl_IsMarkov.mono _ _
   | exact LeO.none _
   | refine LeO.ite ?_ ?_
   | refine LeO.bind ?_ (fun _ => ?_)
set_option maxHeartbeats 8000000 in
set_option maxRecDepth 100000 in
theorem impl_MarkovDown.calls (k : Nat) (A0 : Option Addr) (c0 : Nat) (l0 : List Int) (r1 : List Int) (r2 : Bool) (w : World) (hr0 : Kd.C (Kd.int .i64) w A0 l0.length l0) (hc0 : l0.length ≤ c0) (h : impl_MarkovDown.f k l0 = some (r1, r2)) :
  Calls Try.prog 28 #[.slice A0 l0.length c0] w fun e w' => ∃ v0_ : Value, e = .returned (.tuple #[v0_, .bool r2]) ∧ Kd.R (Kd.int .i64) 3 w' w.heap.size (fun _ => True) v0_ r1 ∧ Below w.heap.size w w' := by
 have HR0 := Aside0.mk hr0
 have HC0 := Aside0.mk hc0
 clear hr0 hc0
 have HB := Aside0.mk (Below.refl w.heap.size w)
 have H : ((impl_IsMarkov.f k l0).bind fun t366 => (if t366 = true then (if 2 < (l0.length : Int) then (if (rd l0 2) = 1 then (some (([] : List Int), false)) else ((impl_moved.f l0 2).bind fun t368 => (some (t368, true)))) else (none)) else (some (([] : List Int), false)))) = some (r1, r2) := h
 clear h
 replace H := Option.bind_eq_some_iff.mp H
 obtain ⟨t366, A20, H⟩ := H
 replace H : (if t366 = true then (if 2 < (l0.length : Int) then (if (rd l0 2) = 1 then (some (([] : List Int), false)) else ((impl_moved.f l0 2).bind fun t368 => (some (t368, true)))) else (none)) else (some (([] : List Int), false))) = some (r1, r2) := H
 have A2 := Aside0.mk A20
 clear A20
 by_cases c3 : t366 = true
 ·subst c3
  have H1 : (if 2 < (l0.length : Int) then (if (rd l0 2) = 1 then (some (([] : List Int), false)) else ((impl_moved.f l0 2).bind fun t368 => (some (t368, true)))) else (none)) = some (r1, r2) := by rw [if_pos rfl] at H; exact H
  clear H
  have H := H1
  clear H1
  by_cases c4 : 2 < (l0.length : Int)
  ·rw [if_pos c4] at H
   have c4b0 : decide (2 < (l0.length : Int)) = true := decide_eq_true c4
   have c4b1 : decide (2 < l0.length) = true := decide_eq_true (by omega)
   clear c4
   by_cases c5 : (rd l0 2) = 1
   ·rw [if_pos c5] at H
    have c5b0 : ((rd l0 2) == 1) = true := beq_iff_eq.mpr c5
    have c5b1 : ((rd l0 2) != 1) = false := bne_eq_false_iff_eq.mpr c5
    clear c5
    simp only [Option.some.injEq, Prod.mk.injEq] at H
    obtain ⟨rfl, rfl⟩ := H
    go_enter Try.func28, Try.ntmps28
    go_wp2_with (first | ((with_reducible refine gate_callee (f := 26) rfl ?_); refine goesL_ (some 5) rfl rfl Try.func26 (by kernel_rfl) rfl #[.slice A0 l0.length c0] rfl (by (try simp only [List.map_toArray, List.map_cons, List.map_nil]); first | done | rfl | (simp only [List.length_drop, List.length_take]; rfl)) ?_; (with_reducible refine (impl_IsMarkov.calls k _ _ l0 true _ ?side1 ?side2 A2.out).mono ?_); (case side1 => repeat (first | exact HR0.out | (with_reducible refine Kd.C_alloc ?_ _) | (with_reducible refine Kd.C_drewN ?_ _) | (with_reducible refine Kd.C_drew ?_))); (case side2 => exact HC0.out); rintro e w6 ⟨rfl, hb⟩; refine ⟨_, rfl, ?_⟩; have n0_ := Aside0.mk (below_step (by repeat (first | (with_reducible first | exact HB.out | apply below_alloc | apply pw_below_drewN | apply below_drew1) | exact HB.out)) hb); clear HB; have HB := n0_; clear n0_; (try clear hb); (try clear hb2); (try clear hk); (try clear hi); have p367 : 0 ≤ (2 : Int) := (by omega); have q367 : 2 < (l0.length : Int) := of_decide_eq_true (by first | (with_reducible assumption) | assumption); obtain ⟨ad367, e367, hx367_0⟩ := Kd.at_int HR0.out 2 p367 q367; cases e367; (try simp only [show (2 : Int).toNat = 2 from rfl, Nat.reduceMul, Nat.reduceEqDiff, Go.Addr.add, ↓reduceIte] at hx367_0); have qi367 : (2 < l0.length) = True := eq_true (by omega); (try rw [show ((2 : Int)).toNat = 2 from rfl] at hx367_0); replace hx367_0 := (HB.out.cell (World.block_lt_of_cell? w _ hx367_0)).trans hx367_0; replace p367 := eq_true p367; replace q367 := eq_true q367))
    go_ret2
    exact ⟨_, by first | rfl | (simp [errW_none, errW_some] <;> rfl) | (simp [*, errW_none, errW_some] <;> rfl), by first | exact Kd.R_nil _ _ _ _ _ | exact Kd.N_nil _ _ _ _ _ | exact Kd.V_nil _ _ _ _ _ | exact Kd.Q_nil _ _ _ _ _ | exact Kd.S_nil _ _ _ _ _, by repeat (first | (with_reducible first | exact HB.out | apply below_alloc | apply pw_below_drewN | apply below_drew1) | exact HB.out)⟩
   ·rw [if_neg c5] at H
    have c5b0 : ((rd l0 2) == 1) = false := beq_eq_false_iff_ne.mpr c5
    have c5b1 : ((rd l0 2) != 1) = true := bne_iff_ne.mpr c5
    replace H := Option.bind_eq_some_iff.mp H
    obtain ⟨t368, A70, H⟩ := H
    replace H : (some (t368, true)) = some (r1, r2) := H
    have A7 := Aside0.mk A70
    clear A70
    simp only [Option.some.injEq, Prod.mk.injEq] at H
    obtain ⟨rfl, rfl⟩ := H
    go_enter Try.func28, Try.ntmps28
    go_wp2_with (first | ((with_reducible refine gate_callee (f := 26) rfl ?_); refine goesL_ (some 5) rfl rfl Try.func26 (by kernel_rfl) rfl #[.slice A0 l0.length c0] rfl (by (try simp only [List.map_toArray, List.map_cons, List.map_nil]); first | done | rfl | (simp only [List.length_drop, List.length_take]; rfl)) ?_; (with_reducible refine (impl_IsMarkov.calls k _ _ l0 true _ ?side1 ?side2 A2.out).mono ?_); (case side1 => repeat (first | exact HR0.out | (with_reducible refine Kd.C_alloc ?_ _) | (with_reducible refine Kd.C_drewN ?_ _) | (with_reducible refine Kd.C_drew ?_))); (case side2 => exact HC0.out); rintro e w8 ⟨rfl, hb⟩; refine ⟨_, rfl, ?_⟩; have n0_ := Aside0.mk (below_step (by repeat (first | (with_reducible first | exact HB.out | apply below_alloc | apply pw_below_drewN | apply below_drew1) | exact HB.out)) hb); clear HB; have HB := n0_; clear n0_; (try clear hb); (try clear hb2); (try clear hk); (try clear hi); have p367 : 0 ≤ (2 : Int) := (by omega); have q367 : 2 < (l0.length : Int) := of_decide_eq_true (by first | (with_reducible assumption) | assumption); obtain ⟨ad367, e367, hx367_0⟩ := Kd.at_int HR0.out 2 p367 q367; cases e367; (try simp only [show (2 : Int).toNat = 2 from rfl, Nat.reduceMul, Nat.reduceEqDiff, Go.Addr.add, ↓reduceIte] at hx367_0); have qi367 : (2 < l0.length) = True := eq_true (by omega); (try rw [show ((2 : Int)).toNat = 2 from rfl] at hx367_0); replace hx367_0 := (HB.out.cell (World.block_lt_of_cell? w _ hx367_0)).trans hx367_0; replace p367 := eq_true p367; replace q367 := eq_true q367) | ((with_reducible refine gate_callee (f := 44) rfl ?_); refine goesL_ (some 14) rfl rfl Try.func44 (by kernel_rfl) rfl #[.slice (some ad367) l0.length c0, .int .i64 2] rfl (by (try simp only [List.map_toArray, List.map_cons, List.map_nil]); first | done | rfl | (simp only [List.length_drop, List.length_take]; rfl)) ?_; (with_reducible refine (impl_moved.calls _ _ l0 2 t368 _ ?side1 ?side2 A7.out).mono ?_); (case side1 => repeat (first | exact (Kd.C_below HR0.out HB.out) | (with_reducible refine Kd.C_alloc ?_ _) | (with_reducible refine Kd.C_drewN ?_ _) | (with_reducible refine Kd.C_drew ?_))); (case side2 => exact HC0.out); rintro e w9 ⟨v369, rfl, ho0, hb⟩; refine ⟨_, rfl, ?_⟩; have n0_ := Aside0.mk (Kd.R_lower ho0 (below_size (by repeat (first | (with_reducible first | exact HB.out | apply below_alloc | apply pw_below_drewN | apply below_drew1) | exact HB.out)))); have n1_ := Aside0.mk (below_step (by repeat (first | (with_reducible first | exact HB.out | apply below_alloc | apply pw_below_drewN | apply below_drew1) | exact HB.out)) hb); clear HB; have HO370 := n0_; have HB := n1_; clear n0_ n1_; (try clear hb); (try clear hb2); (try clear hk); (try clear hi); (try clear ho0)))
    go_ret2
    exact ⟨_, by first | rfl | (simp [errW_none, errW_some] <;> rfl) | (simp [*, errW_none, errW_some] <;> rfl), by (with_reducible repeat (first | apply Kd.R_alloc | apply Kd.R_drewN | apply Kd.R_drew)); exact HO370.out, by repeat (first | (with_reducible first | exact HB.out | apply below_alloc | apply pw_below_drewN | apply below_drew1) | exact HB.out)⟩
  ·rw [if_neg c4] at H
   exact absurd H (by simp)
 ·replace c3 := Bool.eq_false_iff.mpr c3
  subst c3
  have H1 : (some (([] : List Int), false)) = some (r1, r2) := by rw [if_neg (show ¬ (false = true) by decide)] at H; exact H
  clear H
  have H := H1
  clear H1
  simp only [Option.some.injEq, Prod.mk.injEq] at H
  obtain ⟨rfl, rfl⟩ := H
  go_enter Try.func28, Try.ntmps28
  go_wp2_with (first | ((with_reducible refine gate_callee (f := 26) rfl ?_); refine goesL_ (some 5) rfl rfl Try.func26 (by kernel_rfl) rfl #[.slice A0 l0.length c0] rfl (by (try simp only [List.map_toArray, List.map_cons, List.map_nil]); first | done | rfl | (simp only [List.length_drop, List.length_take]; rfl)) ?_; (with_reducible refine (impl_IsMarkov.calls k _ _ l0 false _ ?side1 ?side2 A2.out).mono ?_); (case side1 => repeat (first | exact HR0.out | (with_reducible refine Kd.C_alloc ?_ _) | (with_reducible refine Kd.C_drewN ?_ _) | (with_reducible refine Kd.C_drew ?_))); (case side2 => exact HC0.out); rintro e w10 ⟨rfl, hb⟩; refine ⟨_, rfl, ?_⟩; have n0_ := Aside0.mk (below_step (by repeat (first | (with_reducible first | exact HB.out | apply below_alloc | apply pw_below_drewN | apply below_drew1) | exact HB.out)) hb); clear HB; have HB := n0_; clear n0_; (try clear hb); (try clear hb2); (try clear hk); (try clear hi)))
  go_ret2
  exact ⟨_, by first | rfl | (simp [errW_none, errW_some] <;> rfl) | (simp [*, errW_none, errW_some] <;> rfl), by first | exact Kd.R_nil _ _ _ _ _ | exact Kd.N_nil _ _ _ _ _ | exact Kd.V_nil _ _ _ _ _ | exact Kd.Q_nil _ _ _ _ _ | exact Kd.S_nil _ _ _ _ _, by repeat (first | (with_reducible first | exact HB.out | apply below_alloc | apply pw_below_drewN | apply below_drew1) | exact HB.out)⟩
end Go.Proofs.Ytkdgpbcecnmdhaa.P
namespace Go.Proofs.Ytkdgpbcecnmdhaa.P
open Go.RowKit Go.Proofs.YtkdgpbcecnmdhaaW.PrintWords Go.Proofs.YtkdgpbcecnmdhaaW.PrintLast
def up (l : List Int) : List Int := l.mergeSort fun x y => decide (x ≤ y)
theorem up_perm (l : List Int) : (up l).Perm l := List.mergeSort_perm _ _
theorem up_pairwise (l : List Int) : (up l).Pairwise (· ≤ ·) := by
  have h := List.pairwise_mergeSort (le := fun x y : Int => decide (x ≤ y)) (by intro a b c h1 h2; simp at *; omega) (by intro a b; simp; omega) l
  exact h.imp (by intro a b h; simpa using h)
theorem up_unique {l m : List Int} (hp : m.Perm l) (hs : m.Pairwise (· ≤ ·)) : m = up l :=
  List.Perm.eq_of_pairwise (le := (· ≤ ·)) (fun a b _ _ h1 h2 => by omega) hs (up_pairwise l) (hp.trans (up_perm l).symm)
theorem sort_is (l : List Int) (h : l.length < 4611686018427387904) : slices_Sort_int_int.f l = some (up l) := by
 unfold slices_Sort_int_int.f
 rw [if_pos h]
 rfl
end Go.Proofs.Ytkdgpbcecnmdhaa.P
namespace Go.Proofs.Ytkdgpbcecnmdhaa.P
open Go.RowKit Go.Proofs.YtkdgpbcecnmdhaaW.PrintWords Go.Proofs.YtkdgpbcecnmdhaaW.PrintLast Go.Proofs.YtkdgpbcecnmdhaaW.PrintMore
theorem clone_is (l : List Int) (h : l.length < 17592186044416) : slices_Clone_int_int.f l = some l := by
  unfold slices_Clone_int_int.f
  rw [if_pos h]
theorem srt_up (x y z : Int) : srt x y z = up [x, y, z] := by
 have sw : ∀ a b c : Int, ([a, b, c] : List Int).Perm [a, c, b] := fun a b c => List.Perm.cons a (List.Perm.swap c b [])
 have ex : ∀ a b c : Int, ([a, b, c] : List Int).Perm [b, a, c] := fun a b c => List.Perm.swap b a [c]
 have hs : ∀ a b c : Int, a ≤ b → b ≤ c → ([a, b, c] : List Int).Pairwise (· ≤ ·) := by
  intro a b c h1 h2
  simp
  omega
 rcases srt_cases x y z with ⟨h1, h2, e⟩ | ⟨h1, h2, e⟩ | ⟨h1, h2, e⟩ | ⟨h1, h2, e⟩ | ⟨h1, h2, e⟩ | ⟨h1, h2, e⟩ <;> rw [e]
 ·exact up_unique (List.Perm.refl _) (hs _ _ _ h1 h2)
 ·exact up_unique (sw _ _ _) (hs _ _ _ h1 h2)
 ·exact up_unique (ex _ _ _) (hs _ _ _ h1 h2)
 ·exact up_unique ((sw _ _ _).trans (ex _ _ _)) (hs _ _ _ h1 h2)
 ·exact up_unique ((ex _ _ _).trans (sw _ _ _)) (hs _ _ _ h1 h2)
 ·exact up_unique ((ex _ _ _).trans ((sw _ _ _).trans (ex _ _ _))) (hs _ _ _ h1 h2)
theorem up_same {l m : List Int} (h : l.Perm m) : up l = up m := up_unique ((up_perm l).trans h) (up_pairwise l)
theorem srt_rot (x y z : Int) : srt x y z = srt y z x := by
  rw [srt_up, srt_up]
  exact up_same ((List.Perm.swap y x [z]).trans (List.Perm.cons y (List.Perm.swap z x [])))
theorem srt_ex (x y z : Int) : srt x y z = srt y x z := by
  rw [srt_up, srt_up]
  exact up_same (List.Perm.swap y x [z])
theorem mkEq_rot (x y z : Int) : mkEq x y z = mkEq y z x := by
  unfold mkEq
  rw [Bool.eq_iff_iff]; simp only [beq_iff_eq]; constructor <;> intro h <;> grind
theorem isMk_iff {x y z : Int} : isMk [x, y, z] = true ↔ (1 ≤ x ∧ x ≤ 1000000000) ∧ (1 ≤ y ∧ y ≤ 1000000000) ∧ (1 ≤ z ∧ z ≤ 1000000000) ∧ x ≤ y ∧ y ≤ z ∧ mkEq x y z = true := by
 have he : isMk [x, y, z] = ([x, y, z].all (inB 1 1000000000) && (decide (x ≤ y) && (decide (y ≤ z) && mkEq x y z))) := rfl
 rw [he]
 simp only [List.all_cons, List.all_nil, Bool.and_true, Bool.and_eq_true, inB, decide_eq_true_eq]
 constructor
 ·rintro ⟨⟨h1, h2, h3⟩, h4, h5, h6⟩
  exact ⟨h1, h2, h3, h4, h5, h6⟩
 ·rintro ⟨h1, h2, h3, h4, h5, h6⟩
  exact ⟨⟨h1, h2, h3⟩, h4, h5, h6⟩
theorem isMk_srt {x y z : Int} (hx : 1 ≤ x ∧ x ≤ 1000000000) (hy : 1 ≤ y ∧ y ≤ 1000000000) (hz : 1 ≤ z ∧ z ≤ 1000000000) (h : mkEq x y z = true) : isMk (srt x y z) = true := by
  rcases srt_cases x y z with ⟨h1, h2, e⟩ | ⟨h1, h2, e⟩ | ⟨h1, h2, e⟩ | ⟨h1, h2, e⟩ | ⟨h1, h2, e⟩ | ⟨h1, h2, e⟩ <;> (have h6 := mkEq_srt e; rw [e, isMk_iff]; exact ⟨by omega, by omega, by omega, h1, h2, by rw [h6]; exact h⟩)
theorem other_root {a b c : Int} (ha : 1 ≤ a ∧ a ≤ 1000000000) (hb : 1 ≤ b ∧ b ≤ 1000000000) (hc : 1 ≤ c ∧ c ≤ 1000000000) (h : mkEq a b c = true) :
  1 ≤ 3 * a * b - c ∧ 3 * a * b - c ≤ 3000000000000000000 ∧ c * (3 * a * b - c) = a * a + b * b ∧ mkEq a b (3 * a * b - c) = true ∧ wrap64 (wrap64 (wrap64 (3 * a) * b) - c) = 3 * a * b - c := by
 rw [mkEq_iff] at h
 have h1 : c * (3 * a * b - c) = a * a + b * b := by grind
 have p1 := mul_bd (a := a) (b := b) (A := 1000000000) (B := 1000000000) (by omega) (by omega) (by omega) (by omega)
 have p2 : 1 ≤ a * a := by have := mul_one_le (a := a) (b := a) (by omega) (by omega); omega
 have p3 : 1 ≤ b * b := by have := mul_one_le (a := b) (b := b) (by omega) (by omega); omega
 have e : 3 * a * b = 3 * (a * b) := Int.mul_assoc _ _ _
 have hpos : 1 ≤ 3 * a * b - c := by
  rcases Int.lt_or_le 0 (3 * a * b - c) with h2 | h2
  ·omega
  ·have h3 := Int.mul_nonneg (show 0 ≤ c by omega) (show 0 ≤ -(3 * a * b - c) by omega)
   rw [Int.mul_neg] at h3
   omega
 refine ⟨hpos, by omega, h1, ?_, ?_⟩
 ·rw [mkEq_iff]; grind
 ·rw [w64 (x := 3 * a) (by omega) (by omega), w64 (x := 3 * a * b) (by omega) (by omega), w64 (by omega) (by omega)]
def mv (x y z : Int) : Nat → List Int
 | 0 => srt y z (3 * y * z - x)
 | 1 => srt z x (3 * z * x - y)
 | _ => srt x y (3 * x * y - z)
def mvN (x y z : Int) : Nat → Int
 | 0 => 3 * y * z - x
 | 1 => 3 * z * x - y
 | _ => 3 * x * y - z
theorem moved_raw (x y z : Int) : impl_moved.f [x, y, z] 0 = some (up [wrap64 (wrap64 (wrap64 (3 * y) * z) - x), y, z]) ∧ impl_moved.f [x, y, z] 1 = some (up [x, wrap64 (wrap64 (wrap64 (3 * z) * x) - y), z]) ∧ impl_moved.f [x, y, z] 2 = some (up [x, y, wrap64 (wrap64 (wrap64 (3 * x) * y) - z)]) := by
 have c : slices_Clone_int_int.f [x, y, z] = some [x, y, z] := clone_is _ (show 3 < 17592186044416 by decide)
 have s : ∀ a b c : Int, slices_Sort_int_int.f [a, b, c] = some (up [a, b, c]) := fun a b c => sort_is _ (show 3 < 4611686018427387904 by decide)
 have hl : (([x, y, z] : List Int).length : Int) = 3 := rfl
 have t1 : Int.tmod (wrap64 (0 + 1)) 3 = 1 := by decide +kernel
 have t2 : Int.tmod (wrap64 (0 + 2)) 3 = 2 := by decide +kernel
 have t3 : Int.tmod (wrap64 (1 + 1)) 3 = 2 := by decide +kernel
 have t4 : Int.tmod (wrap64 (1 + 2)) 3 = 0 := by decide +kernel
 have t5 : Int.tmod (wrap64 (2 + 1)) 3 = 0 := by decide +kernel
 have t6 : Int.tmod (wrap64 (2 + 2)) 3 = 1 := by decide +kernel
 have r0 : rd [x, y, z] 0 = x := rfl
 have r1 : rd [x, y, z] 1 = y := rfl
 have r2 : rd [x, y, z] 2 = z := rfl
 unfold impl_moved.f
 rw [c, t1, t2, t3, t4, t5, t6]
 simp only [Option.bind_some, hl, r0, r1, r2]
 refine ⟨?_, ?_, ?_⟩
 ·rw [if_pos (by decide), if_pos (by decide), if_pos (by decide), if_pos (by decide), if_pos (by decide), if_pos (by decide), if_pos (by decide), show (0 : Int).toNat = 0 from rfl, List.set_cons_zero, s]
  rfl
 ·rw [if_pos (by decide), if_pos (by decide), if_pos (by decide), if_pos (by decide), if_pos (by decide), if_pos (by decide), if_pos (by decide), show (1 : Int).toNat = 1 from rfl, List.set_cons_succ, List.set_cons_zero, s]
  rfl
 ·rw [if_pos (by decide), if_pos (by decide), if_pos (by decide), if_pos (by decide), if_pos (by decide), if_pos (by decide), if_pos (by decide), show (2 : Int).toNat = 2 from rfl, List.set_cons_succ, List.set_cons_succ, List.set_cons_zero, s]
  rfl
structure Roots (x y z : Int) (i : Nat) (a b c : Int) : Prop where
 ha : 1 ≤ a ∧ a ≤ 1000000000
 hb : 1 ≤ b ∧ b ≤ 1000000000
 hc : 1 ≤ c ∧ c ≤ 1000000000
 eq : mkEq a b c = true
 mv : mv x y z i = srt a b (3 * a * b - c)
 n : mvN x y z i = 3 * a * b - c
theorem roots_of {x y z : Int} (h : isMk [x, y, z] = true) (i : Nat) (hi : i ≤ 2) : ∃ a b c, Roots x y z i a b c ∧ ((i = 0 ∧ a = y ∧ b = z ∧ c = x) ∨ (i = 1 ∧ a = z ∧ b = x ∧ c = y) ∨ (i = 2 ∧ a = x ∧ b = y ∧ c = z)) := by
 obtain ⟨h1, h2, h3, h4, h5, h6⟩ := isMk_iff.1 h
 have hc : i = 0 ∨ i = 1 ∨ i = 2 := by omega
 rcases hc with rfl | rfl | rfl
 ·exact ⟨y, z, x, ⟨h2, h3, h1, by rw [← mkEq_rot]; exact h6, rfl, rfl⟩, .inl ⟨rfl, rfl, rfl, rfl⟩⟩
 ·exact ⟨z, x, y, ⟨h3, h1, h2, by rw [mkEq_rot]; exact h6, rfl, rfl⟩, .inr (.inl ⟨rfl, rfl, rfl, rfl⟩)⟩
 ·exact ⟨x, y, z, ⟨h1, h2, h3, h6, rfl, rfl⟩, .inr (.inr ⟨rfl, rfl, rfl, rfl⟩)⟩
theorem moved_is {x y z : Int} (h : isMk [x, y, z] = true) (i : Nat) (hi : i ≤ 2) : impl_moved.f [x, y, z] (i : Int) = some (mv x y z i) := by
 obtain ⟨h1, h2, h3, h4, h5, h6⟩ := isMk_iff.1 h
 obtain ⟨m0, m1, m2⟩ := moved_raw x y z
 obtain ⟨a, b, c, hR, hcase⟩ := roots_of h i hi
 have ho := other_root hR.ha hR.hb hR.hc hR.eq
 rw [hR.mv]
 rcases hcase with ⟨rfl, rfl, rfl, rfl⟩ | ⟨rfl, rfl, rfl, rfl⟩ | ⟨rfl, rfl, rfl, rfl⟩
 ·rw [ho.2.2.2.2] at m0
  rw [show ((0 : Nat) : Int) = 0 from rfl, m0, ← srt_up, srt_rot]
 ·rw [ho.2.2.2.2] at m1
  rw [show ((1 : Nat) : Int) = 1 from rfl, m1, ← srt_up, ← srt_rot]
 ·rw [ho.2.2.2.2] at m2
  rw [show ((2 : Nat) : Int) = 2 from rfl, m2, ← srt_up]
theorem srt_two (a b c : Int) : rd (srt a b c) 2 = hi2 a (hi2 b c) := rfl
theorem mv_is {x y z : Int} (h : isMk [x, y, z] = true) (i : Nat) (hi : i ≤ 2) (hn : mvN x y z i ≤ 1000000000) : isMk (mv x y z i) = true := by
 obtain ⟨a, b, c, hR, _⟩ := roots_of h i hi
 have ho := other_root hR.ha hR.hb hR.hc hR.eq
 rw [hR.n] at hn
 rw [hR.mv]
 exact isMk_srt hR.ha hR.hb ⟨ho.1, hn⟩ ho.2.2.2.1
theorem mv_three (x y z : Int) (i : Nat) : ∃ a b c, mv x y z i = [a, b, c] := by
 match i with
 | 0 => exact ⟨_, _, _, rfl⟩
 | 1 => exact ⟨_, _, _, rfl⟩
 | _ + 2 => exact ⟨_, _, _, rfl⟩
def mvOf (x y z : Int) (i : Nat) : List Int × Bool := if mvN x y z i > 1000000000 then ([], false) else (mv x y z i, true)
theorem big_product {a b c : Int} (ha : 1 ≤ a ∧ a ≤ 1000000000) (hb : 1 ≤ b ∧ b ≤ 1000000000) (hc : 1 ≤ c ∧ c ≤ 1000000000) (h : a > 1000000000 / b) : 3 * a * b - c > 1000000000 := by
 have h1 : 1000000000 < a * b := (Int.ediv_lt_iff_lt_mul (by omega)).1 h
 have e : 3 * a * b = 3 * (a * b) := Int.mul_assoc _ _ _
 omega
theorem mkMove_is {x y z : Int} (h : isMk [x, y, z] = true) (i : Nat) (hi : i ≤ 2) : spec_mkMove.f [x, y, z] (i : Int) = some (mvOf x y z i) := by
 obtain ⟨a, b, c, hR, hcase⟩ := roots_of h i hi
 have ho := other_root hR.ha hR.hb hR.hc hR.eq
 have ha := hR.ha
 have hb := hR.hb
 have hc := hR.hc
 have hb0 : ¬ b = 0 := by clear ho; omega
 have hi0 : (0 : Int) ≤ (i : Int) := by clear ho hcase; omega
 have hi3 : (i : Int) < 3 := by clear ho hcase; omega
 have hl : (([x, y, z] : List Int).length : Int) = 3 := rfl
 have q1 : 0 ≤ 1000000000 / b := Int.ediv_nonneg (by omega) (by omega)
 have q2 : 1000000000 / b ≤ 1000000000 := Int.ediv_le_self _ (by omega)
 have wq : wrap64 (1000000000 / b) = 1000000000 / b := w64 (by omega) (by omega)
 have e1 : rd [x, y, z] (Int.tmod (wrap64 ((i : Int) + 1)) 3) = a ∧ rd [x, y, z] (Int.tmod (wrap64 ((i : Int) + 2)) 3) = b ∧ rd [x, y, z] (i : Int) = c ∧ 0 ≤ Int.tmod (wrap64 ((i : Int) + 1)) 3 ∧ Int.tmod (wrap64 ((i : Int) + 1)) 3 < 3 ∧ 0 ≤ Int.tmod (wrap64 ((i : Int) + 2)) 3 ∧ Int.tmod (wrap64 ((i : Int) + 2)) 3 < 3 := by
  rcases hcase with ⟨rfl, rfl, rfl, rfl⟩ | ⟨rfl, rfl, rfl, rfl⟩ | ⟨rfl, rfl, rfl, rfl⟩
  ·have t1 : Int.tmod (wrap64 (((0 : Nat) : Int) + 1)) 3 = 1 := by decide +kernel
   have t2 : Int.tmod (wrap64 (((0 : Nat) : Int) + 2)) 3 = 2 := by decide +kernel
   rw [t1, t2]
   exact ⟨rfl, rfl, rfl, by decide, by decide, by decide, by decide⟩
  ·have t1 : Int.tmod (wrap64 (((1 : Nat) : Int) + 1)) 3 = 2 := by decide +kernel
   have t2 : Int.tmod (wrap64 (((1 : Nat) : Int) + 2)) 3 = 0 := by decide +kernel
   rw [t1, t2]
   exact ⟨rfl, rfl, rfl, by decide, by decide, by decide, by decide⟩
  ·have t1 : Int.tmod (wrap64 (((2 : Nat) : Int) + 1)) 3 = 0 := by decide +kernel
   have t2 : Int.tmod (wrap64 (((2 : Nat) : Int) + 2)) 3 = 1 := by decide +kernel
   rw [t1, t2]
   exact ⟨rfl, rfl, rfl, by decide, by decide, by decide, by decide⟩
 obtain ⟨e1, e2, e3, e4, e5, e6, e7⟩ := e1
 have ho5 := ho.2.2.2.2
 have hbig := big_product ha hb hc
 have hsort : ¬ 3 * a * b - c > 1000000000 → spec_mkSort.f a b (3 * a * b - c) = some (srt a b (3 * a * b - c)) := fun h2 => mkSort_srt a b _ (by clear e1 e2 e3 e4 e5 e6 e7 wq q1 q2 hcase ho5; omega) (by clear e1 e2 e3 e4 e5 e6 e7 wq q1 q2 hcase ho5; omega) (by clear e1 e2 e3 e4 e5 e6 e7 wq q1 q2 hcase ho5; omega)
 have hres : mvOf x y z i = if 3 * a * b - c > 1000000000 then ([], false) else (srt a b (3 * a * b - c), true) := by unfold mvOf; rw [hR.n, hR.mv]
 rw [hres]
 unfold spec_mkMove.f
 simp only [hl, e1, e2, e3, e4, e5, e6, e7, hb0, hi0, hi3, ho5, wq, if_true, if_false]
 by_cases h1 : a > 1000000000 / b
 ·have h2 := hbig h1
  simp only [h1, h2, if_true]
 ·by_cases h2 : 3 * a * b - c > 1000000000
  ·simp only [h1, h2, if_true, if_false]
  ·simp only [h1, h2, if_false, hsort h2, Option.bind_some]
end Go.Proofs.Ytkdgpbcecnmdhaa.P
namespace Go.Proofs.Ytkdgpbcecnmdhaa.P
open Go.RowKit Go.Proofs.YtkdgpbcecnmdhaaW.PrintWords Go.Proofs.YtkdgpbcecnmdhaaW.PrintLast Go.Proofs.YtkdgpbcecnmdhaaW.PrintMore
theorem mk_three {l : List Int} (h : isMk l = true) : ∃ x y z, l = [x, y, z] := by
  match l, h with
  | [x, y, z], _ => exact ⟨x, y, z, rfl⟩
theorem below {x y z : Int} (h : isMk [x, y, z] = true) (hz : 1 < z) : y < z ∧ 3 * x * y - z ≤ y := by
 obtain ⟨h1, h2, h3, h4, h5, h6⟩ := isMk_iff.1 h
 have ho := other_root h1 h2 h3 h6
 have h7 := mkEq_iff.1 h6
 have hyz : y < z := by
  rcases Int.lt_or_le y z with h8 | h8
  ·exact h8
  ·obtain rfl : y = z := by omega
   have e1 : x * x + 2 * (y * y) = 3 * (x * (y * y)) := by grind
   have e2 : x * x ≤ y * y := Int.mul_le_mul h4 h4 (by omega) (by omega)
   rcases Int.lt_or_le 1 x with h9 | h9
   ·have e3 : 2 * (y * y) ≤ x * (y * y) := Int.mul_le_mul_of_nonneg_right (by omega) (by have := mul_one_le (a := y) (b := y) (by omega) (by omega); omega)
    have e4 := mul_one_le (a := y) (b := y) (by omega) (by omega)
    omega
   ·obtain rfl : x = 1 := by omega
    have e4 : y * y = 1 := by omega
    have e5 : 2 * y ≤ y * y := Int.mul_le_mul_of_nonneg_right (show (2 : Int) ≤ y by omega) (by omega)
    omega
 refine ⟨hyz, ?_⟩
 rcases Int.lt_or_le y (3 * x * y - z) with h8 | h8
 ·have e1 : (z - y) * (3 * x * y - z - y) = x * x + 2 * (y * y) - 3 * (x * (y * y)) := by grind
  have e2 : 0 < (z - y) * (3 * x * y - z - y) := Int.mul_pos (by omega) (by omega)
  have e3 : x * x ≤ y * y := Int.mul_le_mul h4 h4 (by omega) (by omega)
  have e4 : y * y ≤ x * (y * y) := by
   have := Int.mul_le_mul_of_nonneg_right (show 1 ≤ x by omega) (show 0 ≤ y * y by have := mul_one_le (a := y) (b := y) (by omega) (by omega); omega)
   omega
  omega
 ·exact h8
end Go.Proofs.Ytkdgpbcecnmdhaa.P
