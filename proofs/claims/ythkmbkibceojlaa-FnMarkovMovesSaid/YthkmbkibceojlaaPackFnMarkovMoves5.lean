/- A move leads to a triple and leads back, and only from 1 1 1 no move leads down. No condition. -/
import Derived.Test.YthkmbkibceojlaaPackFnMarkovMoves4
import Derived.Sort.Statements
import Derived.Shelf.RegionOpenPlain
import Derived.WalkKit
import Derived.Deep.LoopGhost
import Derived.Deep.Draws
import Derived.Lib.Walk
import Derived.Sort.WalkB12
import Derived.Lib.SliceRun
import Derived.Lib.SlKept
import Derived.Shelf.SlicesE.Kit
import Derived.Sort.WalkA
import Derived.Test.YthkmbkibceojlaaLib
import Derived.Shelf.SlSortCmp.NoneTotal
-- Ucmp
namespace Go.Proofs.Ythkmbkibceojlaa.P
open Go.RowKit Go.Proofs.YthkmbkibceojlaaW.PrintWords Go.Proofs.YthkmbkibceojlaaW.PrintLast
set_option linter.unusedVariables false
set_option linter.unusedSimpArgs false

def cmpL : List Int → List Int → Int
  | [], [] => 0
  | [], _ :: _ => -1
  | _ :: _, [] => 1
  | x :: a, y :: b => if x < y then -1 else if y < x then 1 else cmpL a b
theorem cmpL_self : ∀ a, cmpL a a = 0
  | [] => rfl
  | x :: a => by simp [cmpL, cmpL_self a]
theorem cmpL_anti : ∀ a b, cmpL b a = - cmpL a b
  | [], [] => rfl
  | [], _ :: _ => rfl
  | _ :: _, [] => rfl
  | x :: a, y :: b => by
    simp only [cmpL, cmpL_anti a b]
    split <;> split <;> first | rfl | omega
theorem cmpL_eq : ∀ a b, cmpL a b = 0 → a = b
  | [], [], _ => rfl
  | [], _ :: _, h => by simp [cmpL] at h
  | _ :: _, [], h => by simp [cmpL] at h
  | x :: a, y :: b, h => by
    simp only [cmpL] at h
    split at h
    · omega
    · split at h
      · omega
      · rw [cmpL_eq a b h, show x = y by omega]
theorem cmpL_trans : ∀ a b c, cmpL a b < 0 → cmpL b c < 0 → cmpL a c < 0
  | [], [], _, h, _ => by simp [cmpL] at h
  | [], _ :: _, [], _, h => by simp [cmpL] at h
  | [], _ :: _, _ :: _, _, _ => by simp [cmpL]
  | _ :: _, [], _, h, _ => by simp [cmpL] at h
  | _ :: _, _ :: _, [], _, h => by simp [cmpL] at h
  | x :: a, y :: b, z :: c, h, g => by
    have ih := cmpL_trans a b c
    simp only [cmpL] at h g ⊢
    split at h <;> split at g <;> (try split at h) <;> (try split at g) <;> (try split) <;> (try split) <;> first | omega | (apply ih <;> assumption)
theorem cmpL_bound : ∀ a b, -1 ≤ cmpL a b ∧ cmpL a b ≤ 1
  | [], [] => by simp [cmpL]
  | [], _ :: _ => by simp [cmpL]
  | _ :: _, [] => by simp [cmpL]
  | x :: a, y :: b => by
    have ih := cmpL_bound a b
    simp only [cmpL]
    split
    · omega
    · split <;> omega
/-- A comparison that tells unequal ones apart and is a strict order makes a total order. -/
structure Total (cf : List Int → List Int → Int) : Prop where
  anti : ∀ a b, cf a b < 0 ↔ 0 < cf b a
  trans : ∀ a b c, cf a b < 0 → cf b c < 0 → cf a c < 0
  eq : ∀ a b, cf a b = 0 → a = b
  self : ∀ a, cf a a = 0
theorem Total.swo {cf : List Int → List Int → Int} (h : Total cf) : Go.Sort.SWO (fun a b => decide (cf a b < 0)) where
  irrefl := fun x => by have := h.self x; simp; omega
  trans := fun x y z hx hy => by simp only [decide_eq_true_eq] at *; exact h.trans x y z hx hy
  ntrans := fun x y z hx hy => by
    simp only [decide_eq_false_iff_not] at *
    intro hz
    by_cases e1 : cf x y = 0
    · exact hy (h.eq x y e1 ▸ hz)
    · by_cases e2 : cf y z = 0
      · exact hx (h.eq y z e2 ▸ hz)
      · have h1 : cf y x < 0 := by rw [h.anti]; omega
        have h2 : cf z y < 0 := by rw [h.anti]; omega
        have h3 := h.trans z y x h2 h1
        have h4 := (h.anti x z).1 hz
        omega
theorem cmpL_total : Total cmpL where
  anti := fun a b => by rw [cmpL_anti a b]; omega
  trans := cmpL_trans
  eq := cmpL_eq
  self := cmpL_self
/-- Two sorted lists with the same elements as often are one. -/
theorem Total.unique {cf : List Int → List Int → Int} (h : Total cf) {xs ys : List (List Int)} (hp : xs.Perm ys) (hx : xs.Pairwise fun a b => ¬ cf b a < 0) (hy : ys.Pairwise fun a b => ¬ cf b a < 0) : xs = ys := by
  refine List.Perm.eq_of_pairwise (le := fun a b => ¬ cf b a < 0) ?_ hx hy hp
  intro a b _ _ h1 h2
  by_cases e : cf a b = 0
  · exact h.eq a b e
  · have := h.anti b a
    omega
/-- Two strictly sorted lists with the same elements are one. -/
theorem Total.uniqueS {cf : List Int → List Int → Int} (h : Total cf) : ∀ {xs ys : List (List Int)}, (xs.Pairwise fun a b => cf a b < 0) → (ys.Pairwise fun a b => cf a b < 0) → (∀ z, z ∈ xs ↔ z ∈ ys) → xs = ys
  | [], [], _, _, _ => rfl
  | [], y :: ys, _, _, hm => by have := (hm y).2 (by simp); simp at this
  | x :: xs, [], _, _, hm => by have := (hm x).1 (by simp); simp at this
  | x :: xs, y :: ys, hx, hy, hm => by
    rw [List.pairwise_cons] at hx hy
    have hxy : x = y := by
      rcases List.mem_cons.1 ((hm x).1 (by simp)) with e | h1
      · exact e
      · rcases List.mem_cons.1 ((hm y).2 (by simp)) with e | h2
        · exact e.symm
        · have h3 := hy.1 x h1
          have h4 := hx.1 y h2
          have := (h.anti x y).1 h4
          omega
    subst hxy
    congr 1
    refine h.uniqueS hx.2 hy.2 fun z => ?_
    constructor
    · intro hz
      rcases List.mem_cons.1 ((hm z).1 (List.mem_cons_of_mem _ hz)) with e | h1
      · subst e; have := hx.1 z hz; have := h.self z; omega
      · exact h1
    · intro hz
      rcases List.mem_cons.1 ((hm z).2 (List.mem_cons_of_mem _ hz)) with e | h1
      · subst e; have := hy.1 z hz; have := h.self z; omega
      · exact h1

theorem rd_app (pre : List Int) (x : Int) (a : List Int) : rd (pre ++ x :: a) (pre.length : Int) = x := by
  simp [rd]
theorem compare_loop (l m : List Int) (hl : l.length < 9223372036854775807) : ∀ (a b pre pre' : List Int) (k : Nat), l = pre ++ a → m = pre' ++ b → pre.length = pre'.length → a.length < k → slices_Compare_int_int.l0 k l m l (l.length : Int) (pre.length : Int) = some (cmpL a b)
  | a, b, pre, pre', 0, _, _, _, hk => by omega
  | [], b, pre, pre', k + 1, el, em, ep, _ => by
    have h1 : l.length = pre.length := by rw [el]; simp
    have h2 : m.length = pre'.length + b.length := by rw [em]; simp
    simp only [slices_Compare_int_int.l0]
    rw [if_neg (by omega)]
    cases b with
    | nil => rw [if_neg (by simp at h2; omega)]; rfl
    | cons y b => rw [if_pos (by simp at h2; omega)]; rfl
  | x :: a, b, pre, pre', k + 1, el, em, ep, hk => by
    have h1 : l.length = pre.length + (a.length + 1) := by rw [el]; simp
    have h2 : m.length = pre'.length + b.length := by rw [em]; simp
    simp only [slices_Compare_int_int.l0]
    rw [if_pos (by omega), if_pos (by omega), if_pos (by omega)]
    cases b with
    | nil => rw [if_pos (by simp at h2; omega)]; rfl
    | cons y b =>
      simp only [List.length_cons] at h2 hk
      rw [if_neg (by omega), if_pos (by omega)]
      have e1 : rd l (pre.length : Int) = x := by rw [el]; exact rd_app _ _ _
      have e2 : rd m (pre.length : Int) = y := by rw [em, ep]; exact rd_app _ _ _
      rw [e1, e2]
      have hw : wrap64 ((pre.length : Int) + 1) = ((pre ++ [x]).length : Int) := by
        rw [show wrap64 ((pre.length : Int) + 1) = (pre.length : Int) + 1 from ?_]
        · simp
        · unfold wrap64; omega
      have ih := compare_loop l m hl a b (pre ++ [x]) (pre' ++ [y]) k (by rw [el]; simp) (by rw [em]; simp) (by simp [ep]) (by omega)
      rw [hw]
      simp only [cmp_Compare_int.f, cmp_isNaN_int.f]
      simp only [cmpL]
      rcases Int.lt_trichotomy x y with hlt | heq | hgt
      · simp [hlt, show ¬ y < x by omega, cmp_isNaN_int.f]
      · subst heq
        simpa [cmp_isNaN_int.f] using ih
      · simp [hgt, show ¬ x < y by omega, cmp_isNaN_int.f]
theorem compare_ev (l m : List Int) (hl : l.length < 9223372036854775807) : slices_Compare_int_int.f (l.length + 1) l m = some (cmpL l m) := by
  have := compare_loop l m hl l m [] [] (l.length + 1) rfl rfl rfl (by omega)
  simpa [slices_Compare_int_int.f] using this
theorem equal_loop (l m : List Int) (hlm : l.length = m.length) (hl : l.length < 9223372036854775807) : ∀ (a b pre pre' : List Int) (k : Nat), l = pre ++ a → m = pre' ++ b → pre.length = pre'.length → a.length < k → slices_Equal_int_int.l0 k l m (l.length : Int) (pre.length : Int) = some (decide (a = b))
  | a, b, pre, pre', 0, _, _, _, hk => by omega
  | [], b, pre, pre', k + 1, el, em, ep, _ => by
    have h1 : l.length = pre.length := by rw [el]; simp
    have h2 : m.length = pre'.length + b.length := by rw [em]; simp
    simp only [slices_Equal_int_int.l0]
    rw [if_neg (by omega), show b = [] from List.eq_nil_of_length_eq_zero (by omega)]
    rfl
  | x :: a, b, pre, pre', k + 1, el, em, ep, hk => by
    have h1 : l.length = pre.length + (a.length + 1) := by rw [el]; simp
    have h2 : m.length = pre'.length + b.length := by rw [em]; simp
    simp only [slices_Equal_int_int.l0]
    rw [if_pos (by omega), if_pos (by omega), if_pos (by omega), if_pos (by omega)]
    cases b with
    | nil => simp at h2; omega
    | cons y b =>
      simp only [List.length_cons] at h2 hk
      have e1 : rd l (pre.length : Int) = x := by rw [el]; exact rd_app _ _ _
      have e2 : rd m (pre.length : Int) = y := by rw [em, ep]; exact rd_app _ _ _
      rw [e1, e2]
      have hw : wrap64 ((pre.length : Int) + 1) = ((pre ++ [x]).length : Int) := by
        rw [show wrap64 ((pre.length : Int) + 1) = (pre.length : Int) + 1 from ?_]
        · simp
        · unfold wrap64; omega
      have ih := equal_loop l m hlm hl a b (pre ++ [x]) (pre' ++ [y]) k (by rw [el]; simp) (by rw [em]; simp) (by simp [ep]) (by omega)
      rw [hw]
      by_cases e : x = y
      · subst e
        rw [if_pos rfl, ih]
        simp
      · rw [if_neg e]
        simp [e]
theorem equal_ev (l m : List Int) (hl : l.length < 9223372036854775807) : slices_Equal_int_int.f (l.length + 1) l m = some (decide (l = m)) := by
  unfold slices_Equal_int_int.f
  by_cases h : l.length = m.length
  · rw [if_pos (by omega)]
    have := equal_loop l m h hl l m [] [] (l.length + 1) rfl rfl rfl (by omega)
    simpa using this
  · rw [if_neg (by omega)]
    have : l ≠ m := fun e => h (by rw [e])
    simp [this]
end Go.Proofs.Ythkmbkibceojlaa.P

-- UsortDedup
namespace Go.Proofs.Ythkmbkibceojlaa.P
set_option linter.unusedVariables false
set_option linter.unusedSimpArgs false

def insS (x : List Int) : List (List Int) → List (List Int)
  | [] => [x]
  | y :: t => if cmpL x y < 0 then x :: y :: t else if cmpL x y = 0 then y :: t else y :: insS x t
def sortDedup : List (List Int) → List (List Int)
  | [] => []
  | x :: t => insS x (sortDedup t)
theorem insS_mem (x z : List Int) : ∀ l, z ∈ insS x l ↔ z = x ∨ z ∈ l
  | [] => by simp [insS]
  | y :: t => by
    unfold insS
    split
    · simp
    · split
      · rename_i h
        have := cmpL_eq x y h
        subst this
        simp
      · simp only [List.mem_cons, insS_mem x z t]
        constructor
        · rintro (h | h | h) <;> simp [h]
        · rintro (h | h | h) <;> simp [h]
theorem insS_sorted (x : List Int) : ∀ l, (l.Pairwise fun a b => cmpL a b < 0) → (insS x l).Pairwise fun a b => cmpL a b < 0
  | [], _ => by simp [insS]
  | y :: t, h => by
    unfold insS
    rw [List.pairwise_cons] at h
    split
    · rename_i h1
      rw [List.pairwise_cons, List.pairwise_cons]
      refine ⟨fun z hz => ?_, h.1, h.2⟩
      rcases List.mem_cons.1 hz with e | hz
      · subst e; exact h1
      · exact cmpL_trans _ _ _ h1 (h.1 z hz)
    · split
      · rw [List.pairwise_cons]; exact h
      · rename_i h1 h2
        rw [List.pairwise_cons]
        refine ⟨fun z hz => ?_, insS_sorted x t h.2⟩
        rcases (insS_mem x z t).1 hz with e | hz
        · subst e
          rw [cmpL_anti]
          omega
        · exact h.1 z hz
theorem sortDedup_mem (z : List Int) : ∀ l, z ∈ sortDedup l ↔ z ∈ l
  | [] => by simp [sortDedup]
  | x :: t => by simp [sortDedup, insS_mem, sortDedup_mem z t]
theorem sortDedup_sorted : ∀ l, (sortDedup l).Pairwise fun a b => cmpL a b < 0
  | [] => by simp [sortDedup]
  | x :: t => insS_sorted x _ (sortDedup_sorted t)
theorem sortDedup_is {l m : List (List Int)} (h1 : m.Pairwise fun a b => cmpL a b < 0) (h2 : ∀ z, z ∈ m ↔ z ∈ l) : m = sortDedup l :=
  cmpL_total.uniqueS h1 (sortDedup_sorted l) (fun z => (h2 z).trans (sortDedup_mem z l).symm)
end Go.Proofs.Ythkmbkibceojlaa.P

-- UrowsCompact
namespace Go.Proofs.Ythkmbkibceojlaa.P
set_option linter.unusedVariables false
set_option linter.unusedSimpArgs false
open Go.Shelf Go.Lib Go.Sort Go.RowKit Go.Proofs.YthkmbkibceojlaaW.PrintWords Go.Proofs.YthkmbkibceojlaaW.PrintLast

/-- Which places are kept. -/
def kpOf {α : Type} [Inhabited α] (p : α → α → Bool) (d : Array α) (j : Nat) : Bool := j == 0 || !p d[j]! d[j - 1]!

set_option maxHeartbeats 4000000 in
set_option maxRecDepth 1000000 in
theorem compact_walk {α : Type} [Inhabited α] (enc : α → Value) (hO : OneCell enc) (p : α → α → Bool) (zr : α) (hz : enc zr = .slice none 0 0) (blk off cap : Nat) (d : Array α) (w : World)
    (hp : ∀ (dk : Array α) (u v : α) (q : Nat), dk.size = d.size → Calls Try.prog 107 #[enc u, enc v] (putRow enc (Sort.ahead w q) blk off dk) fun e w' => e = .returned (.bool (p u v)) ∧ ∃ qq, w' = (putRow enc (Sort.ahead w q) blk off dk).drewN qq)
    (hH : Holds enc w blk off d) (hsz : d.size ≤ 9223372036854775807) (hcap : d.size ≤ cap) :
    Calls Try.prog 106 #[.slice (some ⟨blk, off, none⟩) d.size cap, .func (.func 107) #[] #[]] w fun e w' => e = .returned (.slice (some ⟨blk, off, none⟩) (keptUpTo (kpOf p d) d d.size).length cap) ∧ ∃ q, w' = putRow enc (Sort.ahead w q) blk off (keptUpTo (kpOf p d) d d.size ++ List.replicate (d.size - (keptUpTo (kpOf p d) d d.size).length) zr).toArray := by
  have eg : ∀ args w, (callFunc 107 args).run Try.prog w = .ok (.enter 107 args) w := fun args w => enters_of Try.func107 (by kernel_rfl) rfl args w
  have t39 := Try.underlying39
  have t22 := Try.underlying22
  have hcl0 := hO.cells
  simp only [Value.cells] at hcl0
  have hst := hO.store Try.prog
  obtain ⟨kp, HK⟩ : ∃ kp : Nat → Bool, Hid (kp = kpOf p d) := ⟨_, rfl⟩
  rw [← HK.out]
  have hk0 : kp 0 = true := by rw [HK.out]; rfl
  have same : ∀ q, (∀ j, j < d.size → kp j = true) → (keptUpTo kp d d.size).length = d.size ∧ putRow enc (Sort.ahead w q) blk off d = putRow enc (Sort.ahead w q) blk off (keptUpTo kp d d.size ++ List.replicate (d.size - (keptUpTo kp d d.size).length) zr).toArray := by
    intro q hall
    have e : keptUpTo kp d d.size = d.toList := by rw [keptUpTo_all kp d _ hall, range_map_get]
    rw [e]
    refine ⟨by simp, ?_⟩
    simp only [Array.length_toList, Nat.sub_self, List.replicate_zero, List.append_nil, Array.toArray_toList]
  have HS : Aside (∀ q, (∀ j, j < d.size → kp j = true) → (keptUpTo kp d d.size).length = d.size ∧ putRow enc (Sort.ahead w q) blk off d = putRow enc (Sort.ahead w q) blk off (keptUpTo kp d d.size ++ List.replicate (d.size - (keptUpTo kp d d.size).length) zr).toArray) := same
  have HP : Aside (∀ (dk : Array α) (u v : α) (q : Nat), dk.size = d.size → Calls Try.prog 107 #[enc u, enc v] (putRow enc (Sort.ahead w q) blk off dk) fun e w' => e = .returned (.bool (p u v)) ∧ ∃ qq, w' = (putRow enc (Sort.ahead w q) blk off dk).drewN qq) := hp
  have HH : Aside (Holds enc w blk off d) := hH
  have ZR : Aside (enc zr = .slice none 0 0) := hz
  have HCL : Aside (OneCell enc) := hO
  clear same hp hH hz hO
  by_cases h2 : d.size < 2
  · have hsm : Aside (∀ j, j < d.size → kp j = true) := fun j hj => by
      obtain rfl : j = 0 := by omega
      exact hk0
    go_enter Try.func106, Try.ntmps106
    go_wp2
    go_ret
    obtain ⟨e1, e2⟩ := HS.out 0 hsm.out
    refine ⟨by rw [e1]; rfl, 0, ?_⟩
    rw [← e2]
    exact (putRow_self enc (Sort.ahead w 0) blk off d (holds_ahead enc w 0 blk off d HH.out)).symm
  · go_enter Try.func106, Try.ntmps106
    go_wp2
    go_loopg [5] d.size (fun g s3 wr => ∃ k q : Nat, 1 ≤ k ∧ k ≤ d.size ∧ d.size - k ≤ g ∧ s3 = .int .i64 k ∧ wr = putRow enc (Sort.ahead w q) blk off d ∧ Aside (∀ j, j < k → kp j = true))
    case atStart =>
      refine ⟨1, 0, Nat.le_refl _, by omega, by omega, rfl, (putRow_self enc (Sort.ahead w 0) blk off d (holds_ahead enc w 0 blk off d HH.out)).symm, (show Aside _ from fun j hj => ?_)⟩
      obtain rfl : j = 0 := by omega
      exact hk0
    case round =>
      obtain ⟨k, q, hk1, hk, hg, rfl, hwr, A⟩ := hrel
      have W2 : Aside (wr = putRow enc (Sort.ahead w q) blk off d) := hwr
      have hHk : Holds enc wr blk off d := by rw [hwr]; exact holds_putRow enc _ blk off d d (holds_ahead enc w q blk off d HH.out) rfl
      by_cases hlt : k < d.size
      · have hc : ∀ n, Calls Try.prog 107 #[enc d[k]!, enc d[k - 1]!] (wr.drewN n) fun e w' => e = .returned (.bool (p d[k]! d[k - 1]!)) ∧ ∃ m, w' = (wr.drewN n).drewN m := fun n => by
          have := HP.out d d[k]! d[k - 1]! (q + n) rfl
          rw [← putRow_drewN, ← hwr] at this
          exact this
        obtain ⟨c1, f1⟩ := hHk k hlt
        obtain ⟨c0, f0⟩ := hHk (k - 1) (by omega)
        clear hHk hwr
        generalize hx : d[k]! = x at c1 hc
        generalize hy : d[k - 1]! = y at c0 hc
        have B : Aside (d[k]! = x ∧ d[k - 1]! = y) := ⟨hx, hy⟩
        clear hx hy
        obtain ⟨jp, rfl⟩ : ∃ jp, k = jp + 1 := ⟨k - 1, by omega⟩
        simp only [Nat.add_sub_cancel] at c0 f0
        have hwp : IntKind.i64.wrap (jp : Int) = (jp : Int) := by rw [IntKind.wrap_i64]; omega
        have jz : (jp : Int) + 1 < (d.size : Int) := by omega
        have jz1 : (jp : Int) < (d.size : Int) := by omega
        have p0 : (0 : Int) ≤ (jp : Int) + 1 := by omega
        have e0 : ((jp : Int) + 1).toNat = jp + 1 := by omega
        have c1' : wr.cell? ⟨blk, off + (jp + 1), none⟩ = some (enc x) := c1
        have c0' : wr.cell? ⟨blk, off + jp, none⟩ = some (enc y) := c0
        clear c1 c0 f1 f0
        cases hq : p x y with
        | true =>
          rw [hq] at hc
          have hdup : Aside (kp (jp + 1) = false) := (by
            show kp (jp + 1) = false
            rw [HK.out]
            unfold kpOf
            rw [B.out.1, B.out.2, hq]
            simp)
          go_wp2_with fail
          go_quiet (first | (go_at_call 107; refine Calls.quiet_of (hc _)))
          clear c1' c0' hc
          have W3 : Aside (wr.drewN nq = putRow enc (Sort.ahead w (q + nq)) blk off d) := by show _ = _; rw [W2.out]; exact putRow_drewN _ _ _ _ _ _ _
          generalize wr.drewN nq = wr3 at W3 ⊢
          go_wp2
          go_loopg [5, 7] d.size (fun g s5 s7 wr => ∃ (kk k2 q2 : Nat) (dk : Array α), s5 = .int .i64 kk ∧ s7 = .int .i64 k2 ∧ 1 ≤ k2 ∧ jp + 1 + k2 ≤ d.size ∧ d.size - (jp + 1 + k2) ≤ g ∧ wr = putRow enc (Sort.ahead w q2) blk off dk ∧ Aside (KeptInv kp d (jp + 1 + k2) kk dk))
          case atStart => exact ⟨jp + 1, 1, q + nq, d, by go_num, rfl, Nat.le_refl _, by omega, by omega, W3.out, KeptInv.start A.out hdup.out⟩
          case round =>
            clear W3 W2 hdup
            obtain ⟨kk, k2, q2, dk, rfl, rfl, h1, hle, hg2, hwr, I2⟩ := hrel
            have hkk := I2.out.lt
            have hds := I2.out.size
            have hHk : Holds enc wr blk off dk := by rw [hwr]; exact holds_putRow enc _ blk off d dk (holds_ahead enc w q2 blk off d HH.out) hds
            have W5 : Aside (wr = putRow enc (Sort.ahead w q2) blk off dk) := hwr
            obtain ⟨j2, rfl⟩ : ∃ j2, k2 = j2 + 1 := ⟨k2 - 1, by omega⟩
            by_cases hlt2 : jp + 1 + (j2 + 1) < d.size
            · have hc : ∀ n, Calls Try.prog 107 #[enc d[jp + 1 + (j2 + 1)]!, enc d[jp + 1 + j2]!] (wr.drewN n) fun e w' => e = .returned (.bool (p d[jp + 1 + (j2 + 1)]! d[jp + 1 + j2]!)) ∧ ∃ m, w' = (wr.drewN n).drewN m := fun n => by
                have := HP.out dk d[jp + 1 + (j2 + 1)]! d[jp + 1 + j2]! (q2 + n) hds
                rw [← putRow_drewN, ← hwr] at this
                exact this
              obtain ⟨cm, _⟩ := hHk (jp + 1 + (j2 + 1)) (by omega)
              obtain ⟨cp, _⟩ := hHk (jp + 1 + j2) (by omega)
              obtain ⟨ck, fk⟩ := hHk kk (by omega)
              rw [I2.out.high (jp + 1 + (j2 + 1)) (by omega)] at cm
              rw [I2.out.high (jp + 1 + j2) (by omega)] at cp
              have cm' : wr.cell? ⟨blk, off + (jp + 1) + (j2 + 1), none⟩ = some (enc d[jp + 1 + (j2 + 1)]!) := by rw [← cm]; congr 2; omega
              have cp' : wr.cell? ⟨blk, off + (jp + 1) + j2, none⟩ = some (enc d[jp + 1 + j2]!) := by rw [← cp]; congr 2; omega
              clear hHk hwr cm cp
              generalize hu : d[jp + 1 + (j2 + 1)]! = u at cm' hc
              generalize hv : d[jp + 1 + j2]! = v at cp' hc
              generalize dk[kk]! = old at ck
              have C : Aside (d[jp + 1 + (j2 + 1)]! = u ∧ d[jp + 1 + j2]! = v) := ⟨hu, hv⟩
              clear hu hv
              have hwp2 : IntKind.i64.wrap (j2 : Int) = (j2 : Int) := by rw [IntKind.wrap_i64]; omega
              have y1 : (jp : Int) + 1 + ((j2 : Int) + 1) < (d.size : Int) := by omega
              have y2 : (j2 : Int) + 1 < (d.size : Int) - ((jp : Int) + 1) := by omega
              have y3 : (j2 : Int) < (d.size : Int) - ((jp : Int) + 1) := by omega
              have y4 : (0 : Int) ≤ (j2 : Int) + 1 := by omega
              have y5 : ((j2 : Int) + 1).toNat = j2 + 1 := by omega
              have y6 : (kk : Int) < (d.size : Int) := by omega
              have y7 : ((d.size - (jp + 1) : Nat) : Int) = (d.size : Int) - ((jp : Int) + 1) := by omega
              cases hq2 : p u v with
              | true =>
                rw [hq2] at hc
                go_wp2_with fail
                go_quiet (first | (go_at_call 107; refine Calls.quiet_of (hc _)))
                go_wp2
                go_roundg (d.size - (jp + 1 + (j2 + 1 + 1)))
                case measure => omega
                case rel => exact ⟨kk, j2 + 1 + 1, q2 + nq, dk, rfl, by go_num, by omega, by omega, Nat.le_refl _, by rw [W5.out]; exact putRow_drewN _ _ _ _ _ _ _, I2.out.skip (by rw [HK.out]; unfold kpOf; rw [show jp + 1 + (j2 + 1) - 1 = jp + 1 + j2 by omega, C.out.1, C.out.2, hq2]; simp)⟩
              | false =>
                rw [hq2] at hc
                go_wp2_with fail
                go_quiet (first | (go_at_call 107; refine Calls.quiet_of (hc _)))
                go_wp2_with fail
                have W6 : Aside (wr.drewN nq = putRow enc (Sort.ahead w (q2 + nq)) blk off dk) := by show _ = _; rw [W5.out]; exact putRow_drewN _ _ _ _ _ _ _
                have cm2 : (wr.drewN nq).cell? ⟨blk, off + (jp + 1) + (j2 + 1), none⟩ = some (enc u) := cm'
                have ck2 : (wr.drewN nq).cell? ⟨blk, off + kk, none⟩ = some (enc old) := ck
                have fk2 : (wr.drewN nq).frozen? ⟨blk, off + kk, none⟩ = false := fk
                clear cm' cp' ck fk hc
                generalize wr.drewN nq = wr6 at W6 cm2 ck2 fk2 ⊢
                go_wp2
                go_roundg (d.size - (jp + 1 + (j2 + 1 + 1)))
                case measure => omega
                case rel =>
                  refine ⟨kk + 1, j2 + 1 + 1, q2 + nq, dk.setIfInBounds kk u, by go_num, by go_num, by omega, by omega, Nat.le_refl _, ?_, (show Aside _ from ?_)⟩
                  · rw [W6.out]
                    exact putRow_set enc _ blk off dk kk u (by omega)
                  · have := I2.out.keep hlt2 (by rw [HK.out]; unfold kpOf; rw [show jp + 1 + (j2 + 1) - 1 = jp + 1 + j2 by omega, C.out.1, C.out.2, hq2]; simp)
                    rwa [C.out.1] at this
            · have hend : jp + 1 + (j2 + 1) = d.size := by omega
              have hcl : ∀ ty, (Builtin.clear_ #[39] ty #[.slice (some ⟨blk, off + kk, none⟩) (d.size - kk) (cap - kk)]).run Try.prog wr = .ok (.tuple #[]) (wr.setCells blk (off + kk) (List.replicate (d.size - kk) (enc zr))) :=
                fun ty => Lib.run_clear_slice wr _ _ ty _ t39 (fun w => by rw [ZR.out]; exact Try.zeroValue22 w) (HCL.out.cells zr) (HCL.out zr) blk (off + kk) _ _ (by omega) (fun j hj => by rw [show off + kk + j = off + (kk + j) by omega, (hHk (kk + j) (by omega)).1]; rfl) (fun j hj => by rw [show off + kk + j = off + (kk + j) by omega]; exact (hHk (kk + j) (by omega)).2)
              have y4 : (0 : Int) ≤ (j2 : Int) + 1 := by omega
              have y2 : ¬ (j2 : Int) + 1 < (d.size : Int) - ((jp : Int) + 1) := by omega
              have y7 : ((d.size - (jp + 1) : Nat) : Int) = (d.size : Int) - ((jp : Int) + 1) := by omega
              clear hHk hwr
              go_wp2
              go_ret
              have hI := I2.out
              rw [hend] at hI
              refine ⟨by rw [hI.len]; rfl, q2, ?_⟩
              rw [hI.len, ← hI.done zr, ← putRow_setCells enc _ blk off _ dk kk (by simp; omega), ← W5.out, List.map_replicate]
        | false =>
          rw [hq] at hc
          go_wp2_with fail
          go_quiet (first | (go_at_call 107; refine Calls.quiet_of (hc _)))
          go_wp2
          go_roundg (d.size - (jp + 1 + 1))
          case measure => omega
          case rel =>
            refine ⟨jp + 1 + 1, q + nq, by omega, by omega, Nat.le_refl _, by go_num, by rw [W2.out]; exact putRow_drewN _ _ _ _ _ _ _, (show Aside _ from fun j hj => ?_)⟩
            by_cases e : j = jp + 1
            · subst e
              rw [HK.out]
              unfold kpOf
              rw [B.out.1, B.out.2, hq]
              simp
            · exact A.out j (by omega)
      · have : k = d.size := by omega
        subst this
        clear hHk hwr
        go_wp2
        go_ret
        obtain ⟨e1, e2⟩ := HS.out q A.out
        exact ⟨by rw [e1]; rfl, q, by rw [← e2]; exact W2.out⟩
end Go.Proofs.Ythkmbkibceojlaa.P

-- UrowsSort
namespace Go.Proofs.Ythkmbkibceojlaa.P
set_option linter.unusedVariables false
set_option linter.unusedSimpArgs false
open Go.RowKit Go.Proofs.YthkmbkibceojlaaW.PrintWords Go.Proofs.YthkmbkibceojlaaW.PrintLast

/-- A row's inner row: its value, and what it holds. -/
structure RowAt (w : World) (base : Nat) (ok : Nat → Prop) (Pr : List Int → Prop) where
  l : List Int
  v : Value
  hR : Kd.R (Kd.int .i64) 3 w base ok v l
  hP : Pr l
theorem RowAt.one {w : World} {base : Nat} {ok : Nat → Prop} {Pr : List Int → Prop} (x : RowAt w base ok Pr) : x.v.oneCell' = true := by
  obtain ⟨A, c, e⟩ := Kd.R_slice x.hR
  rw [e]
  rfl
theorem rows_at {w : World} {base : Nat} {ok : Nat → Prop} {Pr : List Int → Prop} : ∀ (vs : List Value) (L : List (List Int)), vs.length = L.length → (∀ (j : Nat) (u : Value) (x : List Int), vs[j]? = some u → L[j]? = some x → Kd.R (Kd.int .i64) 3 w base ok u x) → (∀ x ∈ L, Pr x) → ∃ ds : List (RowAt w base ok Pr), ds.map RowAt.v = vs ∧ ds.map RowAt.l = L
  | [], [], _, _, _ => ⟨[], rfl, rfl⟩
  | [], _ :: _, h, _, _ => by simp at h
  | _ :: _, [], h, _, _ => by simp at h
  | u :: vs, x :: L, hl, h, hP => by
    obtain ⟨ds, e1, e2⟩ := rows_at vs L (by simpa using hl) (fun j u x hu hx => h (j + 1) u x (by simpa using hu) (by simpa using hx)) (fun x hx => hP x (List.mem_cons_of_mem _ hx))
    exact ⟨⟨x, u, h 0 u x rfl rfl, hP x (by simp)⟩ :: ds, by simp [e1], by simp [e2]⟩
theorem sortWorld_other {α : Type} [Inhabited α] (enc : α → Value) (w : World) (g n : Nat) (d : Array α) (os : Array Obj) (k : Nat) (hk : k < w.heap.size) (hg : k ≠ g) : (Go.Sort.grow (Go.Sort.putRow enc (Go.Sort.ahead w n) g 0 d) os).heap[k]? = w.heap[k]? := by
  have hsz : (Go.Sort.putRow enc (Go.Sort.ahead w n) g 0 d).heap.size = w.heap.size := by simp
  rw [Go.Sort.heap_grow_old _ _ (by rw [hsz]; exact hk)]
  simp only [Go.Sort.putRow, Go.Sort.mapBlock, Array.getElem?_modify]
  rw [if_neg (by omega)]
  rfl
/-- Rows whose values are those of some others, in another order or fewer, behind a world that turned the row alone. -/
theorem rows_back {w w' : World} {base : Nat} {ok ok' : Nat → Prop} {Pr : List Int → Prop} {ds' : List (RowAt w base ok Pr)} (hap : (ds'.map RowAt.v).Pairwise Apart) (hm : ∀ k, ok k → k < w.heap.size → w'.heap[k]? = w.heap[k]?) (ho : ∀ k, ok k → ok' k) : RowVals w' base ok' (ds'.map RowAt.v) (ds'.map RowAt.l) where
  len := by simp
  row := fun j u x hu hx => by
    rw [List.getElem?_map] at hu hx
    cases hz : ds'[j]? with
    | none => rw [hz] at hu; simp at hu
    | some z =>
      rw [hz] at hu hx
      obtain rfl := Option.some.inj hu
      obtain rfl := Option.some.inj hx
      exact Kd.R_mono (Kd.R_step z.hR hm) ho
  apart := hap

set_option maxHeartbeats 1000000 in
theorem rows_sort (cf : List Int → List Int → Int) (hT : Total cf) (Pr : List Int → Prop) (gf : Nat) (cb : Array Value)
    (eg : ∀ args w, (callFunc gf args).run Try.prog w = .ok (.enter gf args) w)
    (hcmp : ∀ (W : World) (A B : Option Addr) (c c' : Nat) (x y : List Int), Pr x → Pr y → Kd.C (Kd.int .i64) W A x.length x → x.length ≤ c → Kd.C (Kd.int .i64) W B y.length y → y.length ≤ c' → Calls Try.prog gf (#[.slice A x.length c, .slice B y.length c'] ++ cb) W fun e w' => e = .returned (.int .i64 (cf x y)) ∧ Drawn0 W w')
    (P0_ : Nat → Prop) (v : Value) (xs : List (List Int)) (w0 w : World) (hB : Below w0.heap.size w0 w) (hP : ∀ x ∈ xs, Pr x) (hz : xs.length < 4611686018427387904) (ho : Kd.S KII 22 w w0.heap.size P0_ v xs) :
    Calls Try.prog 77 #[v, .func (.func gf) #[] cb] w fun e w' => e = .returned (.tuple #[]) ∧ ∃ ys, ys.Perm xs ∧ (ys.Pairwise fun a b => ¬ cf b a < 0) ∧ Kd.S KII 22 w' w0.heap.size (fun k_ => (P0_ k_ ∨ w.heap.size ≤ k_)) v ys ∧ Below w0.heap.size w0 w' ∧ Kept w w' (fun k_ => P0_ k_) := by
  obtain ⟨vs, h0, hown, hv⟩ := S_vals ho
  obtain ⟨hlen, hcase⟩ := hown
  have hnone : ∀ (p : Option Addr) (cap : Nat), v = .slice p 0 cap → xs = [] → Calls Try.prog 77 #[v, .func (.func gf) #[] cb] w fun e w' => e = .returned (.tuple #[]) ∧ ∃ ys, ys.Perm xs ∧ (ys.Pairwise fun a b => ¬ cf b a < 0) ∧ Kd.S KII 22 w' w0.heap.size (fun k_ => (P0_ k_ ∨ w.heap.size ≤ k_)) v ys ∧ Below w0.heap.size w0 w' ∧ Kept w w' (fun k_ => P0_ k_) := by
    intro p cap ev ex
    subst ev ex
    refine (AnyF.slices_SortFunc_none (P := Try.prog) { Try.laysSlF6_f77 with } p cap (.func (.func gf) #[] cb) w).mono ?_
    rintro e w' ⟨rfl, rfl⟩
    exact ⟨rfl, [], .refl _, .nil, Kd.S_mono ho (fun _ h_ => .inl h_), hB, Kept.refl _ _⟩
  rcases hcase with ⟨ev, hn⟩ | ⟨g, cap, cur, ev, hg, hb, hc, hm, hs, ht⟩
  · exact hnone _ _ ev (List.eq_nil_of_length_eq_zero hn)
  · by_cases hx : xs = []
    · exact hnone _ cap (by rw [ev, hx]; rfl) hx
    · subst ev
      obtain ⟨ds, e1, e2⟩ := rows_at (Pr := Pr) vs xs hv.len hv.row hP
      have hds : ds ≠ [] := fun e => hx (by rw [← e2, e]; rfl)
      letI : Inhabited (RowAt w w0.heap.size (fun k => P0_ k ∧ some k ≠ (Value.slice (some ⟨g, 0, none⟩) xs.length cap).ownBlock) Pr) := ⟨ds.head hds⟩
      have hdl : ds.length = xs.length := by have := congrArg List.length e2; simpa using this
      have ht' : cur.toList.take ds.length = ds.map RowAt.v := by rw [hdl, e1]; simpa using ht
      have hok : P0_ g := h0 g rfl
      have hlt : g < w.heap.size := (Array.getElem?_eq_some_iff.1 hb).1
      have hng : ∀ k, (P0_ k ∧ some k ≠ (Value.slice (some ⟨g, 0, none⟩) xs.length cap).ownBlock) → k ≠ g := fun k hk e => hk.2 (by rw [e]; rfl)
      have hC := Go.Proofs.Any.slices_SortFunc (P := Try.prog) Try.laysSlF6_f77 (RowAt.v (w := w) (base := w0.heap.size) (ok := fun k => P0_ k ∧ some k ≠ (Value.slice (some ⟨g, 0, none⟩) xs.length cap).ownBlock) (Pr := Pr)) RowAt.one (fun a b => cf a.l b.l)
        { irrefl := fun x => hT.swo.irrefl x.l, trans := fun x y z => hT.swo.trans x.l y.l z.l, ntrans := fun x y z => hT.swo.ntrans x.l y.l z.l } gf cb g 0 cap ds.toArray w eg
        (CmpReads.lays fun m os dk hsd x y => by
          have hx := Kd.R_step (w1 := sortWorld RowAt.v w g 0 m dk os) x.hR (fun k hk hlk => sortWorld_other _ _ _ _ _ _ k hlk (hng k hk))
          have hy := Kd.R_step (w1 := sortWorld RowAt.v w g 0 m dk os) y.hR (fun k hk hlk => sortWorld_other _ _ _ _ _ _ k hlk (hng k hk))
          obtain ⟨A, c, ea, ha, hra⟩ := Kd.R_reads hx
          obtain ⟨B, c', eb, hbb, hrb⟩ := Kd.R_reads hy
          rw [ea, eb]
          refine (hcmp _ A B c c' x.l y.l x.hP y.hP hra ha hrb hbb).mono ?_
          rintro e w' ⟨rfl, ⟨q, rfl⟩⟩
          exact ⟨rfl, q, rfl⟩)
        (scalar_holds hb ht') hlt (by simpa [hdl] using hz)
      rw [show ds.toArray.size = xs.length by simpa using hdl] at hC
      refine hC.mono ?_
      rintro e w' ⟨rfl, d', n, os, hp, hso, hw⟩
      have hsz : d'.size = ds.length := by simpa using hp.1
      have hperm : d'.toList.Perm ds := by
        have := hp.2.2
        rw [show d'.extract 0 xs.length = d' by rw [← hdl, ← hsz]; exact Array.extract_size, show ds.toArray.extract 0 xs.length = ds.toArray by rw [show xs.length = ds.toArray.size by simpa using hdl.symm]; exact Array.extract_size] at this
        simpa using this
      have hS := scalar_sorted (enc := RowAt.v) (h1 := RowAt.one) (xs := ds) (ys := d'.toList) (cap := cap) (ok := P0_) hB hok hg hb (by rw [hdl]; exact hc) hm (by simpa using hs) (by simpa using hsz) n os w' (by rw [hw]; simp [sortWorld])
      obtain ⟨hown1, hown2⟩ := scalar_R.1 hS.1
      have hap : (d'.toList.map RowAt.v).Pairwise Apart := by
        refine ((hperm.map RowAt.v).pairwise_iff (fun h => Apart.symm h)).2 ?_
        rw [e1]
        exact hv.apart
      refine ⟨rfl, d'.toList.map RowAt.l, by rw [← e2]; exact hperm.map _, ?_, ?_, hS.2⟩
      · rw [List.pairwise_map, List.pairwise_iff_getElem]
        intro i j hi hj hij
        have h1 := hso i j (Nat.zero_le _) hij (by rw [← hdl, ← hsz]; simpa using hj)
        have h2 : i < d'.size := by simpa using hi
        have h3 : j < d'.size := by simpa using hj
        rw [getElem!_pos d' i h2, getElem!_pos d' j h3] at h1
        simpa [ltOf] using h1
      · have hl2 : (d'.toList.map RowAt.l).length = xs.length := by simp [hsz, hdl]
        refine vals_S (vs := d'.toList.map RowAt.v) (fun k hk => .inl (by simp [Value.ownBlock] at hk; exact hk ▸ hok)) ?_ (rows_back hap (fun k hk hlk => ?_) (fun k hk => ⟨.inl hk.1, hk.2⟩))
        · rw [List.length_map]
          rw [hdl] at hown2
          exact hown2
        · rw [hw]
          exact sortWorld_other _ _ _ _ _ _ k hlk (hng k hk)

/-- What is kept of a sorted row: its elements, once each. -/
theorem kept_sorted {α : Type} [Inhabited α] (key : α → List Int) (p : α → α → Bool) (hp : ∀ u v, p u v = decide (key u = key v)) (d : Array α) (hs : (d.toList.map key).Pairwise fun a b => ¬ cmpL b a < 0) :
    ((Go.Lib.keptUpTo (kpOf p d) d d.size).map key).Pairwise (fun a b => cmpL a b < 0) ∧ ∀ z, z ∈ (Go.Lib.keptUpTo (kpOf p d) d d.size).map key ↔ z ∈ d.toList.map key := by
  have hle : ∀ i j, i ≤ j → j < d.size → ¬ cmpL (key d[j]!) (key d[i]!) < 0 := by
    intro i j hij hj
    rcases Nat.lt_or_eq_of_le hij with h | h
    · rw [List.pairwise_map, List.pairwise_iff_getElem] at hs
      have := hs i j (by simp; omega) (by simpa using hj) h
      rw [getElem!_pos d i (by omega), getElem!_pos d j hj]
      simpa using this
    · subst h
      rw [cmpL_self]
      omega
  constructor
  · rw [List.pairwise_map]
    unfold Go.Lib.keptUpTo
    rw [List.pairwise_map]
    have hr : ((List.range d.size).filter (kpOf p d)).Pairwise fun i j => i < j ∧ j < d.size ∧ kpOf p d j = true := by
      have h1 : ((List.range d.size).filter (kpOf p d)).Pairwise (· < ·) := List.Pairwise.sublist List.filter_sublist List.pairwise_lt_range
      rw [List.pairwise_iff_getElem] at h1 ⊢
      intro i j hi hj hij
      have h2 := List.getElem_mem hj
      rw [List.mem_filter, List.mem_range] at h2
      exact ⟨h1 i j hi hj hij, h2⟩
    refine hr.imp ?_
    rintro i j ⟨hij, hj, hk⟩
    have h1 := hle i (j - 1) (by omega) (by omega)
    have h2 := hle (j - 1) j (by omega) hj
    have h3 : key d[j]! ≠ key d[j - 1]! := by
      unfold kpOf at hk
      rw [hp] at hk
      simp at hk
      rcases hk with h | h
      · omega
      · exact h
    by_cases e1 : cmpL (key d[j - 1]!) (key d[j]!) = 0
    · exact absurd (cmpL_eq _ _ e1).symm h3
    · have h4 : cmpL (key d[j - 1]!) (key d[j]!) < 0 := by rw [cmpL_anti] at h2; omega
      by_cases e2 : cmpL (key d[i]!) (key d[j - 1]!) = 0
      · rw [cmpL_eq _ _ e2]; exact h4
      · refine cmpL_trans _ _ _ ?_ h4
        rw [cmpL_anti] at h1
        omega
  · intro z
    constructor
    · intro hz
      obtain ⟨x, hx, rfl⟩ := List.mem_map.1 hz
      unfold Go.Lib.keptUpTo at hx
      obtain ⟨j, hj, rfl⟩ := List.mem_map.1 hx
      rw [List.mem_filter, List.mem_range] at hj
      refine List.mem_map.2 ⟨_, ?_, rfl⟩
      rw [getElem!_pos d j hj.1]
      simp
    · intro hz
      obtain ⟨x, hx, rfl⟩ := List.mem_map.1 hz
      obtain ⟨j, hj, rfl⟩ := List.getElem_of_mem hx
      have hj' : j < d.size := by simpa using hj
      have hgo : ∀ m, m < d.size → ∃ i, i < d.size ∧ kpOf p d i = true ∧ key d[i]! = key d[m]! := by
        intro m
        induction m with
        | zero => intro hm; exact ⟨0, hm, rfl, rfl⟩
        | succ m ih =>
          intro hm
          by_cases hk : kpOf p d (m + 1) = true
          · exact ⟨m + 1, hm, hk, rfl⟩
          · obtain ⟨i, hi, hki, he⟩ := ih (by omega)
            refine ⟨i, hi, hki, he.trans ?_⟩
            unfold kpOf at hk
            rw [hp] at hk
            simp at hk
            exact hk.symm
      obtain ⟨i, hi, hki, he⟩ := hgo j hj'
      refine List.mem_map.2 ⟨d[i]!, ?_, ?_⟩
      · unfold Go.Lib.keptUpTo
        exact List.mem_map.2 ⟨i, List.mem_filter.2 ⟨List.mem_range.2 hi, hki⟩, rfl⟩
      · rw [he, getElem!_pos d j hj']
        simp

set_option maxHeartbeats 1000000 in
theorem rows_compact (P0_ : Nat → Prop) (v : Value) (xs : List (List Int)) (w0 w : World) (hB : Below w0.heap.size w0 w) (hP : ∀ x ∈ xs, x.length < 9223372036854775807) (hs : xs.Pairwise fun a b => ¬ cmpL b a < 0) (ho : Kd.S KII 22 w w0.heap.size P0_ v xs) :
    Calls Try.prog 106 #[v, .func (.func 107) #[] #[]] w fun e w' => ∃ v', e = .returned v' ∧ ∃ ys, (ys.Pairwise fun a b => cmpL a b < 0) ∧ (∀ z, z ∈ ys ↔ z ∈ xs) ∧ Kd.S KII 22 w' w0.heap.size (fun k_ => (P0_ k_ ∨ w.heap.size ≤ k_)) v' ys ∧ Below w0.heap.size w0 w' ∧ Kept w w' (fun k_ => P0_ k_) := by
  obtain ⟨vs, h0, hown, hv⟩ := S_vals ho
  obtain ⟨hlen, hcase⟩ := hown
  rcases hcase with ⟨ev, hn⟩ | ⟨g, cap, cur, ev, hg, hb, hc, hm, hcs, ht⟩
  · obtain rfl : xs = [] := List.eq_nil_of_length_eq_zero hn
    subst ev
    go_enter Try.func106, Try.ntmps106
    go_wp2
    go_ret
    exact ⟨_, rfl, [], .nil, by simp, Kd.S_nil _ _ _ _ _, hB, Kept.refl _ _⟩
  · subst ev
    obtain ⟨ds, e1, e2⟩ := rows_at (Pr := fun x => x.length < 9223372036854775807) vs xs hv.len hv.row hP
    let nil_ : RowAt w w0.heap.size (fun k => P0_ k ∧ some k ≠ (Value.slice (some ⟨g, 0, none⟩) xs.length cap).ownBlock) (fun x => x.length < 9223372036854775807) := ⟨[], .slice none 0 0, Kd.R_nil _ _ _ _ _, by decide⟩
    letI : Inhabited (RowAt w w0.heap.size (fun k => P0_ k ∧ some k ≠ (Value.slice (some ⟨g, 0, none⟩) xs.length cap).ownBlock) (fun x => x.length < 9223372036854775807)) := ⟨nil_⟩
    have hdl : ds.length = xs.length := by have := congrArg List.length e2; simpa using this
    have ht' : cur.toList.take ds.length = ds.map RowAt.v := by rw [hdl, e1]; simpa using ht
    have hok : P0_ g := h0 g rfl
    have hlt : g < w.heap.size := (Array.getElem?_eq_some_iff.1 hb).1
    have hng : ∀ k, (P0_ k ∧ some k ≠ (Value.slice (some ⟨g, 0, none⟩) xs.length cap).ownBlock) → k ≠ g := fun k hk e => hk.2 (by rw [e]; rfl)
    have hgrow0 : ∀ W : World, Go.Sort.grow W #[] = W := fun W => Go.Sort.grow_empty W
    have hC := compact_walk (RowAt.v (w := w) (base := w0.heap.size) (ok := fun k => P0_ k ∧ some k ≠ (Value.slice (some ⟨g, 0, none⟩) xs.length cap).ownBlock) (Pr := fun x => x.length < 9223372036854775807)) RowAt.one (fun a b => decide (a.l = b.l)) nil_ rfl g 0 cap ds.toArray w
      (fun dk x y q hsd => by
        have hst : ∀ k, (P0_ k ∧ some k ≠ (Value.slice (some ⟨g, 0, none⟩) xs.length cap).ownBlock) → k < w.heap.size → (Go.Sort.putRow RowAt.v (Go.Sort.ahead w q) g 0 dk).heap[k]? = w.heap[k]? := fun k hk hlk => by
          have := sortWorld_other RowAt.v w g q dk #[] k hlk (hng k hk)
          rwa [hgrow0] at this
        have hx := Kd.R_step (w1 := Go.Sort.putRow RowAt.v (Go.Sort.ahead w q) g 0 dk) x.hR hst
        have hy := Kd.R_step (w1 := Go.Sort.putRow RowAt.v (Go.Sort.ahead w q) g 0 dk) y.hR hst
        obtain ⟨A, c, ea, ha, hra⟩ := Kd.R_reads hx
        obtain ⟨B, c', eb, hbb, hrb⟩ := Kd.R_reads hy
        rw [ea, eb]
        refine (slices_Equal_int_int.calls (x.l.length + 1) A c x.l B c' y.l (decide (x.l = y.l)) _ hra ha hrb hbb (equal_ev x.l y.l x.hP)).mono ?_
        rintro e w' ⟨rfl, ⟨q', rfl⟩⟩
        exact ⟨rfl, q', rfl⟩)
      (scalar_holds hb ht') (by have : cap ≤ 9223372036854775807 := hm; simp only [List.size_toArray]; omega) (by simp only [List.size_toArray]; omega)
    rw [show ds.toArray.size = xs.length by simpa using hdl] at hC
    refine hC.mono ?_
    rintro e w' ⟨rfl, q, hw⟩
    obtain ⟨ks, hks⟩ : ∃ ks, ks = Go.Lib.keptUpTo (kpOf (fun a b : RowAt w w0.heap.size (fun k => P0_ k ∧ some k ≠ (Value.slice (some ⟨g, 0, none⟩) xs.length cap).ownBlock) (fun x => x.length < 9223372036854775807) => decide (a.l = b.l)) ds.toArray) ds.toArray ds.toArray.size := ⟨_, rfl⟩
    have hks2 : Go.Lib.keptUpTo (kpOf (fun a b : RowAt w w0.heap.size (fun k => P0_ k ∧ some k ≠ (Value.slice (some ⟨g, 0, none⟩) xs.length cap).ownBlock) (fun x => x.length < 9223372036854775807) => decide (a.l = b.l)) ds.toArray) ds.toArray xs.length = ks := by rw [hks]; congr 1; simpa using hdl.symm
    rw [hks2] at hw ⊢
    have hrange : (List.range ds.toArray.size).map (fun j => ds.toArray[j]!) = ds := by
      apply List.ext_getElem
      · simp
      · intro i hi1 hi2
        simp [hi2]
    have hsub : ks.Sublist ds := by
      rw [hks]
      unfold Go.Lib.keptUpTo
      have h1 := List.Sublist.map (fun j => ds.toArray[j]!) (List.filter_sublist (p := kpOf (fun a b : RowAt w w0.heap.size (fun k => P0_ k ∧ some k ≠ (Value.slice (some ⟨g, 0, none⟩) xs.length cap).ownBlock) (fun x => x.length < 9223372036854775807) => decide (a.l = b.l)) ds.toArray) (l := List.range ds.toArray.size))
      rw [hrange] at h1
      exact h1
    have hlk : ks.length ≤ ds.length := hsub.length_le
    have hS := scalar_sorted (enc := RowAt.v) (h1 := RowAt.one) (xs := ds) (ys := ks ++ List.replicate (xs.length - ks.length) nil_) (cap := cap) (ok := P0_) hB hok hg hb (by rw [hdl]; exact hc) hm (by simpa using hcs) (by simp; omega) q #[] w' (by rw [hw, hgrow0])
    have hTk := scalar_take hS.1 ks.length (by simp)
    rw [List.take_left] at hTk
    obtain ⟨hown1, hown2⟩ := scalar_R.1 hTk
    have hKS := kept_sorted (fun a : RowAt w w0.heap.size (fun k => P0_ k ∧ some k ≠ (Value.slice (some ⟨g, 0, none⟩) xs.length cap).ownBlock) (fun x => x.length < 9223372036854775807) => a.l) (fun a b => decide (a.l = b.l)) (fun u v => rfl) ds.toArray (by rw [show ds.toArray.toList.map (fun a => a.l) = xs from e2]; exact hs)
    rw [← hks] at hKS
    have hap : (ks.map RowAt.v).Pairwise Apart := List.Pairwise.sublist (hsub.map RowAt.v) (by rw [e1]; exact hv.apart)
    refine ⟨_, rfl, ks.map RowAt.l, hKS.1, fun z => (hKS.2 z).trans (by rw [show ds.toArray.toList.map (fun a => a.l) = xs from e2]), ?_, hS.2⟩
    refine vals_S (vs := ks.map RowAt.v) hown1 ?_ (rows_back hap (fun k hk hlk2 => ?_) (fun k hk => ⟨.inl hk.1, hk.2⟩))
    · rw [List.length_map]
      exact hown2
    · rw [hw]
      have := sortWorld_other RowAt.v w g q (ks ++ List.replicate (xs.length - ks.length) nil_).toArray #[] k hlk2 (hng k hk)
      rwa [hgrow0] at this
end Go.Proofs.Ythkmbkibceojlaa.P

-- Gups
namespace Go.Proofs.Ythkmbkibceojlaa.P
open Go.Shelf Go.RowKit Go.Proofs.YthkmbkibceojlaaW.PrintWords Go.Proofs.YthkmbkibceojlaaW.PrintLast
set_option linter.unusedVariables false
set_option linter.unusedSimpArgs false

theorem compare_enters : ∀ args w, (callFunc 78 args).run Try.prog w = .ok (.enter 78 args) w := fun args w => enters_of Try.func78 (by kernel_rfl) rfl args w
theorem compare_at (W : World) (A B : Option Addr) (c c' : Nat) (x y : List Int) (hx : x.length < 9223372036854775807) (hy : y.length < 9223372036854775807) (h1 : Kd.C (Kd.int .i64) W A x.length x) (h2 : x.length ≤ c) (h3 : Kd.C (Kd.int .i64) W B y.length y) (h4 : y.length ≤ c') : Calls Try.prog 78 (#[.slice A x.length c, .slice B y.length c'] ++ #[]) W fun e w' => e = .returned (.int .i64 (cmpL x y)) ∧ Drawn0 W w' :=
  slices_Compare_int_int.calls (x.length + 1) A c x B c' y (cmpL x y) W h1 h2 h3 h4 (compare_ev x y hx)

def impl_ups.l0 : Nat → List Int → Int → List (List Int) → Int → Option (List (List Int))
  | 0, _, _, _, _ => none
  | k + 1, t, most, o, i => if i < 3 then (impl_moved.f t i).bind fun u => (if 2 < (u.length : Int) then (if 2 < (t.length : Int) then (if rd t 2 < rd u 2 then (if rd u 2 ≤ most then (if o.length < 1000000000 then (if u.length < 9223372036854775807 then impl_ups.l0 k t most (o ++ [u]) (wrap64 (i + 1)) else none) else none) else impl_ups.l0 k t most o (wrap64 (i + 1))) else impl_ups.l0 k t most o (wrap64 (i + 1))) else none) else none) else some (sortDedup o)
def impl_ups.f (k : Nat) (l0 : List Int) (a1 : Int) : Option (List (List Int)) := impl_ups.l0 k l0 a1 [] 0
theorem impl_ups.mono_l : ∀ k, (∀ y0 y1 y2 y3, LeO (impl_ups.l0 k y0 y1 y2 y3) (impl_ups.l0 (k + 1) y0 y1 y2 y3))
  | 0 => fun _ _ _ _ r h => by simp [impl_ups.l0] at h
  | k + 1 => by
    have ih0 := impl_ups.mono_l k
    intro y0 y1 y2 y3
    unfold impl_ups.l0
    repeat' first
      | (with_reducible exact ih0 _ _ _ _)
      | (with_reducible exact LeO.refl _)
      | (with_reducible exact LeO.none _)
      | (with_reducible refine LeO.ite ?_ ?_)
      | (with_reducible refine LeO.bind ?_ (fun _ => ?_))
theorem impl_ups.mono : ∀ a0 a1 k, LeO (impl_ups.f k a0 a1) (impl_ups.f (k + 1) a0 a1) := by
  intro a0 a1 k
  unfold impl_ups.f
  exact impl_ups.mono_l k _ _ _ _

set_option maxHeartbeats 4000000 in
set_option maxRecDepth 100000 in
theorem impl_ups.calls (k : Nat) (A0 : Option Addr) (c0 : Nat) (l0 : List Int) (a1 : Int) (r : List (List Int)) (w : World) (hr0 : Kd.C (Kd.int .i64) w A0 l0.length l0) (hc0 : l0.length ≤ c0) (h : impl_ups.f k l0 a1 = some r) :
    Calls Try.prog 89 #[.slice A0 l0.length c0, .int .i64 a1] w fun e w' => ∃ v0_ : Value, e = .returned (v0_) ∧ Kd.S (Kd.slice 3 (Kd.int .i64)) 22 w' w.heap.size (fun _ => True) v0_ r ∧ Below w.heap.size w w' := by
  have HR0 := Aside0.mk hr0
  have HC0 := Aside0.mk hc0
  have H' := Aside0.mk (show impl_ups.l0 k l0 a1 [] 0 = some r from h)
  have HB := Aside0.mk (Below.refl w.heap.size w)
  clear hr0 hc0 h
  go_enter Try.func89, Try.ntmps89
  go_wp2_with (first
    | ((with_reducible refine gate_dst (N := 8) rfl ?_); refine Kd.S_lits (Kd.slice 3 (Kd.int .i64)) (w0 := w) w.heap.size 22 ?hg (N := 8) ?hd (xs := []) (inner := []) (ok := fun _ => True) (fun j k_ => False) ?hr rfl ?hp ?ha (fun _ _ _ => trivial) trivial ?hB ?hs (by simp) ?_; (case hd => rfl); (case hg => rfl); (case hr => first | (go_simp; done) | (go_simp; rfl)); (case hp => intro j x hj; simp at hj); (case ha => intro i j k_ h1 _; exact h1.elim); (case hB => exact HB.out); (case hs => exact below_size HB.out); intro v2 w2 ho hb hg hat; have n2_ := Aside0.mk ho; have n3_ := Aside0.mk hb; clear HB; have HO6 := n2_; have HB := n3_; clear n2_ n3_ ho hb hg hat))
  go_loopg [5, 9] k (fun kq v5 v9 w' => ∃ (o : List (List Int)) (i : Int), v9 = .int .i64 i ∧ Aside0 (0 ≤ i ∧ i < 1000) ∧ Aside0 (impl_ups.l0 kq l0 a1 o i = some r) ∧ Aside0 (kq ≤ k) ∧ Aside0 (∀ x ∈ o, x.length < 9223372036854775807) ∧ Aside0 (o.length < 1000000001) ∧ Aside0 (Kd.S (Kd.slice 3 (Kd.int .i64)) 22 w' w.heap.size (fun _ => True) v5 o) ∧ Aside0 (Below w.heap.size w w'))
  case atStart => exact ⟨[], 0, rfl, ⟨by omega⟩, H', ⟨Nat.le_refl _⟩, ⟨by simp⟩, ⟨by simp⟩, ⟨HO6.out⟩, ⟨HB.out⟩⟩
  case round =>
    clear H' HO6 HB
    obtain ⟨o, i, rfl, HI, HA, HK1, HP, HL, HO6, HB⟩ := hrel
    cases gk with
    | zero => exact absurd HA.out (by simp [impl_ups.l0])
    | succ k1 =>
      have H := HA.out
      clear HA
      simp only [impl_ups.l0] at H
      by_cases c2 : i < 3
      · have HI3 := Aside0.mk c2
        rw [if_pos c2] at H
        have c2b0 : decide (i < 3) = true := decide_eq_true c2
        clear c2
        obtain ⟨u, A3, H⟩ := Option.bind_eq_some_iff.mp H
        have HA3 := Aside0.mk A3
        clear A3
        by_cases c5 : 2 < (u.length : Int)
        · rw [if_pos c5] at H
          have c5b0 : decide (2 < (u.length : Int)) = true := decide_eq_true c5
          have c5b1 : decide (2 < u.length) = true := decide_eq_true (by omega)
          clear c5
          by_cases c6 : 2 < (l0.length : Int)
          · rw [if_pos c6] at H
            have c6b0 : decide (2 < (l0.length : Int)) = true := decide_eq_true c6
            have c6b1 : decide (2 < l0.length) = true := decide_eq_true (by omega)
            clear c6
            by_cases c7 : rd l0 2 < rd u 2
            · rw [if_pos c7] at H
              have c7b0 : decide (rd l0 2 < rd u 2) = true := decide_eq_true c7
              clear c7
              by_cases c8 : rd u 2 ≤ a1
              · rw [if_pos c8] at H
                have c8b0 : decide (rd u 2 ≤ a1) = true := decide_eq_true c8
                clear c8
                by_cases c9 : o.length < 1000000000
                · rw [if_pos c9] at H
                  have LM := Aside0.mk c9
                  clear c9
                  by_cases c10 : u.length < 9223372036854775807
                  · rw [if_pos c10] at H
                    have HU := Aside0.mk c10
                    have H' := Aside0.mk H
                    clear H c10
                    go_wp2_with (first
                      | (go_at_call 69; refine (impl_moved.calls _ _ l0 i u _ (by repeat (first | exact (Kd.C_below HR0.out HB.out) | (with_reducible refine Kd.C_alloc ?_ _) | (with_reducible refine Kd.C_drewN ?_ _) | (with_reducible refine Kd.C_drew ?_))) HC0.out HA3.out).mono ?_; rintro e w4 ⟨v4, rfl, ho0, hb⟩; have n1_ := Aside0.mk (Kd.S_elder' (by (with_reducible repeat (first | apply Kd.S_alloc | apply Kd.S_drewN | apply Kd.S_drew)); exact HO6.out) (Kd.R_base ho0) hb); have n2_ := Aside0.mk (below_step (by repeat (first | (with_reducible first | exact HB.out | apply below_alloc | apply pw_below_drewN | apply below_drew1) | exact HB.out)) hb); have n0_ := Aside0.mk (Kd.R_lower ho0 (below_size (by repeat (first | (with_reducible first | exact HB.out | apply below_alloc | apply pw_below_drewN | apply below_drew1) | exact HB.out)))); clear HO6 HB; have HO5 := n0_; have HO6 := n1_; have HB := n2_; clear n0_ n1_ n2_ hb ho0; obtain ⟨Ao4, co4, eo4⟩ := Kd.R_slice HO5.out; subst eo4; have p1 : 0 ≤ (2 : Int) := (by omega); have q1 : 2 < (u.length : Int) := of_decide_eq_true (by first | (with_reducible assumption) | assumption); obtain ⟨ad1, e1, hx1⟩ := Kd.at_int (Kd.R_reads' HO5.out).2.2 2 p1 q1; cases e1; (try simp only [show (2 : Int).toNat = 2 from rfl, Nat.reduceMul, Nat.reduceEqDiff, Go.Addr.add, ↓reduceIte] at hx1); have qi1 : (2 < u.length) = True := eq_true (by omega); (try rw [show ((2 : Int)).toNat = 2 from rfl] at hx1); replace p1 := eq_true p1; replace q1 := eq_true q1; have p2 : 0 ≤ (2 : Int) := (by omega); have q2 : 2 < (l0.length : Int) := of_decide_eq_true (by first | (with_reducible assumption) | assumption); obtain ⟨ad2, e2, hx2⟩ := Kd.at_int HR0.out 2 p2 q2; cases e2; (try simp only [show (2 : Int).toNat = 2 from rfl, Nat.reduceMul, Nat.reduceEqDiff, Go.Addr.add, ↓reduceIte] at hx2); have qi2 : (2 < l0.length) = True := eq_true (by omega); (try rw [show ((2 : Int)).toNat = 2 from rfl] at hx2); replace hx2 := (HB.out.cell (World.block_lt_of_cell? w _ hx2)).trans hx2; replace p2 := eq_true p2; replace q2 := eq_true q2)
                      | ((with_reducible refine gate_builtin (b := .append) (xs := #[.tmp 29, .tmp 31]) rfl ?_); at_builtin; refine Kd.S_append (Kd.slice 3 (Kd.int .i64)) (w0 := w) w.heap.size rfl (.tmp 29) (.tmp 31) 39 22 (.slice none 0 0) 24 rfl Try.underlying39 info22 rfl (by decide) (by omega) u5 o u [.slice (some ad1) u.length co4] (fun _ => True) (fun k_ => some k_ = (Value.slice (some ad1) u.length co4).ownBlock) rfl rfl ?aP ?aK (fun _ _ => trivial) ?aO ?aB ?aS ?aL ?_; (case aP => exact ⟨_, rfl, Kd.R_tight rfl HO5.out⟩); (case aK => exact fun k_ hk => ⟨trivial, ((Kd.R_apart' HO5.out (Kd.S_typed HO6.out) (by decide)).1 k_ hk.symm).2⟩); (case aO => (with_reducible repeat (first | apply Kd.S_alloc | apply Kd.S_drewN | apply Kd.S_drew)); exact Kd.S_mono HO6.out (fun k_ hk => ⟨trivial, hk.2⟩)); (case aB => exact (by repeat (first | (with_reducible first | exact HB.out | apply below_alloc | apply pw_below_drewN | apply below_drew1) | exact HB.out))); (case aS => exact (below_size (by repeat (first | (with_reducible first | exact HB.out | apply below_alloc | apply pw_below_drewN | apply below_drew1) | exact HB.out)))); (case aL => have := LM.out; omega); intro v7 w7 ho hb hg hat; clear HO5 HO6 HB; have HO6 := Aside0.mk ho; have HB := Aside0.mk hb; clear ho hb hg hat))
                    repeat (go_quiet (fail); try go_wp2_with (first
                      | (go_at_call 69; refine (impl_moved.calls _ _ l0 i u _ (by repeat (first | exact (Kd.C_below HR0.out HB.out) | (with_reducible refine Kd.C_alloc ?_ _) | (with_reducible refine Kd.C_drewN ?_ _) | (with_reducible refine Kd.C_drew ?_))) HC0.out HA3.out).mono ?_; rintro e w4 ⟨v4, rfl, ho0, hb⟩; have n1_ := Aside0.mk (Kd.S_elder' (by (with_reducible repeat (first | apply Kd.S_alloc | apply Kd.S_drewN | apply Kd.S_drew)); exact HO6.out) (Kd.R_base ho0) hb); have n2_ := Aside0.mk (below_step (by repeat (first | (with_reducible first | exact HB.out | apply below_alloc | apply pw_below_drewN | apply below_drew1) | exact HB.out)) hb); have n0_ := Aside0.mk (Kd.R_lower ho0 (below_size (by repeat (first | (with_reducible first | exact HB.out | apply below_alloc | apply pw_below_drewN | apply below_drew1) | exact HB.out)))); clear HO6 HB; have HO5 := n0_; have HO6 := n1_; have HB := n2_; clear n0_ n1_ n2_ hb ho0; obtain ⟨Ao4, co4, eo4⟩ := Kd.R_slice HO5.out; subst eo4; have p1 : 0 ≤ (2 : Int) := (by omega); have q1 : 2 < (u.length : Int) := of_decide_eq_true (by first | (with_reducible assumption) | assumption); obtain ⟨ad1, e1, hx1⟩ := Kd.at_int (Kd.R_reads' HO5.out).2.2 2 p1 q1; cases e1; (try simp only [show (2 : Int).toNat = 2 from rfl, Nat.reduceMul, Nat.reduceEqDiff, Go.Addr.add, ↓reduceIte] at hx1); have qi1 : (2 < u.length) = True := eq_true (by omega); (try rw [show ((2 : Int)).toNat = 2 from rfl] at hx1); replace p1 := eq_true p1; replace q1 := eq_true q1; have p2 : 0 ≤ (2 : Int) := (by omega); have q2 : 2 < (l0.length : Int) := of_decide_eq_true (by first | (with_reducible assumption) | assumption); obtain ⟨ad2, e2, hx2⟩ := Kd.at_int HR0.out 2 p2 q2; cases e2; (try simp only [show (2 : Int).toNat = 2 from rfl, Nat.reduceMul, Nat.reduceEqDiff, Go.Addr.add, ↓reduceIte] at hx2); have qi2 : (2 < l0.length) = True := eq_true (by omega); (try rw [show ((2 : Int)).toNat = 2 from rfl] at hx2); replace hx2 := (HB.out.cell (World.block_lt_of_cell? w _ hx2)).trans hx2; replace p2 := eq_true p2; replace q2 := eq_true q2)
                      | ((with_reducible refine gate_builtin (b := .append) (xs := #[.tmp 29, .tmp 31]) rfl ?_); at_builtin; refine Kd.S_append (Kd.slice 3 (Kd.int .i64)) (w0 := w) w.heap.size rfl (.tmp 29) (.tmp 31) 39 22 (.slice none 0 0) 24 rfl Try.underlying39 info22 rfl (by decide) (by omega) u5 o u [.slice (some ad1) u.length co4] (fun _ => True) (fun k_ => some k_ = (Value.slice (some ad1) u.length co4).ownBlock) rfl rfl ?aP ?aK (fun _ _ => trivial) ?aO ?aB ?aS ?aL ?_; (case aP => exact ⟨_, rfl, Kd.R_tight rfl HO5.out⟩); (case aK => exact fun k_ hk => ⟨trivial, ((Kd.R_apart' HO5.out (Kd.S_typed HO6.out) (by decide)).1 k_ hk.symm).2⟩); (case aO => (with_reducible repeat (first | apply Kd.S_alloc | apply Kd.S_drewN | apply Kd.S_drew)); exact Kd.S_mono HO6.out (fun k_ hk => ⟨trivial, hk.2⟩)); (case aB => exact (by repeat (first | (with_reducible first | exact HB.out | apply below_alloc | apply pw_below_drewN | apply below_drew1) | exact HB.out))); (case aS => exact (below_size (by repeat (first | (with_reducible first | exact HB.out | apply below_alloc | apply pw_below_drewN | apply below_drew1) | exact HB.out)))); (case aL => have := LM.out; omega); intro v7 w7 ho hb hg hat; clear HO5 HO6 HB; have HO6 := Aside0.mk ho; have HB := Aside0.mk hb; clear ho hb hg hat)))
                    go_roundg k1
                    case measure => have := HK1.out; omega
                    case rel => exact ⟨o ++ [u], wrap64 (i + 1), (by first | rfl | (simp; done) | (simp [*]; done)), ⟨by have := HI.out; have := HI3.out; unfold wrap64; omega⟩, H', ⟨by have := HK1.out; omega⟩, ⟨fun x hx => by rcases List.mem_append.1 hx with h_ | h_; exact HP.out x h_; (simp at h_; exact h_ ▸ HU.out)⟩, ⟨by have := LM.out; simp; omega⟩, ⟨by (with_reducible repeat (first | apply Kd.S_alloc | apply Kd.S_drewN | apply Kd.S_drew)); exact Kd.S_mono HO6.out (fun _ _ => trivial)⟩, ⟨by repeat (first | (with_reducible first | exact HB.out | apply below_alloc | apply pw_below_drewN | apply below_drew1) | exact HB.out)⟩⟩
                  · rw [if_neg c10] at H
                    exact absurd H (by simp)
                · rw [if_neg c9] at H
                  exact absurd H (by simp)
              · rw [if_neg c8] at H
                have c8b0 : decide (rd u 2 ≤ a1) = false := decide_eq_false c8
                clear c8
                have H' := Aside0.mk H
                clear H
                go_wp2_with (first
                  | (go_at_call 69; refine (impl_moved.calls _ _ l0 i u _ (by repeat (first | exact (Kd.C_below HR0.out HB.out) | (with_reducible refine Kd.C_alloc ?_ _) | (with_reducible refine Kd.C_drewN ?_ _) | (with_reducible refine Kd.C_drew ?_))) HC0.out HA3.out).mono ?_; rintro e w4 ⟨v4, rfl, ho0, hb⟩; have n1_ := Aside0.mk (Kd.S_elder' (by (with_reducible repeat (first | apply Kd.S_alloc | apply Kd.S_drewN | apply Kd.S_drew)); exact HO6.out) (Kd.R_base ho0) hb); have n2_ := Aside0.mk (below_step (by repeat (first | (with_reducible first | exact HB.out | apply below_alloc | apply pw_below_drewN | apply below_drew1) | exact HB.out)) hb); have n0_ := Aside0.mk (Kd.R_lower ho0 (below_size (by repeat (first | (with_reducible first | exact HB.out | apply below_alloc | apply pw_below_drewN | apply below_drew1) | exact HB.out)))); clear HO6 HB; have HO5 := n0_; have HO6 := n1_; have HB := n2_; clear n0_ n1_ n2_ hb ho0; obtain ⟨Ao4, co4, eo4⟩ := Kd.R_slice HO5.out; subst eo4; have p1 : 0 ≤ (2 : Int) := (by omega); have q1 : 2 < (u.length : Int) := of_decide_eq_true (by first | (with_reducible assumption) | assumption); obtain ⟨ad1, e1, hx1⟩ := Kd.at_int (Kd.R_reads' HO5.out).2.2 2 p1 q1; cases e1; (try simp only [show (2 : Int).toNat = 2 from rfl, Nat.reduceMul, Nat.reduceEqDiff, Go.Addr.add, ↓reduceIte] at hx1); have qi1 : (2 < u.length) = True := eq_true (by omega); (try rw [show ((2 : Int)).toNat = 2 from rfl] at hx1); replace p1 := eq_true p1; replace q1 := eq_true q1; have p2 : 0 ≤ (2 : Int) := (by omega); have q2 : 2 < (l0.length : Int) := of_decide_eq_true (by first | (with_reducible assumption) | assumption); obtain ⟨ad2, e2, hx2⟩ := Kd.at_int HR0.out 2 p2 q2; cases e2; (try simp only [show (2 : Int).toNat = 2 from rfl, Nat.reduceMul, Nat.reduceEqDiff, Go.Addr.add, ↓reduceIte] at hx2); have qi2 : (2 < l0.length) = True := eq_true (by omega); (try rw [show ((2 : Int)).toNat = 2 from rfl] at hx2); replace hx2 := (HB.out.cell (World.block_lt_of_cell? w _ hx2)).trans hx2; replace p2 := eq_true p2; replace q2 := eq_true q2))
                repeat (go_quiet (fail); try go_wp2_with (first
                  | (go_at_call 69; refine (impl_moved.calls _ _ l0 i u _ (by repeat (first | exact (Kd.C_below HR0.out HB.out) | (with_reducible refine Kd.C_alloc ?_ _) | (with_reducible refine Kd.C_drewN ?_ _) | (with_reducible refine Kd.C_drew ?_))) HC0.out HA3.out).mono ?_; rintro e w4 ⟨v4, rfl, ho0, hb⟩; have n1_ := Aside0.mk (Kd.S_elder' (by (with_reducible repeat (first | apply Kd.S_alloc | apply Kd.S_drewN | apply Kd.S_drew)); exact HO6.out) (Kd.R_base ho0) hb); have n2_ := Aside0.mk (below_step (by repeat (first | (with_reducible first | exact HB.out | apply below_alloc | apply pw_below_drewN | apply below_drew1) | exact HB.out)) hb); have n0_ := Aside0.mk (Kd.R_lower ho0 (below_size (by repeat (first | (with_reducible first | exact HB.out | apply below_alloc | apply pw_below_drewN | apply below_drew1) | exact HB.out)))); clear HO6 HB; have HO5 := n0_; have HO6 := n1_; have HB := n2_; clear n0_ n1_ n2_ hb ho0; obtain ⟨Ao4, co4, eo4⟩ := Kd.R_slice HO5.out; subst eo4; have p1 : 0 ≤ (2 : Int) := (by omega); have q1 : 2 < (u.length : Int) := of_decide_eq_true (by first | (with_reducible assumption) | assumption); obtain ⟨ad1, e1, hx1⟩ := Kd.at_int (Kd.R_reads' HO5.out).2.2 2 p1 q1; cases e1; (try simp only [show (2 : Int).toNat = 2 from rfl, Nat.reduceMul, Nat.reduceEqDiff, Go.Addr.add, ↓reduceIte] at hx1); have qi1 : (2 < u.length) = True := eq_true (by omega); (try rw [show ((2 : Int)).toNat = 2 from rfl] at hx1); replace p1 := eq_true p1; replace q1 := eq_true q1; have p2 : 0 ≤ (2 : Int) := (by omega); have q2 : 2 < (l0.length : Int) := of_decide_eq_true (by first | (with_reducible assumption) | assumption); obtain ⟨ad2, e2, hx2⟩ := Kd.at_int HR0.out 2 p2 q2; cases e2; (try simp only [show (2 : Int).toNat = 2 from rfl, Nat.reduceMul, Nat.reduceEqDiff, Go.Addr.add, ↓reduceIte] at hx2); have qi2 : (2 < l0.length) = True := eq_true (by omega); (try rw [show ((2 : Int)).toNat = 2 from rfl] at hx2); replace hx2 := (HB.out.cell (World.block_lt_of_cell? w _ hx2)).trans hx2; replace p2 := eq_true p2; replace q2 := eq_true q2)))
                go_roundg k1
                case measure => have := HK1.out; omega
                case rel => exact ⟨o, wrap64 (i + 1), (by first | rfl | (simp; done) | (simp [*]; done)), ⟨by have := HI.out; have := HI3.out; unfold wrap64; omega⟩, H', ⟨by have := HK1.out; omega⟩, HP, HL, ⟨by (with_reducible repeat (first | apply Kd.S_alloc | apply Kd.S_drewN | apply Kd.S_drew)); exact Kd.S_mono HO6.out (fun _ _ => trivial)⟩, ⟨by repeat (first | (with_reducible first | exact HB.out | apply below_alloc | apply pw_below_drewN | apply below_drew1) | exact HB.out)⟩⟩
            · rw [if_neg c7] at H
              have c7b0 : decide (rd l0 2 < rd u 2) = false := decide_eq_false c7
              clear c7
              have H' := Aside0.mk H
              clear H
              go_wp2_with (first
                | (go_at_call 69; refine (impl_moved.calls _ _ l0 i u _ (by repeat (first | exact (Kd.C_below HR0.out HB.out) | (with_reducible refine Kd.C_alloc ?_ _) | (with_reducible refine Kd.C_drewN ?_ _) | (with_reducible refine Kd.C_drew ?_))) HC0.out HA3.out).mono ?_; rintro e w4 ⟨v4, rfl, ho0, hb⟩; have n1_ := Aside0.mk (Kd.S_elder' (by (with_reducible repeat (first | apply Kd.S_alloc | apply Kd.S_drewN | apply Kd.S_drew)); exact HO6.out) (Kd.R_base ho0) hb); have n2_ := Aside0.mk (below_step (by repeat (first | (with_reducible first | exact HB.out | apply below_alloc | apply pw_below_drewN | apply below_drew1) | exact HB.out)) hb); have n0_ := Aside0.mk (Kd.R_lower ho0 (below_size (by repeat (first | (with_reducible first | exact HB.out | apply below_alloc | apply pw_below_drewN | apply below_drew1) | exact HB.out)))); clear HO6 HB; have HO5 := n0_; have HO6 := n1_; have HB := n2_; clear n0_ n1_ n2_ hb ho0; obtain ⟨Ao4, co4, eo4⟩ := Kd.R_slice HO5.out; subst eo4; have p1 : 0 ≤ (2 : Int) := (by omega); have q1 : 2 < (u.length : Int) := of_decide_eq_true (by first | (with_reducible assumption) | assumption); obtain ⟨ad1, e1, hx1⟩ := Kd.at_int (Kd.R_reads' HO5.out).2.2 2 p1 q1; cases e1; (try simp only [show (2 : Int).toNat = 2 from rfl, Nat.reduceMul, Nat.reduceEqDiff, Go.Addr.add, ↓reduceIte] at hx1); have qi1 : (2 < u.length) = True := eq_true (by omega); (try rw [show ((2 : Int)).toNat = 2 from rfl] at hx1); replace p1 := eq_true p1; replace q1 := eq_true q1; have p2 : 0 ≤ (2 : Int) := (by omega); have q2 : 2 < (l0.length : Int) := of_decide_eq_true (by first | (with_reducible assumption) | assumption); obtain ⟨ad2, e2, hx2⟩ := Kd.at_int HR0.out 2 p2 q2; cases e2; (try simp only [show (2 : Int).toNat = 2 from rfl, Nat.reduceMul, Nat.reduceEqDiff, Go.Addr.add, ↓reduceIte] at hx2); have qi2 : (2 < l0.length) = True := eq_true (by omega); (try rw [show ((2 : Int)).toNat = 2 from rfl] at hx2); replace hx2 := (HB.out.cell (World.block_lt_of_cell? w _ hx2)).trans hx2; replace p2 := eq_true p2; replace q2 := eq_true q2))
              repeat (go_quiet (fail); try go_wp2_with (first
                | (go_at_call 69; refine (impl_moved.calls _ _ l0 i u _ (by repeat (first | exact (Kd.C_below HR0.out HB.out) | (with_reducible refine Kd.C_alloc ?_ _) | (with_reducible refine Kd.C_drewN ?_ _) | (with_reducible refine Kd.C_drew ?_))) HC0.out HA3.out).mono ?_; rintro e w4 ⟨v4, rfl, ho0, hb⟩; have n1_ := Aside0.mk (Kd.S_elder' (by (with_reducible repeat (first | apply Kd.S_alloc | apply Kd.S_drewN | apply Kd.S_drew)); exact HO6.out) (Kd.R_base ho0) hb); have n2_ := Aside0.mk (below_step (by repeat (first | (with_reducible first | exact HB.out | apply below_alloc | apply pw_below_drewN | apply below_drew1) | exact HB.out)) hb); have n0_ := Aside0.mk (Kd.R_lower ho0 (below_size (by repeat (first | (with_reducible first | exact HB.out | apply below_alloc | apply pw_below_drewN | apply below_drew1) | exact HB.out)))); clear HO6 HB; have HO5 := n0_; have HO6 := n1_; have HB := n2_; clear n0_ n1_ n2_ hb ho0; obtain ⟨Ao4, co4, eo4⟩ := Kd.R_slice HO5.out; subst eo4; have p1 : 0 ≤ (2 : Int) := (by omega); have q1 : 2 < (u.length : Int) := of_decide_eq_true (by first | (with_reducible assumption) | assumption); obtain ⟨ad1, e1, hx1⟩ := Kd.at_int (Kd.R_reads' HO5.out).2.2 2 p1 q1; cases e1; (try simp only [show (2 : Int).toNat = 2 from rfl, Nat.reduceMul, Nat.reduceEqDiff, Go.Addr.add, ↓reduceIte] at hx1); have qi1 : (2 < u.length) = True := eq_true (by omega); (try rw [show ((2 : Int)).toNat = 2 from rfl] at hx1); replace p1 := eq_true p1; replace q1 := eq_true q1; have p2 : 0 ≤ (2 : Int) := (by omega); have q2 : 2 < (l0.length : Int) := of_decide_eq_true (by first | (with_reducible assumption) | assumption); obtain ⟨ad2, e2, hx2⟩ := Kd.at_int HR0.out 2 p2 q2; cases e2; (try simp only [show (2 : Int).toNat = 2 from rfl, Nat.reduceMul, Nat.reduceEqDiff, Go.Addr.add, ↓reduceIte] at hx2); have qi2 : (2 < l0.length) = True := eq_true (by omega); (try rw [show ((2 : Int)).toNat = 2 from rfl] at hx2); replace hx2 := (HB.out.cell (World.block_lt_of_cell? w _ hx2)).trans hx2; replace p2 := eq_true p2; replace q2 := eq_true q2)))
              go_roundg k1
              case measure => have := HK1.out; omega
              case rel => exact ⟨o, wrap64 (i + 1), (by first | rfl | (simp; done) | (simp [*]; done)), ⟨by have := HI.out; have := HI3.out; unfold wrap64; omega⟩, H', ⟨by have := HK1.out; omega⟩, HP, HL, ⟨by (with_reducible repeat (first | apply Kd.S_alloc | apply Kd.S_drewN | apply Kd.S_drew)); exact Kd.S_mono HO6.out (fun _ _ => trivial)⟩, ⟨by repeat (first | (with_reducible first | exact HB.out | apply below_alloc | apply pw_below_drewN | apply below_drew1) | exact HB.out)⟩⟩
          · rw [if_neg c6] at H
            exact absurd H (by simp)
        · rw [if_neg c5] at H
          exact absurd H (by simp)
      · rw [if_neg c2] at H
        have c2b0 : decide (i < 3) = false := decide_eq_false c2
        clear c2
        obtain rfl : sortDedup o = r := by simpa using H
        clear H
        go_wp2_with (first
          | (go_at_call 77; refine (rows_sort cmpL cmpL_total (fun x => x.length < 9223372036854775807) 78 #[] compare_enters compare_at (fun _ => True) _ o w _ HB.out HP.out (by have := HL.out; omega) HO6.out).mono ?_; rintro e w3 ⟨rfl, ys, hp, hs, ho, hb, hk⟩; have n1_ := Aside0.mk (Kd.S_mono ho (fun _ _ => trivial)); have n2_ := Aside0.mk hb; have n3_ := Aside0.mk hp; have n4_ := Aside0.mk hs; clear HO6 HB; have HO6 := n1_; have HB := n2_; have HPM := n3_; have HSO := n4_; clear n1_ n2_ n3_ n4_ ho hb hk hp hs)
          | (go_at_call 106; refine (rows_compact (fun _ => True) _ ys w _ HB.out (fun x hx => HP.out x ((HPM.out.mem_iff).1 hx)) (HSO.out.imp (fun h_ => by omega)) HO6.out).mono ?_; rintro e w4 ⟨v4, rfl, zs, hz1, hz2, ho, hb, hk⟩; have n1_ := Aside0.mk (Kd.S_mono ho (fun _ _ => trivial)); have n2_ := Aside0.mk hb; have n3_ := Aside0.mk (sortDedup_is hz1 (fun z => (hz2 z).trans HPM.out.mem_iff)); clear HO6 HB; have HO6 := n1_; have HB := n2_; have HZ := n3_; clear n1_ n2_ n3_ ho hb hk hz1 hz2))
        go_ret
        exact ⟨_, rfl, by rw [← HZ.out]; exact HO6.out, HB.out⟩
end Go.Proofs.Ythkmbkibceojlaa.P

-- PFimplMarkovUp
namespace Go.Proofs.Ythkmbkibceojlaa.P
open Go.RowKit Go.Proofs.YthkmbkibceojlaaW.PrintWords Go.Proofs.YthkmbkibceojlaaW.PrintLast
set_option linter.unusedVariables false
set_option linter.unusedSimpArgs false

/-! ### impl_MarkovUp: function 51 -/
def impl_MarkovUp.f (k : Nat) (l0 : List Int) : Option ((List (List Int)) × Bool) := (impl_IsMarkov.f k l0).bind fun t795 => (if t795 = true then ((impl_ups.f k l0 1000000000).bind fun t796 => (some (t796, true))) else (some (([] : List (List Int)), false)))
theorem impl_MarkovUp.mono : ∀ a0 k, LeO (impl_MarkovUp.f k a0) (impl_MarkovUp.f (k + 1) a0) := by
 intro a0 k
 unfold impl_MarkovUp.f
 repeat' first
   | (with_reducible exact impl_IsMarkov.mono _ _)
   | (with_reducible exact impl_ups.mono _ _ _)
   | (with_reducible exact LeO.refl _)
   | (with_reducible exact LeO.none _)
   | (with_reducible refine LeO.ite ?_ ?_)
   | (with_reducible refine LeO.bind ?_ (fun _ => ?_))
   | exact impl_IsMarkov.mono _ _
   | exact impl_ups.mono _ _ _
   | exact LeO.none _
   | refine LeO.ite ?_ ?_
   | refine LeO.bind ?_ (fun _ => ?_)
set_option maxHeartbeats 8000000 in
set_option maxRecDepth 100000 in
theorem impl_MarkovUp.calls (k : Nat) (A0 : Option Addr) (c0 : Nat) (l0 : List Int) (r1 : List (List Int)) (r2 : Bool) (w : World) (hr0 : Kd.C (Kd.int .i64) w A0 l0.length l0) (hc0 : l0.length ≤ c0) (h : impl_MarkovUp.f k l0 = some (r1, r2)) :
  Calls Try.prog 51 #[.slice A0 l0.length c0] w fun e w' => ∃ v0_ : Value, e = .returned (.tuple #[v0_, .bool r2]) ∧ Kd.S (Kd.slice 3 (Kd.int .i64)) 22 w' w.heap.size (fun _ => True) v0_ r1 ∧ Below w.heap.size w w' := by
 have HR0 := Aside0.mk hr0
 have HC0 := Aside0.mk hc0
 clear hr0 hc0
 have HB := Aside0.mk (Below.refl w.heap.size w)
 have H : ((impl_IsMarkov.f k l0).bind fun t795 => (if t795 = true then ((impl_ups.f k l0 1000000000).bind fun t796 => (some (t796, true))) else (some (([] : List (List Int)), false)))) = some (r1, r2) := h
 clear h
 replace H := Option.bind_eq_some_iff.mp H
 obtain ⟨t795, A20, H⟩ := H
 replace H : (if t795 = true then ((impl_ups.f k l0 1000000000).bind fun t796 => (some (t796, true))) else (some (([] : List (List Int)), false))) = some (r1, r2) := H
 have A2 := Aside0.mk A20
 clear A20
 by_cases c3 : t795 = true
 ·subst c3
  have H1 : ((impl_ups.f k l0 1000000000).bind fun t796 => (some (t796, true))) = some (r1, r2) := by rw [if_pos rfl] at H; exact H
  clear H
  have H := H1
  clear H1
  replace H := Option.bind_eq_some_iff.mp H
  obtain ⟨t796, A40, H⟩ := H
  replace H : (some (t796, true)) = some (r1, r2) := H
  have A4 := Aside0.mk A40
  clear A40
  simp only [Option.some.injEq, Prod.mk.injEq] at H
  obtain ⟨rfl, rfl⟩ := H
  go_enter Try.func51, Try.ntmps51
  go_wp2_with (first | ((with_reducible refine gate_callee (f := 48) rfl ?_); refine goesL_ (some 5) rfl rfl Try.func48 (by kernel_rfl) rfl #[.slice A0 l0.length c0] rfl (by (try simp only [List.map_toArray, List.map_cons, List.map_nil]); first | done | rfl | (simp only [List.length_drop, List.length_take]; rfl)) ?_; (with_reducible refine (impl_IsMarkov.calls k _ _ l0 true _ ?side1 ?side2 A2.out).mono ?_); (case side1 => repeat (first | exact HR0.out | (with_reducible refine Kd.C_alloc ?_ _) | (with_reducible refine Kd.C_drewN ?_ _) | (with_reducible refine Kd.C_drew ?_))); (case side2 => exact HC0.out); rintro e w5 ⟨rfl, hb⟩; refine ⟨_, rfl, ?_⟩; have n0_ := Aside0.mk (below_step (by repeat (first | (with_reducible first | exact HB.out | apply below_alloc | apply pw_below_drewN | apply below_drew1) | exact HB.out)) hb); clear HB; have HB := n0_; clear n0_; (try clear hb); (try clear hb2); (try clear hk); (try clear hi)) | ((with_reducible refine gate_callee (f := 89) rfl ?_); refine goesL_ (some 8) rfl rfl Try.func89 (by kernel_rfl) rfl #[.slice A0 l0.length c0, .int .i64 1000000000] rfl (by (try simp only [List.map_toArray, List.map_cons, List.map_nil]); first | done | rfl | (simp only [List.length_drop, List.length_take]; rfl)) ?_; (with_reducible refine (impl_ups.calls k _ _ l0 1000000000 t796 _ ?side1 ?side2 A4.out).mono ?_); (case side1 => repeat (first | exact (Kd.C_below HR0.out HB.out) | (with_reducible refine Kd.C_alloc ?_ _) | (with_reducible refine Kd.C_drewN ?_ _) | (with_reducible refine Kd.C_drew ?_))); (case side2 => exact HC0.out); rintro e w6 ⟨v797, rfl, ho0, hb⟩; refine ⟨_, rfl, ?_⟩; have n0_ := Aside0.mk (Kd.S_lower ho0 (below_size (by repeat (first | (with_reducible first | exact HB.out | apply below_alloc | apply pw_below_drewN | apply below_drew1) | exact HB.out)))); have n1_ := Aside0.mk (below_step (by repeat (first | (with_reducible first | exact HB.out | apply below_alloc | apply pw_below_drewN | apply below_drew1) | exact HB.out)) hb); clear HB; have HO798 := n0_; have HB := n1_; clear n0_ n1_; (try clear hb); (try clear hb2); (try clear hk); (try clear hi); (try clear ho0)))
  go_ret2
  exact ⟨_, by first | rfl | (simp [errW_none, errW_some] <;> rfl) | (simp [*, errW_none, errW_some] <;> rfl), by (with_reducible repeat (first | apply Kd.S_alloc | apply Kd.S_drewN | apply Kd.S_drew)); exact HO798.out, by repeat (first | (with_reducible first | exact HB.out | apply below_alloc | apply pw_below_drewN | apply below_drew1) | exact HB.out)⟩
 ·replace c3 := Bool.eq_false_iff.mpr c3
  subst c3
  have H1 : (some (([] : List (List Int)), false)) = some (r1, r2) := by rw [if_neg (show ¬ (false = true) by decide)] at H; exact H
  clear H
  have H := H1
  clear H1
  simp only [Option.some.injEq, Prod.mk.injEq] at H
  obtain ⟨rfl, rfl⟩ := H
  go_enter Try.func51, Try.ntmps51
  go_wp2_with (first | ((with_reducible refine gate_callee (f := 48) rfl ?_); refine goesL_ (some 5) rfl rfl Try.func48 (by kernel_rfl) rfl #[.slice A0 l0.length c0] rfl (by (try simp only [List.map_toArray, List.map_cons, List.map_nil]); first | done | rfl | (simp only [List.length_drop, List.length_take]; rfl)) ?_; (with_reducible refine (impl_IsMarkov.calls k _ _ l0 false _ ?side1 ?side2 A2.out).mono ?_); (case side1 => repeat (first | exact HR0.out | (with_reducible refine Kd.C_alloc ?_ _) | (with_reducible refine Kd.C_drewN ?_ _) | (with_reducible refine Kd.C_drew ?_))); (case side2 => exact HC0.out); rintro e w7 ⟨rfl, hb⟩; refine ⟨_, rfl, ?_⟩; have n0_ := Aside0.mk (below_step (by repeat (first | (with_reducible first | exact HB.out | apply below_alloc | apply pw_below_drewN | apply below_drew1) | exact HB.out)) hb); clear HB; have HB := n0_; clear n0_; (try clear hb); (try clear hb2); (try clear hk); (try clear hi)))
  go_ret2
  exact ⟨_, by first | rfl | (simp [errW_none, errW_some] <;> rfl) | (simp [*, errW_none, errW_some] <;> rfl), by first | exact Kd.S_nil _ _ _ _ _ | exact Kd.N_nil _ _ _ _ _ | exact Kd.V_nil _ _ _ _ _ | exact Kd.Q_nil _ _ _ _ _ | exact Kd.R_nil _ _ _ _ _, by repeat (first | (with_reducible first | exact HB.out | apply below_alloc | apply pw_below_drewN | apply below_drew1) | exact HB.out)⟩

end Go.Proofs.Ythkmbkibceojlaa.P
