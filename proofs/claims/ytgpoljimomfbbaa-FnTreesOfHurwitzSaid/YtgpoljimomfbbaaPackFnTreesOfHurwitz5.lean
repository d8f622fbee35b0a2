/- What is reached by jumps up is told in order and closed under them, and nothing in it has a less sum than where it begins. No condition. -/
import Derived.Test.YtgpoljimomfbbaaPackFnTreesOfHurwitz4
import Derived.Sort.Grow
import Derived.Sort.Statements
import Derived.Test.YtgpoljimomfbbaaLib
-- Uscalar
namespace Go.Proofs.Ytgpoljimomfbbaa.P
set_option linter.unusedVariables false
set_option linter.unusedSimpArgs false
open Go.RowKit Go.Proofs.YtgpoljimomfbbaaW.PrintWords Go.Proofs.YtgpoljimomfbbaaW.PrintLast

theorem scalar_reps {α : Type} {enc : α → Value} {R : α → List Value → Prop} (hR : ∀ x c, R x c ↔ c = [enc x]) (xs : List α) (cs : List Value) : Reps R 1 xs cs ↔ cs = xs.map enc := by
  constructor
  · rintro ⟨h1, h2⟩
    apply List.ext_getElem
    · simp [h1]
    · intro i hi1 hi2
      have hx : i < xs.length := by simpa using hi2
      have h3 := (hR _ _).1 (h2 i xs[i] (List.getElem?_eq_getElem hx))
      rw [Nat.mul_one] at h3
      have h4 : (cs.drop i).take 1 = [cs[i]] := by rw [List.drop_eq_getElem_cons hi1]; rfl
      rw [h4] at h3
      simpa using h3
  · rintro rfl
    refine ⟨by simp, fun j p hp => (hR _ _).2 ?_⟩
    obtain ⟨hj, rfl⟩ := List.getElem?_eq_some_iff.1 hp
    rw [Nat.mul_one, List.drop_eq_getElem_cons (by simpa using hj)]
    simp
theorem scalar_R {α : Type} {enc : α → Value} {h1 : ∀ x, (enc x).oneCell' = true} {e : Nat} {w : World} {base : Nat} {ok : Nat → Prop} {v : Value} {xs : List α} :
    (Kd.scalar enc h1).R e w base ok v xs ↔ (∀ k, v.ownBlock = some k → ok k) ∧ w.ownsRow base e 1 v xs.length (xs.map enc) := by
  constructor
  · rintro ⟨h2, inner, h3, h4⟩
    exact ⟨h2, by rw [← (scalar_reps (enc := enc) (fun x c => Iff.rfl) xs inner).1 h4]; exact h3⟩
  · rintro ⟨h2, h3⟩
    exact ⟨h2, _, h3, (scalar_reps (enc := enc) (fun x c => Iff.rfl) xs _).2 rfl⟩
/-- A row of scalars, opened: nil, or the head of a block of the call's own. -/
theorem scalar_open {α : Type} {enc : α → Value} {h1 : ∀ x, (enc x).oneCell' = true} {e : Nat} {w : World} {base : Nat} {ok : Nat → Prop} {v : Value} {xs : List α} (h : (Kd.scalar enc h1).R e w base ok v xs) :
    (v = .slice none 0 0 ∧ xs = []) ∨ ∃ g cap cur, v = .slice (some ⟨g, 0, none⟩) xs.length cap ∧ ok g ∧ base ≤ g ∧ w.heap[g]? = some (.cells cur e (0, 0)) ∧ xs.length ≤ cap ∧ cap ≤ maxLen ∧ cur.size = cap ∧ cur.toList.take xs.length = xs.map enc := by
  obtain ⟨h2, h3, h4⟩ := scalar_R.1 h
  rcases h4 with ⟨rfl, h5⟩ | ⟨g, cap, cur, rfl, hg, hb, hc, hm, hs, ht⟩
  · exact .inl ⟨rfl, List.eq_nil_of_length_eq_zero h5⟩
  · exact .inr ⟨g, cap, cur, rfl, h2 g (by simp [Value.ownBlock]), hg, hb, hc, hm, by omega, by rw [← ht, Nat.mul_one]⟩
theorem scalar_close {α : Type} {enc : α → Value} {h1 : ∀ x, (enc x).oneCell' = true} {e : Nat} {w : World} {base : Nat} {ok : Nat → Prop} {g cap : Nat} {cur : Array Value} {xs : List α} (hok : ok g) (hg : base ≤ g) (hb : w.heap[g]? = some (.cells cur e (0, 0))) (hc : xs.length ≤ cap) (hm : cap ≤ maxLen) (hs : cur.size = cap) (ht : cur.toList.take xs.length = xs.map enc) :
    (Kd.scalar enc h1).R e w base ok (.slice (some ⟨g, 0, none⟩) xs.length cap) xs :=
  scalar_R.2 ⟨fun k hk => by simp [Value.ownBlock] at hk; exact hk ▸ hok, by simp, .inr ⟨g, cap, cur, rfl, hg, hb, hc, hm, by omega, by rw [Nat.mul_one]; exact ht⟩⟩
/-- The cells of an opened row. -/
theorem scalar_cell {α : Type} {enc : α → Value} {e : Nat} {w : World} {g : Nat} {cur : Array Value} {xs : List α} (hb : w.heap[g]? = some (.cells cur e (0, 0))) (ht : cur.toList.take xs.length = xs.map enc) (j : Nat) (hj : j < xs.length) : w.cell? ⟨g, j, none⟩ = some (enc xs[j]) := by
  have h1 : j < (cur.toList.take xs.length).length := by rw [ht]; simpa using hj
  have h2 : j < cur.size := by simp at h1; omega
  rw [cell_of_row w g j cur e _ hb]
  have h3 : (cur.toList.take xs.length)[j] = enc xs[j] := by simp [ht]
  rw [List.getElem_take] at h3
  rw [Array.getElem?_eq_getElem h2, ← h3]
  simp
theorem own_free {e : Nat} {w : World} {g : Nat} {cur : Array Value} (hb : w.heap[g]? = some (.cells cur e (0, 0))) (j : Nat) : w.frozen? ⟨g, j, none⟩ = false := by simp [World.frozen?, hb]
theorem scalar_holds {α : Type} [Inhabited α] {enc : α → Value} {e : Nat} {w : World} {g : Nat} {cur : Array Value} {xs : List α} (hb : w.heap[g]? = some (.cells cur e (0, 0))) (ht : cur.toList.take xs.length = xs.map enc) : Go.Sort.Holds enc w g 0 xs.toArray := by
  intro j hj
  have hj' : j < xs.length := by simpa using hj
  refine ⟨?_, own_free hb _⟩
  rw [Nat.zero_add, scalar_cell hb ht j hj']
  simp [hj']
/-- Behind the sort: the row holds ys, all else stays. -/
theorem scalar_sorted {α : Type} [Inhabited α] {enc : α → Value} {h1 : ∀ x, (enc x).oneCell' = true} {e : Nat} {w0 w : World} {ok : Nat → Prop} {g cap : Nat} {cur : Array Value} {xs ys : List α} (hB : Below w0.heap.size w0 w) (hok : ok g) (hg : w0.heap.size ≤ g) (hb : w.heap[g]? = some (.cells cur e (0, 0))) (hc : xs.length ≤ cap) (hm : cap ≤ maxLen) (hs : cur.size = cap) (hl : ys.length = xs.length) (n : Nat) (os : Array Obj) (w' : World) (hw : w' = Go.Sort.grow (Go.Sort.putRow enc (Go.Sort.ahead w n) g 0 ys.toArray) os) :
    (Kd.scalar enc h1).R e w' w0.heap.size (fun k_ => (ok k_ ∨ w.heap.size ≤ k_)) (.slice (some ⟨g, 0, none⟩) xs.length cap) ys ∧ Below w0.heap.size w0 w' ∧ Kept w w' (fun k_ => ok k_) := by
  have hlt : g < w.heap.size := by
    have := (Array.getElem?_eq_some_iff.1 hb).1
    exact this
  have hsz : (Go.Sort.putRow enc (Go.Sort.ahead w n) g 0 ys.toArray).heap.size = w.heap.size := by simp
  have hold : ∀ k, k < w.heap.size → w'.heap[k]? = (Go.Sort.putRow enc (Go.Sort.ahead w n) g 0 ys.toArray).heap[k]? := fun k hk => by
    rw [hw, Go.Sort.heap_grow_old _ _ (by rw [hsz]; exact hk)]
  have hne : ∀ k, k < w.heap.size → k ≠ g → w'.heap[k]? = w.heap[k]? := fun k hk hkg => by
    rw [hold k hk]
    simp only [Go.Sort.putRow, Go.Sort.mapBlock, Array.getElem?_modify]
    rw [if_neg (by omega)]
    rfl
  have hrow : w'.heap[g]? = some (.cells (Go.Sort.putCells enc 0 ys.toArray cur) e (0, 0)) := by
    rw [hold g hlt]
    simp only [Go.Sort.putRow, Go.Sort.mapBlock, Array.getElem?_modify]
    rw [if_pos trivial]
    show (w.heap[g]?).map _ = _
    rw [hb]
    rfl
  have hsize : w.heap.size ≤ w'.heap.size := by rw [hw, Go.Sort.size_grow, hsz]; omega
  refine ⟨?_, hB.trans ⟨?_, ?_, ?_, hsize, fun k hk => hne k (by have := hB.size; omega) (by omega)⟩, hsize, fun i hi hn => hne i hi (fun h => hn (h ▸ hok))⟩
  · rw [← hl]
    refine scalar_close (.inl hok) hg hrow (by omega) hm (by simp [Go.Sort.putCells, hs]) ?_
    apply List.ext_getElem
    · simp [Go.Sort.putCells, hs]; omega
    · intro i hi1 hi2
      have hi3 : i < ys.length := by simpa using hi2
      simp [Go.Sort.putCells, hi3]
  · rw [hw]; rfl
  · rw [hw]; rfl
  · rw [hw]; rfl
/-- A row cut. -/
theorem scalar_take {α : Type} {enc : α → Value} {h1 : ∀ x, (enc x).oneCell' = true} {e : Nat} {w : World} {base : Nat} {ok : Nat → Prop} {ad : Addr} {n cap : Nat} {xs : List α} (h : (Kd.scalar enc h1).R e w base ok (.slice (some ad) n cap) xs) (k : Nat) (hk : k ≤ xs.length) :
    (Kd.scalar enc h1).R e w base ok (.slice (some ad) k cap) (xs.take k) := by
  rcases scalar_open h with ⟨h2, _⟩ | ⟨g, cap', cur, hv, hok, hg, hb, hc, hm, hs, ht⟩
  · simp at h2
  · injection hv with e1 e2 e3
    injection e1 with e1
    subst e1 e3
    have hl : (xs.take k).length = k := by rw [List.length_take]; omega
    have h3 := scalar_close (h1 := h1) (ok := ok) (base := base) (xs := xs.take k) (cap := cap) hok hg hb (by omega) hm hs (by rw [hl, List.map_take, ← ht, List.take_take, Nat.min_eq_left hk])
    rw [hl] at h3
    exact h3
end Go.Proofs.Ytgpoljimomfbbaa.P

-- Ucmp
namespace Go.Proofs.Ytgpoljimomfbbaa.P
open Go.RowKit Go.Proofs.YtgpoljimomfbbaaW.PrintWords Go.Proofs.YtgpoljimomfbbaaW.PrintLast
set_option linter.unusedVariables false
set_option linter.unusedSimpArgs false

def cmpL : List Int → List Int → Int
  | [], [] => 0
  | [], _ :: _ => -1
  | _ :: _, [] => 1
  | x :: a, y :: b => if x < y then -1 else if y < x then 1 else cmpL a b
theorem cmpL_self : ∀ a, cmpL a a = 0
  | [] => rfl
  | x :: a => by simp [cmpL, cmpL_self a]
theorem cmpL_anti : ∀ a b, cmpL b a = - cmpL a b
  | [], [] => rfl
  | [], _ :: _ => rfl
  | _ :: _, [] => rfl
  | x :: a, y :: b => by
    simp only [cmpL, cmpL_anti a b]
    split <;> split <;> first | rfl | omega
theorem cmpL_eq : ∀ a b, cmpL a b = 0 → a = b
  | [], [], _ => rfl
  | [], _ :: _, h => by simp [cmpL] at h
  | _ :: _, [], h => by simp [cmpL] at h
  | x :: a, y :: b, h => by
    simp only [cmpL] at h
    split at h
    · omega
    · split at h
      · omega
      · rw [cmpL_eq a b h, show x = y by omega]
theorem cmpL_trans : ∀ a b c, cmpL a b < 0 → cmpL b c < 0 → cmpL a c < 0
  | [], [], _, h, _ => by simp [cmpL] at h
  | [], _ :: _, [], _, h => by simp [cmpL] at h
  | [], _ :: _, _ :: _, _, _ => by simp [cmpL]
  | _ :: _, [], _, h, _ => by simp [cmpL] at h
  | _ :: _, _ :: _, [], _, h => by simp [cmpL] at h
  | x :: a, y :: b, z :: c, h, g => by
    have ih := cmpL_trans a b c
    simp only [cmpL] at h g ⊢
    split at h <;> split at g <;> (try split at h) <;> (try split at g) <;> (try split) <;> (try split) <;> first | omega | (apply ih <;> assumption)
/-- A comparison that tells unequal ones apart and is a strict order makes a total order. -/
structure Total (cf : List Int → List Int → Int) : Prop where
  anti : ∀ a b, cf a b < 0 ↔ 0 < cf b a
  trans : ∀ a b c, cf a b < 0 → cf b c < 0 → cf a c < 0
  eq : ∀ a b, cf a b = 0 → a = b
  self : ∀ a, cf a a = 0
theorem Total.swo {cf : List Int → List Int → Int} (h : Total cf) : Go.Sort.SWO (fun a b => decide (cf a b < 0)) where
  irrefl := fun x => by have := h.self x; simp; omega
  trans := fun x y z hx hy => by simp only [decide_eq_true_eq] at *; exact h.trans x y z hx hy
  ntrans := fun x y z hx hy => by
    simp only [decide_eq_false_iff_not] at *
    intro hz
    by_cases e1 : cf x y = 0
    · exact hy (h.eq x y e1 ▸ hz)
    · by_cases e2 : cf y z = 0
      · exact hx (h.eq y z e2 ▸ hz)
      · have h1 : cf y x < 0 := by rw [h.anti]; omega
        have h2 : cf z y < 0 := by rw [h.anti]; omega
        have h3 := h.trans z y x h2 h1
        have h4 := (h.anti x z).1 hz
        omega
theorem cmpL_total : Total cmpL where
  anti := fun a b => by rw [cmpL_anti a b]; omega
  trans := cmpL_trans
  eq := cmpL_eq
  self := cmpL_self
/-- Two strictly sorted lists with the same elements are one. -/
theorem Total.uniqueS {cf : List Int → List Int → Int} (h : Total cf) : ∀ {xs ys : List (List Int)}, (xs.Pairwise fun a b => cf a b < 0) → (ys.Pairwise fun a b => cf a b < 0) → (∀ z, z ∈ xs ↔ z ∈ ys) → xs = ys
  | [], [], _, _, _ => rfl
  | [], y :: ys, _, _, hm => by have := (hm y).2 (by simp); simp at this
  | x :: xs, [], _, _, hm => by have := (hm x).1 (by simp); simp at this
  | x :: xs, y :: ys, hx, hy, hm => by
    rw [List.pairwise_cons] at hx hy
    have hxy : x = y := by
      rcases List.mem_cons.1 ((hm x).1 (by simp)) with e | h1
      · exact e
      · rcases List.mem_cons.1 ((hm y).2 (by simp)) with e | h2
        · exact e.symm
        · have h3 := hy.1 x h1
          have h4 := hx.1 y h2
          have := (h.anti x y).1 h4
          omega
    subst hxy
    congr 1
    refine h.uniqueS hx.2 hy.2 fun z => ?_
    constructor
    · intro hz
      rcases List.mem_cons.1 ((hm z).1 (List.mem_cons_of_mem _ hz)) with e | h1
      · subst e; have := hx.1 z hz; have := h.self z; omega
      · exact h1
    · intro hz
      rcases List.mem_cons.1 ((hm z).2 (List.mem_cons_of_mem _ hz)) with e | h1
      · subst e; have := hy.1 z hz; have := h.self z; omega
      · exact h1

theorem rd_app (pre : List Int) (x : Int) (a : List Int) : rd (pre ++ x :: a) (pre.length : Int) = x := by
  simp [rd]
theorem compare_loop (l m : List Int) (hl : l.length < 9223372036854775807) : ∀ (a b pre pre' : List Int) (k : Nat), l = pre ++ a → m = pre' ++ b → pre.length = pre'.length → a.length < k → slices_Compare_int_int.l0 k l m l (l.length : Int) (pre.length : Int) = some (cmpL a b)
  | a, b, pre, pre', 0, _, _, _, hk => by omega
  | [], b, pre, pre', k + 1, el, em, ep, _ => by
    have h1 : l.length = pre.length := by rw [el]; simp
    have h2 : m.length = pre'.length + b.length := by rw [em]; simp
    simp only [slices_Compare_int_int.l0]
    rw [if_neg (by omega)]
    cases b with
    | nil => rw [if_neg (by simp at h2; omega)]; rfl
    | cons y b => rw [if_pos (by simp at h2; omega)]; rfl
  | x :: a, b, pre, pre', k + 1, el, em, ep, hk => by
    have h1 : l.length = pre.length + (a.length + 1) := by rw [el]; simp
    have h2 : m.length = pre'.length + b.length := by rw [em]; simp
    simp only [slices_Compare_int_int.l0]
    rw [if_pos (by omega), if_pos (by omega), if_pos (by omega)]
    cases b with
    | nil => rw [if_pos (by simp at h2; omega)]; rfl
    | cons y b =>
      simp only [List.length_cons] at h2 hk
      rw [if_neg (by omega), if_pos (by omega)]
      have e1 : rd l (pre.length : Int) = x := by rw [el]; exact rd_app _ _ _
      have e2 : rd m (pre.length : Int) = y := by rw [em, ep]; exact rd_app _ _ _
      rw [e1, e2]
      have hw : wrap64 ((pre.length : Int) + 1) = ((pre ++ [x]).length : Int) := by
        rw [show wrap64 ((pre.length : Int) + 1) = (pre.length : Int) + 1 from ?_]
        · simp
        · unfold wrap64; omega
      have ih := compare_loop l m hl a b (pre ++ [x]) (pre' ++ [y]) k (by rw [el]; simp) (by rw [em]; simp) (by simp [ep]) (by omega)
      rw [hw]
      simp only [cmp_Compare_int.f, cmp_isNaN_int.f]
      simp only [cmpL]
      rcases Int.lt_trichotomy x y with hlt | heq | hgt
      · simp [hlt, show ¬ y < x by omega, cmp_isNaN_int.f]
      · subst heq
        simpa [cmp_isNaN_int.f] using ih
      · simp [hgt, show ¬ x < y by omega, cmp_isNaN_int.f]
theorem compare_ev (l m : List Int) (hl : l.length < 9223372036854775807) : slices_Compare_int_int.f (l.length + 1) l m = some (cmpL l m) := by
  have := compare_loop l m hl l m [] [] (l.length + 1) rfl rfl rfl (by omega)
  simpa [slices_Compare_int_int.f] using this
theorem equal_loop (l m : List Int) (hlm : l.length = m.length) (hl : l.length < 9223372036854775807) : ∀ (a b pre pre' : List Int) (k : Nat), l = pre ++ a → m = pre' ++ b → pre.length = pre'.length → a.length < k → slices_Equal_int_int.l0 k l m (l.length : Int) (pre.length : Int) = some (decide (a = b))
  | a, b, pre, pre', 0, _, _, _, hk => by omega
  | [], b, pre, pre', k + 1, el, em, ep, _ => by
    have h1 : l.length = pre.length := by rw [el]; simp
    have h2 : m.length = pre'.length + b.length := by rw [em]; simp
    simp only [slices_Equal_int_int.l0]
    rw [if_neg (by omega), show b = [] from List.eq_nil_of_length_eq_zero (by omega)]
    rfl
  | x :: a, b, pre, pre', k + 1, el, em, ep, hk => by
    have h1 : l.length = pre.length + (a.length + 1) := by rw [el]; simp
    have h2 : m.length = pre'.length + b.length := by rw [em]; simp
    simp only [slices_Equal_int_int.l0]
    rw [if_pos (by omega), if_pos (by omega), if_pos (by omega), if_pos (by omega)]
    cases b with
    | nil => simp at h2; omega
    | cons y b =>
      simp only [List.length_cons] at h2 hk
      have e1 : rd l (pre.length : Int) = x := by rw [el]; exact rd_app _ _ _
      have e2 : rd m (pre.length : Int) = y := by rw [em, ep]; exact rd_app _ _ _
      rw [e1, e2]
      have hw : wrap64 ((pre.length : Int) + 1) = ((pre ++ [x]).length : Int) := by
        rw [show wrap64 ((pre.length : Int) + 1) = (pre.length : Int) + 1 from ?_]
        · simp
        · unfold wrap64; omega
      have ih := equal_loop l m hlm hl a b (pre ++ [x]) (pre' ++ [y]) k (by rw [el]; simp) (by rw [em]; simp) (by simp [ep]) (by omega)
      rw [hw]
      by_cases e : x = y
      · subst e
        rw [if_pos rfl, ih]
        simp
      · rw [if_neg e]
        simp [e]
theorem equal_ev (l m : List Int) (hl : l.length < 9223372036854775807) : slices_Equal_int_int.f (l.length + 1) l m = some (decide (l = m)) := by
  unfold slices_Equal_int_int.f
  by_cases h : l.length = m.length
  · rw [if_pos (by omega)]
    have := equal_loop l m h hl l m [] [] (l.length + 1) rfl rfl rfl (by omega)
    simpa using this
  · rw [if_neg (by omega)]
    have : l ≠ m := fun e => h (by rw [e])
    simp [this]
end Go.Proofs.Ytgpoljimomfbbaa.P

-- UsortDedup
namespace Go.Proofs.Ytgpoljimomfbbaa.P
set_option linter.unusedVariables false
set_option linter.unusedSimpArgs false

def insS (x : List Int) : List (List Int) → List (List Int)
  | [] => [x]
  | y :: t => if cmpL x y < 0 then x :: y :: t else if cmpL x y = 0 then y :: t else y :: insS x t
def sortDedup : List (List Int) → List (List Int)
  | [] => []
  | x :: t => insS x (sortDedup t)
theorem insS_mem (x z : List Int) : ∀ l, z ∈ insS x l ↔ z = x ∨ z ∈ l
  | [] => by simp [insS]
  | y :: t => by
    unfold insS
    split
    · simp
    · split
      · rename_i h
        have := cmpL_eq x y h
        subst this
        simp
      · simp only [List.mem_cons, insS_mem x z t]
        constructor
        · rintro (h | h | h) <;> simp [h]
        · rintro (h | h | h) <;> simp [h]
theorem insS_sorted (x : List Int) : ∀ l, (l.Pairwise fun a b => cmpL a b < 0) → (insS x l).Pairwise fun a b => cmpL a b < 0
  | [], _ => by simp [insS]
  | y :: t, h => by
    unfold insS
    rw [List.pairwise_cons] at h
    split
    · rename_i h1
      rw [List.pairwise_cons, List.pairwise_cons]
      refine ⟨fun z hz => ?_, h.1, h.2⟩
      rcases List.mem_cons.1 hz with e | hz
      · subst e; exact h1
      · exact cmpL_trans _ _ _ h1 (h.1 z hz)
    · split
      · rw [List.pairwise_cons]; exact h
      · rename_i h1 h2
        rw [List.pairwise_cons]
        refine ⟨fun z hz => ?_, insS_sorted x t h.2⟩
        rcases (insS_mem x z t).1 hz with e | hz
        · subst e
          rw [cmpL_anti]
          omega
        · exact h.1 z hz
theorem sortDedup_mem (z : List Int) : ∀ l, z ∈ sortDedup l ↔ z ∈ l
  | [] => by simp [sortDedup]
  | x :: t => by simp [sortDedup, insS_mem, sortDedup_mem z t]
theorem sortDedup_sorted : ∀ l, (sortDedup l).Pairwise fun a b => cmpL a b < 0
  | [] => by simp [sortDedup]
  | x :: t => insS_sorted x _ (sortDedup_sorted t)
theorem sortDedup_is {l m : List (List Int)} (h1 : m.Pairwise fun a b => cmpL a b < 0) (h2 : ∀ z, z ∈ m ↔ z ∈ l) : m = sortDedup l :=
  cmpL_total.uniqueS h1 (sortDedup_sorted l) (fun z => (h2 z).trans (sortDedup_mem z l).symm)
end Go.Proofs.Ytgpoljimomfbbaa.P

-- UhuPut
namespace Go.Proofs.Ytgpoljimomfbbaa.P
open Go.RowKit Go.Proofs.YtgpoljimomfbbaaW.PrintWords Go.Proofs.YtgpoljimomfbbaaW.PrintLast
set_option linter.unusedVariables false
set_option linter.unusedSimpArgs false
theorem sameS_from (a b : List Int) (hl : a.length = b.length) (hn : a.length ≤ 4611686018427387904) (d : Nat) : ∀ i : Nat, i + d = a.length → a.take i = b.take i → Ev (fun k => spec_l1Same.l0 k a b (a.length : Int) (i : Int)) (decide (a = b)) := by
  induction d with
  | zero =>
    intro i hi ht
    rw [List.take_of_length_le (by omega), List.take_of_length_le (by omega)] at ht
    refine Ev.step (fun k => by simp only [spec_l1Same.l0]; rw [if_neg (by omega)]) ?_
    exact Ev.is (by rw [decide_eq_true ht])
  | succ d ih =>
    intro i hi ht
    by_cases h : rd a (i : Int) = rd b (i : Int)
    · have hr := ih (i + 1) (by omega) (by rw [List.take_succ_eq_append_getElem (by omega), List.take_succ_eq_append_getElem (by omega), ht, ← rd_lt a i (by omega), ← rd_lt b i (by omega), h])
      exact Ev.step (fun k => by simp only [spec_l1Same.l0]; rw [if_pos (by omega), if_pos (by omega), if_pos (by omega), if_pos (by omega), if_pos h, w64_succ (n := a.length) (by omega) hn]) hr
    · have hd : decide (a = b) = false := decide_eq_false (fun e => h (by rw [e]))
      exact Ev.step (f := fun _ => some false) (fun k => by simp only [spec_l1Same.l0]; rw [if_pos (by omega), if_pos (by omega), if_pos (by omega), if_pos (by omega), if_neg h]) (Ev.is (by rw [hd]))
theorem sameS_ev (a b : List Int) (hn : a.length ≤ 4611686018427387904) : Ev (fun k => spec_l1Same.f k a b) (decide (a = b)) := by
  unfold spec_l1Same.f
  by_cases hl : a.length = b.length
  · simp only [hl, if_true]
    have := sameS_from a b hl hn a.length 0 (by omega) rfl
    rw [hl] at this
    exact this
  · have h : ¬ (a.length : Int) = (b.length : Int) := by omega
    simp only [h, if_false]
    have hd : decide (a = b) = false := decide_eq_false (fun e => hl (by rw [e]))
    exact Ev.is (by rw [hd])
theorem before_loop (l m : List Int) (hl : l.length ≤ 4611686018427387904) : ∀ (a b pre pre' : List Int), l = pre ++ a → m = pre' ++ b → pre.length = pre'.length → Ev (fun k => spec_huBefore.l0 k l m (pre.length : Int)) (decide (cmpL a b < 0)) := by
  intro a
  induction a with
  | nil =>
    intro b pre pre' h1 h2 h3
    have e1 : l.length = pre.length := by rw [h1]; simp
    have c1 : ¬ (pre.length : Int) < (l.length : Int) := by omega
    refine Ev.step (f := fun k => spec_huBefore.j1 k l m (pre.length : Int) false) (fun k => by simp only [spec_huBefore.l0]; rw [if_neg c1]) ?_
    refine Ev.step (f := fun _ => some (decide ((l.length : Int) < (m.length : Int)))) (fun k => by simp only [spec_huBefore.j1, Bool.false_eq_true, if_false]) (Ev.is ?_)
    have e2 : m.length = pre.length + b.length := by rw [h2, List.length_append]; omega
    cases b with
    | nil =>
      have : ¬ (l.length : Int) < (m.length : Int) := by simp at e2; omega
      rw [decide_eq_false this]
      rfl
    | cons y b =>
      have : (l.length : Int) < (m.length : Int) := by simp at e2; omega
      rw [decide_eq_true this]
      rfl
  | cons x a ih =>
    intro b pre pre' h1 h2 h3
    have e1 : l.length = pre.length + (a.length + 1) := by rw [h1, List.length_append, List.length_cons]
    have e2 : m.length = pre.length + b.length := by rw [h2, List.length_append]; omega
    have c1 : (pre.length : Int) < (l.length : Int) := by omega
    cases b with
    | nil =>
      have c2 : ¬ (pre.length : Int) < (m.length : Int) := by simp at e2; omega
      have c3 : ¬ (l.length : Int) < (m.length : Int) := by simp at e2; omega
      refine Ev.step (f := fun k => spec_huBefore.j1 k l m (pre.length : Int) false) (fun k => by simp only [spec_huBefore.l0]; rw [if_pos c1, decide_eq_false c2]) ?_
      refine Ev.step (f := fun _ => some (decide ((l.length : Int) < (m.length : Int)))) (fun k => by simp only [spec_huBefore.j1, Bool.false_eq_true, if_false]) (Ev.is ?_)
      rw [decide_eq_false c3]
      rfl
    | cons y b =>
      have c2 : (pre.length : Int) < (m.length : Int) := by simp at e2; omega
      have r1 : rd l (pre.length : Int) = x := by rw [h1]; exact rd_app pre x a
      have r2 : rd m (pre.length : Int) = y := by rw [h2, h3]; exact rd_app pre' y b
      have c0 : (0 : Int) ≤ (pre.length : Int) := by omega
      refine Ev.step (f := fun k => spec_huBefore.j1 k l m (pre.length : Int) true) (fun k => by simp only [spec_huBefore.l0]; rw [if_pos c1, decide_eq_true c2]) ?_
      by_cases hxy : x = y
      · subst hxy
        have hr := ih b (pre ++ [x]) (pre' ++ [x]) (by rw [h1]; simp) (by rw [h2]; simp) (by simp [h3])
        rw [List.length_append, List.length_singleton] at hr
        have hc : cmpL (x :: a) (x :: b) = cmpL a b := by simp [cmpL]
        rw [hc]
        refine Ev.step (fun k => ?_) hr
        simp only [spec_huBefore.j1, if_true, c0, c1, c2, r1, r2]
        rw [w64_succ (n := l.length) (by omega) hl]
      · refine Ev.step (f := fun _ => some (decide (x < y))) (fun k => ?_) (Ev.is ?_)
        · simp only [spec_huBefore.j1, if_true, c0, c1, c2, r1, r2]
          rw [if_neg hxy]
        · congr 1
          have : (x < y) ↔ cmpL (x :: a) (y :: b) < 0 := by
            unfold cmpL
            split <;> (try split) <;> omega
          exact decide_eq_decide.2 this
theorem before_ev (l m : List Int) (hl : l.length ≤ 4611686018427387904) : Ev (fun k => spec_huBefore.f k l m) (decide (cmpL l m < 0)) := before_loop l m hl l m [] [] rfl rfl rfl
theorem insS_lt (x : List Int) : ∀ (A B : List (List Int)), (∀ y ∈ A, cmpL y x < 0) → insS x (A ++ B) = A ++ insS x B
  | [], B, _ => rfl
  | y :: A, B, h => by
    have h1 := h y List.mem_cons_self
    have h2 := cmpL_anti y x
    rw [List.cons_append, insS, if_neg (by omega), if_neg (by omega), insS_lt x A B (fun z hz => h z (List.mem_cons_of_mem _ hz)), List.cons_append]
theorem huPut_ev {L : List (List Int)} {x : List Int} (hl : L.length ≤ 5000000000) (hL : ∀ y ∈ L, y.length ≤ 1000000) (hx : x.length ≤ 1000000) : Ev (fun k => spec_huPut.f k L x) (insS x L) := by
  have rl : ∀ j : Nat, (h : j < L.length) → rd_L1 L (j : Int) = L[j] := by
    intro j h
    unfold rd_L1
    rw [Int.toNat_natCast, List.getD_eq_getElem?_getD, List.getElem?_eq_getElem h]
    rfl
  have go : ∀ (d j : Nat), j + d = L.length → (∀ y ∈ L.take j, cmpL y x < 0) → Ev (fun k => spec_huPut.l0 k L x (j : Int)) (insS x L) := by
    intro d
    induction d with
    | zero =>
      intro j hj hlt
      have e := insS_lt x (L.take j) [] (by exact hlt)
      rw [List.append_nil, List.take_of_length_le (by omega)] at e
      have c1 : ¬ (j : Int) < (L.length : Int) := by omega
      have c2 : (0 : Int) ≤ (j : Int) := by omega
      have c3 : (j : Int) ≤ (L.length : Int) := by omega
      refine Ev.step (f := fun _ => some (insS x L)) (fun k => ?_) (Ev.is rfl)
      simp only [spec_huPut.l0, c1, c2, c3, if_false, if_true, Option.bind_some, Int.toNat_natCast, List.nil_append, List.length_nil, Nat.zero_add]
      rw [List.take_of_length_le (by omega), List.drop_of_length_le (by omega), if_pos (by omega), if_pos (by omega), if_pos (by simp; omega), e]
      simp [insS]
    | succ d ih =>
      intro j hj hlt
      have hjl : j < L.length := by omega
      have c1 : (j : Int) < (L.length : Int) := by omega
      have c2 : (0 : Int) ≤ (j : Int) := by omega
      have c3 : (j : Int) ≤ (L.length : Int) := by omega
      have hB := before_ev L[j] x (Nat.le_trans (hL _ (List.getElem_mem hjl)) (by decide))
      have hS := sameS_ev L[j] x (Nat.le_trans (hL _ (List.getElem_mem hjl)) (by decide))
      have hsplit : L = L.take j ++ (L[j] :: L.drop (j + 1)) := by rw [← List.drop_eq_getElem_cons hjl, List.take_append_drop]
      have hins : insS x L = L.take j ++ insS x (L[j] :: L.drop (j + 1)) := by
        have := insS_lt x (L.take j) (L[j] :: L.drop (j + 1)) hlt
        rw [← hsplit] at this
        exact this
      have ha := cmpL_anti L[j] x
      by_cases hb : cmpL L[j] x < 0
      · rw [decide_eq_true hb] at hB
        have hr := ih (j + 1) (by omega) (by
          intro y hy
          rw [List.take_succ_eq_append_getElem hjl] at hy
          rcases List.mem_append.1 hy with h | h
          · exact hlt y h
          · rw [List.mem_singleton.1 h]; exact hb)
        refine Ev.step (fun k => by simp only [spec_huPut.l0, c1, c2, if_true, rl j hjl]; rfl) (Ev.bind hB ?_)
        simp only [if_true]
        rw [w64_succ (n := L.length) (by omega) (by omega)]
        exact hr
      · rw [decide_eq_false hb] at hB
        by_cases he : L[j] = x
        · rw [decide_eq_true he] at hS
          have hc : cmpL x L[j] = 0 := by rw [he]; exact cmpL_self x
          rw [insS, if_neg (by omega), if_pos hc, ← hsplit] at hins
          rw [hins]
          refine Ev.step (fun k => by simp only [spec_huPut.l0, c1, c2, if_true, rl j hjl]; rfl) (Ev.bind hB ?_)
          simp only [Bool.false_eq_true, if_false]
          refine Ev.bind hS ?_
          simp only [if_true]
          exact Ev.is rfl
        · rw [decide_eq_false he] at hS
          have hc : cmpL x L[j] < 0 := by
            have : cmpL L[j] x ≠ 0 := fun h => he (cmpL_eq _ _ h)
            omega
          rw [insS, if_pos hc] at hins
          refine Ev.step (fun k => by simp only [spec_huPut.l0, c1, c2, if_true, rl j hjl]; rfl) (Ev.bind hB ?_)
          simp only [Bool.false_eq_true, if_false]
          refine Ev.bind hS ?_
          simp only [Bool.false_eq_true, if_false, c2, c3, if_true, Option.bind_some, Int.toNat_natCast, List.nil_append, List.length_nil, Nat.zero_add]
          have q1 : (L.take j).length < 5864062014805 := by rw [List.length_take]; omega
          have q2 : (L.take j ++ [x]).length + (L.drop j).length < 5864062014805 := by simp only [List.length_append, List.length_take, List.length_drop, List.length_singleton]; omega
          simp only [q1, q2, if_true]
          refine Ev.is ?_
          rw [hins, List.drop_eq_getElem_cons hjl]
          simp
  unfold spec_huPut.f
  exact go L.length 0 (by omega) (by simp)
end Go.Proofs.Ytgpoljimomfbbaa.P

-- GcloneInts
namespace Go.Proofs.Ytgpoljimomfbbaa.P
open Go.RowKit Go.Proofs.YtgpoljimomfbbaaW.PrintWords Go.Proofs.YtgpoljimomfbbaaW.PrintLast
set_option linter.unusedVariables false
set_option linter.unusedSimpArgs false

def slices_Clone_int_int.f (l0 : List Int) : Option (List Int) := if l0.length < 17592186044416 then some l0 else none
theorem slices_Clone_int_int.calls (A0 : Option Addr) (c0 : Nat) (l0 : List Int) (r : List Int) (w : World) (hr0 : Kd.C (Kd.int .i64) w A0 l0.length l0) (hc0 : l0.length ≤ c0) (h : slices_Clone_int_int.f l0 = some r) :
  Calls Try.prog 58 #[.slice A0 l0.length c0] w fun e w' => ∃ v0_ : Value, e = .returned (v0_) ∧ Kd.R (Kd.int .i64) 3 w' w.heap.size (fun _ => True) v0_ r ∧ Below w.heap.size w w' := by
  have hr : l0 = r ∧ l0.length < 17592186044416 := by
    unfold slices_Clone_int_int.f at h
    split at h
    · exact ⟨by simpa using h, by assumption⟩
    · simp at h
  obtain ⟨rfl, hlen⟩ := hr
  cases A0 with
  | none =>
    have h0 : l0 = [] := by
      rcases Nat.eq_zero_or_pos l0.length with h1 | h1
      · exact List.eq_nil_of_length_eq_zero h1
      · obtain ⟨ad, h2, _⟩ := hr0.2.2 h1
        simp at h2
    subst h0
    refine (Go.Proofs.Try.slices_Clone_int_nil 0 c0 w).mono ?_
    rintro e w' ⟨rfl, rfl⟩
    exact ⟨_, rfl, Kd.R_nil _ _ _ _ _, Below.refl _ _⟩
  | some a =>
    by_cases h0 : l0.length = 0
    · have h1 : l0 = [] := List.eq_nil_of_length_eq_zero h0
      subst h1
      refine (Go.Proofs.Try.slices_Clone_int_zero a c0 w).mono ?_
      rintro e w' ⟨v', rfl, hown, _, hb⟩
      exact ⟨v', rfl, scalar_R.2 ⟨fun _ _ => trivial, hown⟩, hb⟩
    · obtain ⟨ad, he, hc⟩ := hr0.2.2 (by omega)
      injection he with he
      subst he
      have hcell : ∀ j, j < l0.length → w.cell? (a.add j) = some (.int .i64 (l0.getD j 0)) := fun j hj => by
        obtain ⟨c, hcl, hp, hcell⟩ := hc j l0[j] (List.getElem?_eq_getElem hj)
        have hc1 : c = [Value.int .i64 l0[j]] := hp
        subst hc1
        have h2 := hcell 0 _ rfl
        rw [Nat.add_zero, show j * (Kd.int .i64).sz = j from Nat.mul_one j] at h2
        rw [h2]
        simp [List.getD_eq_getElem?_getD, hj]
      obtain ⟨b, off, spot⟩ := a
      have hspot : spot = none := by
        have h2 := hcell 0 (by omega)
        cases spot with
        | none => rfl
        | some k =>
          simp only [Addr.add, if_true, World.cell?] at h2
          split at h2 <;> simp at h2
      subst hspot
      refine (Go.Proofs.Try.slices_Clone_int b off l0.length c0 l0 w (Nat.le_refl _) (by omega) (fun j hj => ?_)).mono ?_
      · rw [← hcell j hj]
        congr 1
        by_cases h1 : j = 0
        · subst h1
          simp [Addr.add]
        · simp [Addr.add, h1]
      · rintro e w' ⟨v', rfl, hown, _, hb⟩
        exact ⟨v', rfl, scalar_R.2 ⟨fun _ _ => trivial, by rw [List.take_length] at hown; exact hown⟩, hb⟩
end Go.Proofs.Ytgpoljimomfbbaa.P

-- GsortInts
namespace Go.Proofs.Ytgpoljimomfbbaa.P
open Go.RowKit Go.Proofs.YtgpoljimomfbbaaW.PrintWords Go.Proofs.YtgpoljimomfbbaaW.PrintLast
set_option linter.unusedVariables false
set_option linter.unusedSimpArgs false

def slices_Sort_int_int.f (l0 : List Int) : Option (List Int) := if l0.length < 4611686018427387904 then some (l0.mergeSort fun x y => decide (x ≤ y)) else none
theorem slices_Sort_int_int.calls (P0_ : Nat → Prop) (u9000_ : Value) (l0 : List Int) (r : List Int) (w0 w : World) (hB : Below w0.heap.size w0 w) (ho0 : Kd.R (Kd.int .i64) 3 w w0.heap.size P0_ u9000_ l0) (h : slices_Sort_int_int.f l0 = some r) :
  Calls Try.prog 101 #[u9000_] w fun e w' => e = .returned (.tuple #[]) ∧ Kd.R (Kd.int .i64) 3 w' w0.heap.size (fun k_ => (P0_ k_ ∨ w.heap.size ≤ k_)) u9000_ r ∧ Below w0.heap.size w0 w' ∧ Kept w w' (fun k_ => P0_ k_) := by
  have hr : l0.mergeSort (fun x y => decide (x ≤ y)) = r ∧ l0.length < 4611686018427387904 := by
    unfold slices_Sort_int_int.f at h
    split at h
    · exact ⟨by simpa using h, by assumption⟩
    · simp at h
  obtain ⟨rfl, hz⟩ := hr
  rcases scalar_open ho0 with ⟨rfl, rfl⟩ | ⟨g, cap, cur, rfl, hok, hg, hb, hc, hm, hs, ht⟩
  · refine (Go.Proofs.Try.slices_Sort_int_none none 0 w).mono ?_
    rintro e w' ⟨rfl, rfl⟩
    refine ⟨rfl, ?_, hB, Kept.refl _ _⟩
    rw [show (([] : List Int).mergeSort fun x y => decide (x ≤ y)) = [] by simp]
    exact Kd.R_nil _ _ _ _ _
  · have hlt : g < w.heap.size := (Array.getElem?_eq_some_iff.1 hb).1
    refine (Go.Proofs.Try.slices_Sort_int g 0 cap l0 w (scalar_holds hb ht) hlt hz).mono ?_
    rintro e w' ⟨rfl, n, os, hw⟩
    exact ⟨rfl, scalar_sorted hB hok hg hb hc hm hs (List.length_mergeSort _) n os w' hw⟩
end Go.Proofs.Ytgpoljimomfbbaa.P

-- PFimpljump
namespace Go.Proofs.Ytgpoljimomfbbaa.P
open Go.RowKit Go.Proofs.YtgpoljimomfbbaaW.PrintWords Go.Proofs.YtgpoljimomfbbaaW.PrintLast
set_option linter.unusedVariables false
set_option linter.unusedSimpArgs false

/-! ### impl_jump: function 76 -/
def impl_jump.f (k : Nat) (l0 : List Int) (a1 : Int) (a2 : Int) : Option (List Int × Bool) := (impl_otherRoot.f k l0 a1 a2).bind fun t271 => ((impl_within.f t271 1 100000).bind fun t272 => (if t272 = true then ((slices_Clone_int_int.f l0).bind fun t273 => (if 0 ≤ a2 then (if a2 < (t273.length : Int) then ((slices_Sort_int_int.f (t273.set (a2 : Int).toNat t271)).bind fun t277 => ((slices_Reverse_int_int.f k t277).bind fun t278 => (some (t278, true)))) else (none)) else (none))) else (some (([] : List Int), false))))
theorem impl_jump.mono : ∀ a0 a1 a2 k, LeO (impl_jump.f k a0 a1 a2) (impl_jump.f (k + 1) a0 a1 a2) := by
 intro a0 a1 a2 k
 unfold impl_jump.f
 repeat' first
   | (with_reducible exact impl_otherRoot.mono _ _ _ _)
   | (with_reducible exact slices_Reverse_int_int.mono _ _)
   | (with_reducible exact LeO.refl _)
   | (with_reducible exact LeO.none _)
   | (with_reducible refine LeO.ite ?_ ?_)
   | (with_reducible refine LeO.bind ?_ (fun _ => ?_))
   | exact impl_otherRoot.mono _ _ _ _
   | exact slices_Reverse_int_int.mono _ _
   | exact LeO.none _
   | refine LeO.ite ?_ ?_
   | refine LeO.bind ?_ (fun _ => ?_)
set_option maxHeartbeats 8000000 in
set_option maxRecDepth 100000 in
theorem impl_jump.calls (k : Nat) (A0 : Option Addr) (c0 : Nat) (l0 : List Int) (a1 : Int) (a2 : Int) (r1 : List Int) (r2 : Bool) (w : World) (hr0 : Kd.C (Kd.int .i64) w A0 l0.length l0) (hc0 : l0.length ≤ c0) (h : impl_jump.f k l0 a1 a2 = some (r1, r2)) :
  Calls Try.prog 76 #[.slice A0 l0.length c0, .int .i64 a1, .int .i64 a2] w fun e w' => ∃ v0_ : Value, e = .returned (.tuple #[v0_, .bool r2]) ∧ Kd.R (Kd.int .i64) 3 w' w.heap.size (fun _ => True) v0_ r1 ∧ Below w.heap.size w w' := by
 have HR0 := Aside0.mk hr0
 have HC0 := Aside0.mk hc0
 clear hr0 hc0
 have HB := Aside0.mk (Below.refl w.heap.size w)
 have H : ((impl_otherRoot.f k l0 a1 a2).bind fun t271 => ((impl_within.f t271 1 100000).bind fun t272 => (if t272 = true then ((slices_Clone_int_int.f l0).bind fun t273 => (if 0 ≤ a2 then (if a2 < (t273.length : Int) then ((slices_Sort_int_int.f (t273.set (a2 : Int).toNat t271)).bind fun t277 => ((slices_Reverse_int_int.f k t277).bind fun t278 => (some (t278, true)))) else (none)) else (none))) else (some (([] : List Int), false))))) = some (r1, r2) := h
 clear h
 replace H := Option.bind_eq_some_iff.mp H
 obtain ⟨t271, A40, H⟩ := H
 replace H : ((impl_within.f t271 1 100000).bind fun t272 => (if t272 = true then ((slices_Clone_int_int.f l0).bind fun t273 => (if 0 ≤ a2 then (if a2 < (t273.length : Int) then ((slices_Sort_int_int.f (t273.set (a2 : Int).toNat t271)).bind fun t277 => ((slices_Reverse_int_int.f k t277).bind fun t278 => (some (t278, true)))) else (none)) else (none))) else (some (([] : List Int), false)))) = some (r1, r2) := H
 have A4 := Aside0.mk A40
 clear A40
 replace H := Option.bind_eq_some_iff.mp H
 obtain ⟨t272, A50, H⟩ := H
 replace H : (if t272 = true then ((slices_Clone_int_int.f l0).bind fun t273 => (if 0 ≤ a2 then (if a2 < (t273.length : Int) then ((slices_Sort_int_int.f (t273.set (a2 : Int).toNat t271)).bind fun t277 => ((slices_Reverse_int_int.f k t277).bind fun t278 => (some (t278, true)))) else (none)) else (none))) else (some (([] : List Int), false))) = some (r1, r2) := H
 have A5 := Aside0.mk A50
 clear A50
 by_cases c6 : t272 = true
 ·subst c6
  have H1 : ((slices_Clone_int_int.f l0).bind fun t273 => (if 0 ≤ a2 then (if a2 < (t273.length : Int) then ((slices_Sort_int_int.f (t273.set (a2 : Int).toNat t271)).bind fun t277 => ((slices_Reverse_int_int.f k t277).bind fun t278 => (some (t278, true)))) else (none)) else (none))) = some (r1, r2) := by rw [if_pos rfl] at H; exact H
  clear H
  have H := H1
  clear H1
  replace H := Option.bind_eq_some_iff.mp H
  obtain ⟨t273, A70, H⟩ := H
  replace H : (if 0 ≤ a2 then (if a2 < (t273.length : Int) then ((slices_Sort_int_int.f (t273.set (a2 : Int).toNat t271)).bind fun t277 => ((slices_Reverse_int_int.f k t277).bind fun t278 => (some (t278, true)))) else (none)) else (none)) = some (r1, r2) := H
  have A7 := Aside0.mk A70
  clear A70
  by_cases c8 : 0 ≤ a2
  ·rw [if_pos c8] at H
   have c8b0 : decide (0 ≤ a2) = true := decide_eq_true c8
   clear c8
   by_cases c9 : a2 < (t273.length : Int)
   ·rw [if_pos c9] at H
    have c9b0 : decide (a2 < (t273.length : Int)) = true := decide_eq_true c9
    clear c9
    obtain ⟨y276, hy276⟩ : ∃ y_ : List Int, y_ = (t273.set (a2 : Int).toNat t271) := ⟨_, rfl⟩
    replace H : ((slices_Sort_int_int.f y276).bind fun t277 => ((slices_Reverse_int_int.f k t277).bind fun t278 => (some (t278, true)))) = some (r1, r2) := by first | (rw [hy276]; with_reducible exact H) | (have H2_ := (Option.bind_some _ _).symm.trans H; rw [hy276]; with_reducible exact H2_) | (have H2_ := (Option.bind_some _ _).symm.trans H; with_reducible exact H2_) | with_reducible exact H | (rw [hy276]; exact H) | exact H
    have Ny276 := Aside0.mk hy276
    clear hy276
    replace H := Option.bind_eq_some_iff.mp H
    obtain ⟨t277, A110, H⟩ := H
    replace H : ((slices_Reverse_int_int.f k t277).bind fun t278 => (some (t278, true))) = some (r1, r2) := H
    have A11 := Aside0.mk A110
    clear A110
    replace H := Option.bind_eq_some_iff.mp H
    obtain ⟨t278, A120, H⟩ := H
    replace H : (some (t278, true)) = some (r1, r2) := H
    have A12 := Aside0.mk A120
    clear A120
    simp only [Option.some.injEq, Prod.mk.injEq] at H
    obtain ⟨rfl, rfl⟩ := H
    go_enter Try.func76, Try.ntmps76
    go_wp2_with (first | ((with_reducible refine gate_callee (f := 100) rfl ?_); refine goesL_ (some 13) rfl rfl Try.func100 (by kernel_rfl) rfl #[.slice A0 l0.length c0, .int .i64 a1, .int .i64 a2] rfl (by (try simp only [List.map_toArray, List.map_cons, List.map_nil]); first | done | rfl | (simp only [List.length_drop, List.length_take]; rfl)) ?_; (with_reducible refine (impl_otherRoot.calls k _ _ l0 a1 a2 t271 _ ?side1 ?side2 A4.out).mono ?_); (case side1 => repeat (first | exact HR0.out | (with_reducible refine Kd.C_alloc ?_ _) | (with_reducible refine Kd.C_drewN ?_ _) | (with_reducible refine Kd.C_drew ?_))); (case side2 => exact HC0.out); rintro e w' ⟨rfl, ⟨nd, rfl⟩⟩; refine ⟨_, rfl, ?_⟩) | ((with_reducible refine gate_callee (f := 57) rfl ?_); refine goesL_ (some 15) rfl rfl Try.func57 (by kernel_rfl) rfl #[.int .i64 t271, .int .i64 1, .int .i64 100000] rfl (by (try simp only [List.map_toArray, List.map_cons, List.map_nil]); first | done | rfl | (simp only [List.length_drop, List.length_take]; rfl)) ?_; (with_reducible refine (impl_within.calls t271 1 100000 true _ A5.out).mono ?_); rintro e w' ⟨rfl, ⟨nd, rfl⟩⟩; refine ⟨_, rfl, ?_⟩) | ((with_reducible refine gate_callee (f := 58) rfl ?_); refine goesL_ (some 18) rfl rfl Try.func58 (by kernel_rfl) rfl #[.slice A0 l0.length c0] rfl (by (try simp only [List.map_toArray, List.map_cons, List.map_nil]); first | done | rfl | (simp only [List.length_drop, List.length_take]; rfl)) ?_; (with_reducible refine (slices_Clone_int_int.calls _ _ l0 t273 _ ?side1 ?side2 A7.out).mono ?_); (case side1 => repeat (first | exact HR0.out | (with_reducible refine Kd.C_alloc ?_ _) | (with_reducible refine Kd.C_drewN ?_ _) | (with_reducible refine Kd.C_drew ?_))); (case side2 => exact HC0.out); rintro e w13 ⟨v274, rfl, ho0, hb⟩; refine ⟨_, rfl, ?_⟩; have n0_ := Aside0.mk (Kd.R_lower ho0 (below_size (by repeat (first | (with_reducible first | exact HB.out | apply below_alloc | apply pw_below_drewN | apply below_drew1) | exact HB.out)))); have n1_ := Aside0.mk (below_step (by repeat (first | (with_reducible first | exact HB.out | apply below_alloc | apply pw_below_drewN | apply below_drew1) | exact HB.out)) hb); clear HB; have HO275 := n0_; have HB := n1_; clear n0_ n1_; (try clear hb); (try clear hb2); (try clear hk); (try clear hi); (try clear ho0); have p10 : 0 ≤ (a2 : Int) := of_decide_eq_true (by first | (with_reducible assumption) | assumption); have q10 : (a2 : Int) < ((t273.length : Int) : Int) := of_decide_eq_true (by first | (with_reducible assumption) | assumption); obtain ⟨go10, co10, eo10, gb10, gl10, cl10, HG10⟩ := Kd.R_form HO275.out (by omega); (first | cases eo10 | (injection eo10 with ea_ en_ ec_; (first | subst ea_ | (injection ea_ with ea_; subst ea_)); subst ec_; clear en_)); have GB10 := Aside0.mk gb10; have GG10 := Aside0.mk HG10; clear gb10 gl10 HG10; obtain ⟨hx10_0, hf10_0⟩ := Kd.R_celln 0 HO275.out (a2 : Int) p10 q10; replace p10 := eq_true p10; replace q10 := eq_true q10; obtain ⟨hy14_, hz14_⟩ := Kd.R_celln 0 HO275.out (a2 : Int) (of_decide_eq_true (by first | (with_reducible assumption) | assumption)) (of_decide_eq_true (by first | (with_reducible assumption) | assumption)); have HP14 := Kd.R_putg HO275.out (a2 : Int) t271) | ((with_reducible refine gate_store (t := 3) (p := 22) rfl ?_); refine store_event (t := 3) (p := 22) (v := ?vo_w15) (w1 := (w13.setCell ⟨go10, (a2 : Int).toNat, none⟩ (.int .i64 t271))) ?hg ?ho ?hn ?hr ?_; (case ho => rfl); (case hg => rfl); (case hn => rfl); (case hr => first | (go_simp; done) | (go_simp; rfl)); intro w15 hw; have hg : w13.grownBy w15 (some go10) := (by rw [hw]; exact HP14.2); have hp_ : Kd.R (Kd.int .i64) 3 w15 w.heap.size (fun _ => True) (.slice (some ⟨go10, 0, none⟩) t273.length co10) y276 := (by rw [hw, Ny276.out]; exact HP14.1); clear HP14; have n0_ := Aside0.mk (hp_); have n1_ := Aside0.mk ((by rw [hw]; exact below_set (HB.out) GB10.out : Below w.heap.size w w15)); clear HO275; clear HB; have HO275 := n0_; have HB := n1_; clear n0_ n1_; clear hg hw hp_) | ((with_reducible refine gate_callee (f := 101) rfl ?_); refine goesL_ (some 24) rfl rfl Try.func101 (by kernel_rfl) rfl #[.slice (some ⟨go10, 0, none⟩) t273.length co10] rfl (by (try simp only [List.map_toArray, List.map_cons, List.map_nil]); first | done | rfl | (simp only [List.length_drop, List.length_take]; rfl)) ?_; (with_reducible refine (slices_Sort_int_int.calls (fun k_ => some k_ = (.slice (some ⟨go10, 0, none⟩) t273.length co10 : Value).ownBlock) (.slice (some ⟨go10, 0, none⟩) t273.length co10) y276 t277 w _ ?side1 ?side2 A11.out).mono ?_); (case side1 => repeat (first | (with_reducible first | exact HB.out | apply below_alloc | apply pw_below_drewN | apply below_drew1) | exact HB.out)); (case side2 => exact Kd.R_tight rfl HO275.out); rintro e w16 ⟨rfl, hy0, hb, hkp⟩; refine ⟨_, rfl, ?_⟩; have n0_ := Aside0.mk (Kd.R_reok rfl hy0 (fun k_ e_ => HO275.out.1 k_ e_)); have n1_ := Aside0.mk (hb); clear HO275; clear HB; have HO275 := n0_; have HB := n1_; clear n0_ n1_; (try clear hb); (try clear hkp); (try clear hy0)) | ((with_reducible refine gate_callee (f := 102) rfl ?_); refine goesL_ (some 26) rfl rfl Try.func102 (by kernel_rfl) rfl #[.slice (some ⟨go10, 0, none⟩) t273.length co10] rfl (by (try simp only [List.map_toArray, List.map_cons, List.map_nil]); first | done | rfl | (simp only [List.length_drop, List.length_take]; rfl)) ?_; (with_reducible refine (slices_Reverse_int_int.calls k (fun k_ => some k_ = (.slice (some ⟨go10, 0, none⟩) t273.length co10 : Value).ownBlock) (.slice (some ⟨go10, 0, none⟩) t273.length co10) t277 t278 w _ ?side1 ?side2 A12.out).mono ?_); (case side1 => repeat (first | (with_reducible first | exact HB.out | apply below_alloc | apply pw_below_drewN | apply below_drew1) | exact HB.out)); (case side2 => exact Kd.R_tight rfl HO275.out); rintro e w17 ⟨rfl, hy0, hb, hkp⟩; refine ⟨_, rfl, ?_⟩; have n0_ := Aside0.mk (Kd.R_reok rfl hy0 (fun k_ e_ => HO275.out.1 k_ e_)); have n1_ := Aside0.mk (hb); clear HO275; clear HB; have HO275 := n0_; have HB := n1_; clear n0_ n1_; (try clear hb); (try clear hkp); (try clear hy0)))
    go_ret2
    exact ⟨_, by first | rfl | (simp [errW_none, errW_some] <;> rfl) | (simp [*, errW_none, errW_some] <;> rfl), by (with_reducible repeat (first | apply Kd.R_alloc | apply Kd.R_drewN | apply Kd.R_drew)); exact HO275.out, by repeat (first | (with_reducible first | exact HB.out | apply below_alloc | apply pw_below_drewN | apply below_drew1) | exact HB.out)⟩
   ·rw [if_neg c9] at H
    exact absurd H (by simp)
  ·rw [if_neg c8] at H
   exact absurd H (by simp)
 ·replace c6 := Bool.eq_false_iff.mpr c6
  subst c6
  have H1 : (some (([] : List Int), false)) = some (r1, r2) := by rw [if_neg (show ¬ (false = true) by decide)] at H; exact H
  clear H
  have H := H1
  clear H1
  simp only [Option.some.injEq, Prod.mk.injEq] at H
  obtain ⟨rfl, rfl⟩ := H
  go_enter Try.func76, Try.ntmps76
  go_wp2_with (first | ((with_reducible refine gate_callee (f := 100) rfl ?_); refine goesL_ (some 13) rfl rfl Try.func100 (by kernel_rfl) rfl #[.slice A0 l0.length c0, .int .i64 a1, .int .i64 a2] rfl (by (try simp only [List.map_toArray, List.map_cons, List.map_nil]); first | done | rfl | (simp only [List.length_drop, List.length_take]; rfl)) ?_; (with_reducible refine (impl_otherRoot.calls k _ _ l0 a1 a2 t271 _ ?side1 ?side2 A4.out).mono ?_); (case side1 => repeat (first | exact HR0.out | (with_reducible refine Kd.C_alloc ?_ _) | (with_reducible refine Kd.C_drewN ?_ _) | (with_reducible refine Kd.C_drew ?_))); (case side2 => exact HC0.out); rintro e w' ⟨rfl, ⟨nd, rfl⟩⟩; refine ⟨_, rfl, ?_⟩) | ((with_reducible refine gate_callee (f := 57) rfl ?_); refine goesL_ (some 15) rfl rfl Try.func57 (by kernel_rfl) rfl #[.int .i64 t271, .int .i64 1, .int .i64 100000] rfl (by (try simp only [List.map_toArray, List.map_cons, List.map_nil]); first | done | rfl | (simp only [List.length_drop, List.length_take]; rfl)) ?_; (with_reducible refine (impl_within.calls t271 1 100000 false _ A5.out).mono ?_); rintro e w' ⟨rfl, ⟨nd, rfl⟩⟩; refine ⟨_, rfl, ?_⟩))
  go_ret2
  exact ⟨_, by first | rfl | (simp [errW_none, errW_some] <;> rfl) | (simp [*, errW_none, errW_some] <;> rfl), by first | exact Kd.R_nil _ _ _ _ _ | exact Kd.N_nil _ _ _ _ _ | exact Kd.V_nil _ _ _ _ _ | exact Kd.Q_nil _ _ _ _ _ | exact Kd.S_nil _ _ _ _ _, by repeat (first | (with_reducible first | exact HB.out | apply below_alloc | apply pw_below_drewN | apply below_drew1) | exact HB.out)⟩

end Go.Proofs.Ytgpoljimomfbbaa.P

-- Usorted
namespace Go.Proofs.Ytgpoljimomfbbaa.P
set_option linter.unusedVariables false
set_option linter.unusedSimpArgs false
open Go.RowKit Go.Proofs.YtgpoljimomfbbaaW.PrintWords Go.Proofs.YtgpoljimomfbbaaW.PrintLast

def up (l : List Int) : List Int := l.mergeSort fun x y => decide (x ≤ y)
theorem up_perm (l : List Int) : (up l).Perm l := List.mergeSort_perm _ _
theorem up_pairwise (l : List Int) : (up l).Pairwise (· ≤ ·) := by
  have h := List.pairwise_mergeSort (le := fun x y : Int => decide (x ≤ y)) (by intro a b c h1 h2; simp at *; omega) (by intro a b; simp; omega) l
  exact h.imp (by intro a b h; simpa using h)
theorem up_length (l : List Int) : (up l).length = l.length := (up_perm l).length_eq
theorem sort_is (l : List Int) (h : l.length < 4611686018427387904) : slices_Sort_int_int.f l = some (up l) := by
  unfold slices_Sort_int_int.f
  rw [if_pos h]
  rfl
end Go.Proofs.Ytgpoljimomfbbaa.P

-- Udown
namespace Go.Proofs.Ytgpoljimomfbbaa.P
set_option linter.unusedVariables false
set_option linter.unusedSimpArgs false
open Go.RowKit Go.Proofs.YtgpoljimomfbbaaW.PrintWords Go.Proofs.YtgpoljimomfbbaaW.PrintLast

def down (l : List Int) : List Int := (up l).reverse
theorem down_perm (l : List Int) : (down l).Perm l := (List.reverse_perm _).trans (up_perm l)
theorem down_pairwise (l : List Int) : (down l).Pairwise (· ≥ ·) := by
  unfold down
  rw [List.pairwise_reverse]
  exact up_pairwise l
theorem down_unique {l m : List Int} (hp : m.Perm l) (hs : m.Pairwise (· ≥ ·)) : m = down l :=
  List.Perm.eq_of_pairwise (le := (· ≥ ·)) (fun a b _ _ h1 h2 => by omega) hs (down_pairwise l) (hp.trans (down_perm l).symm)
theorem down_length (l : List Int) : (down l).length = l.length := (down_perm l).length_eq

/-- The first i and the last i have changed places. -/
def turned (xs : List Int) (i : Nat) : List Int := (List.range xs.length).map fun p => if p < i ∨ xs.length - i ≤ p then xs.getD (xs.length - 1 - p) 0 else xs.getD p 0
theorem turned_length (xs : List Int) (i : Nat) : (turned xs i).length = xs.length := by simp [turned]
theorem turned_zero (xs : List Int) : turned xs 0 = xs := by
  apply List.ext_getElem
  · simp [turned]
  · intro p h1 h2
    simp [turned, List.getD_eq_getElem?_getD, h2]
    omega
theorem turned_end (xs : List Int) (i : Nat) (h : xs.length ≤ 2 * i + 1) : turned xs i = xs.reverse := by
  apply List.ext_getElem
  · simp [turned]
  · intro p h1 h2
    have h3 : p < xs.length := by simpa using h2
    rw [List.getElem_reverse]
    simp only [turned, List.getElem_map, List.getElem_range]
    by_cases c : p < i ∨ xs.length - i ≤ p
    · rw [if_pos c]
      simp [List.getD_eq_getElem?_getD, show xs.length - 1 - p < xs.length by omega]
    · rw [if_neg c]
      have e : p = xs.length - 1 - p := by omega
      simp only [List.getD_eq_getElem?_getD]
      rw [List.getElem?_eq_getElem h3, Option.getD_some]
      congr 1
theorem turned_succ (xs : List Int) (i : Nat) (h : 2 * i + 1 < xs.length) : turned xs (i + 1) = ((turned xs i).set i ((turned xs i).getD (xs.length - 1 - i) 0)).set (xs.length - 1 - i) ((turned xs i).getD i 0) := by
  have g : ∀ p, p < xs.length → (turned xs i).getD p 0 = if p < i ∨ xs.length - i ≤ p then xs.getD (xs.length - 1 - p) 0 else xs.getD p 0 := by
    intro p hp
    simp [turned, List.getD_eq_getElem?_getD, hp]
  rw [g i (by omega), g (xs.length - 1 - i) (by omega), if_neg (by omega), if_neg (by omega)]
  apply List.ext_getElem
  · simp [turned]
  · intro p h1 h2
    have h3 : p < xs.length := by simpa [turned] using h1
    rw [List.getElem_set, List.getElem_set]
    simp only [turned, List.getElem_map, List.getElem_range]
    by_cases e1 : xs.length - 1 - i = p
    · rw [if_pos e1, if_pos (by omega)]
      congr 1
      omega
    · rw [if_neg e1]
      by_cases e2 : i = p
      · rw [if_pos e2, if_pos (by omega)]
        congr 1
        omega
      · rw [if_neg e2]
        by_cases c : p < i ∨ xs.length - i ≤ p
        · rw [if_pos (by omega), if_pos c]
        · rw [if_neg (by omega), if_neg c]
theorem reverse_upto (xs : List Int) (hn : xs.length ≤ 4611686018427387904) (d : Nat) : ∀ i : Nat, xs.length ≤ 2 * i + 2 * d → Ev (fun k => slices_Reverse_int_int.l0 k (turned xs i) (i : Int) ((xs.length : Int) - 1 - i)) xs.reverse := by
  induction d with
  | zero =>
    intro i hid
    refine Ev.step (f := fun _ => some (turned xs i)) (fun k => by simp only [slices_Reverse_int_int.l0]; rw [if_neg (by omega)]) ?_
    exact Ev.is (by rw [turned_end xs i (by omega)])
  | succ d ih =>
    intro i hid
    by_cases h : 2 * i + 1 < xs.length
    · have hl := turned_length xs i
      have e1 : wrap64 ((i : Int) + 1) = ((i + 1 : Nat) : Int) := w64_succ (n := xs.length) (by omega) hn
      have e2 : wrap64 ((xs.length : Int) - 1 - i - 1) = (xs.length : Int) - 1 - ((i + 1 : Nat) : Int) := by rw [w64 (by omega) (by omega)]; omega
      have e3 : ((xs.length : Int) - 1 - i).toNat = xs.length - 1 - i := by omega
      refine Ev.step (f := fun k => slices_Reverse_int_int.l0 k (turned xs (i + 1)) ((i + 1 : Nat) : Int) ((xs.length : Int) - 1 - ((i + 1 : Nat) : Int))) (fun k => ?_) (ih (i + 1) (by omega))
      simp only [slices_Reverse_int_int.l0]
      rw [if_pos (by omega), if_pos (by omega), if_pos (by omega), if_pos (by omega), if_pos (by omega), e1, e2, turned_succ xs i h]
      simp only [rd, e3, Int.toNat_natCast]
    · refine Ev.step (f := fun _ => some (turned xs i)) (fun k => by simp only [slices_Reverse_int_int.l0]; rw [if_neg (by omega)]) ?_
      exact Ev.is (by rw [turned_end xs i (by omega)])
theorem reverse_ev (xs : List Int) (hn : xs.length ≤ 4611686018427387904) : Ev (fun k => slices_Reverse_int_int.f k xs) xs.reverse := by
  unfold slices_Reverse_int_int.f
  rw [w64 (by omega) (by omega)]
  have h := reverse_upto xs hn xs.length 0 (by omega)
  rw [turned_zero] at h
  have e : (xs.length : Int) - 1 - ((0 : Nat) : Int) = (xs.length : Int) - 1 := by omega
  rw [e] at h
  exact h
end Go.Proofs.Ytgpoljimomfbbaa.P

-- UhuSort
namespace Go.Proofs.Ytgpoljimomfbbaa.P
set_option linter.unusedVariables false
set_option linter.unusedSimpArgs false
open Go.RowKit Go.Proofs.YtgpoljimomfbbaaW.PrintWords Go.Proofs.YtgpoljimomfbbaaW.PrintLast

def ins (x : Int) : List Int → List Int
  | [] => [x]
  | y :: l => if y ≥ x then y :: ins x l else x :: y :: l
theorem ins_length (x : Int) (l : List Int) : (ins x l).length = l.length + 1 := by
  induction l with
  | nil => rfl
  | cons y l ih =>
    rw [ins]
    split
    · simp [ih]
    · simp
theorem ins_perm (x : Int) (l : List Int) : (ins x l).Perm (x :: l) := by
  induction l with
  | nil => exact List.Perm.refl _
  | cons y l ih =>
    rw [ins]
    split
    · exact (List.Perm.cons y ih).trans (List.Perm.swap x y l)
    · exact List.Perm.refl _
theorem ins_pairwise (x : Int) (l : List Int) (h : l.Pairwise (· ≥ ·)) : (ins x l).Pairwise (· ≥ ·) := by
  induction l with
  | nil => simp [ins]
  | cons y l ih =>
    rw [List.pairwise_cons] at h
    rw [ins]
    split
    · rename_i hxy
      rw [List.pairwise_cons]
      refine ⟨fun z hz => ?_, ih h.2⟩
      rcases List.mem_cons.1 ((ins_perm x l).mem_iff.1 hz) with rfl | hz
      · exact hxy
      · exact h.1 z hz
    · rename_i hxy
      rw [List.pairwise_cons]
      refine ⟨fun z hz => ?_, List.pairwise_cons.2 h⟩
      rcases List.mem_cons.1 hz with rfl | hz
      · omega
      · have := h.1 z hz
        omega
theorem l1Own_is (l : List Int) (h : l.length < 17592186044416) : spec_l1Own.f l = some l := by
  unfold spec_l1Own.f
  simp [h]
theorem huSort_in (o : List Int) (x : Int) (l : List Int) (i : Nat) (hn : o.length ≤ 1000000) (hi : i < l.length) (hl : l.length ≤ 1000000) (r : List Int) (d : Nat) : ∀ j : Nat, j + d = o.length → Ev (fun k => spec_huSort.l0 k (o.take j ++ ins x (o.drop j)) l (l.length : Int) ((i + 1 : Nat) : Int)) r → Ev (fun k => spec_huSort.l1 k o x (j : Int) l (l.length : Int) (i : Int)) r := by
  have hput : ∀ j : Nat, j ≤ o.length → ∀ k, (if (0 : Int) ≤ (j : Int) then (if (j : Int) ≤ (o.length : Int) then ((spec_l1Own.f (o.take ((j : Int)).toNat)).bind fun t301 => (if t301.length < 17592186044416 then ((some (t301 ++ [x] : List Int)).bind fun y304 => ((some (o.drop ((j : Int)).toNat : List Int)).bind fun y307 => (if y304.length + y307.length < 17592186044416 then (spec_huSort.l0 k (y304 ++ y307) l (l.length : Int) (wrap64 ((i : Int) + 1))) else (none)))) else (none))) else (none)) else (none)) = spec_huSort.l0 k (o.take j ++ x :: o.drop j) l (l.length : Int) ((i + 1 : Nat) : Int) := by
    intro j hj k
    rw [if_pos (by omega), if_pos (by omega), Int.toNat_natCast, l1Own_is _ (by rw [List.length_take]; omega), w64_succ (n := l.length) hi (by omega)]
    simp only [Option.bind_some]
    rw [if_pos (by rw [List.length_take]; omega), if_pos (by rw [List.length_append, List.length_take, List.length_drop]; simp; omega), List.append_assoc, List.singleton_append]
  induction d with
  | zero =>
    intro j hid hE
    rw [List.drop_eq_nil_of_le (by omega), ins] at hE
    refine Ev.step (f := fun k => spec_huSort.l0 k (o.take j ++ [x]) l (l.length : Int) ((i + 1 : Nat) : Int)) (fun k => ?_) hE
    simp only [spec_huSort.l1]
    rw [if_neg (by omega), hput j (by omega) k, List.drop_eq_nil_of_le (by omega)]
  | succ d ih =>
    intro j hid hE
    have hdrop := rd_drop o j (by omega)
    rw [hdrop, ins] at hE
    by_cases h : rd o (j : Int) ≥ x
    · rw [if_pos h] at hE
      refine Ev.step (f := fun k => spec_huSort.l1 k o x ((j + 1 : Nat) : Int) l (l.length : Int) (i : Int)) (fun k => ?_) (ih (j + 1) (by omega) ?_)
      · simp only [spec_huSort.l1]
        rw [if_pos (by omega), if_pos (by omega), if_pos h, w64_succ (n := o.length) (by omega) (by omega)]
      · rw [List.take_succ_eq_append_getElem (by omega), List.append_assoc, List.singleton_append, ← rd_lt o j (by omega)]
        exact hE
    · rw [if_neg h] at hE
      refine Ev.step (f := fun k => spec_huSort.l0 k (o.take j ++ x :: o.drop j) l (l.length : Int) ((i + 1 : Nat) : Int)) (fun k => ?_) (by rw [hdrop]; exact hE)
      have hp := hput j (by omega) k
      rw [if_pos (by omega)] at hp
      simp only [spec_huSort.l1]
      rw [if_pos (by omega), if_pos (by omega), if_neg h]
      exact hp
theorem huSort_upto (l : List Int) (hl : l.length ≤ 1000000) (d : Nat) : ∀ (i : Nat) (o : List Int), i + d = l.length → o.length = i → Ev (fun k => spec_huSort.l0 k o l (l.length : Int) (i : Int)) ((l.drop i).foldl (fun o x => ins x o) o) := by
  induction d with
  | zero =>
    intro i o hid ho
    refine Ev.step (f := fun _ => some o) (fun k => by simp only [spec_huSort.l0]; rw [if_neg (by omega)]) ?_
    rw [List.drop_eq_nil_of_le (by omega)]
    exact Ev.is rfl
  | succ d ih =>
    intro i o hid ho
    refine Ev.step (f := fun k => spec_huSort.l1 k o (rd l (i : Int)) ((0 : Nat) : Int) l (l.length : Int) (i : Int)) (fun k => ?_) ?_
    · simp only [spec_huSort.l0]
      rw [if_pos (by omega), if_pos (by omega), if_pos (by omega)]
      rfl
    · refine huSort_in o _ l i (by omega) (by omega) hl _ o.length 0 (by omega) ?_
      rw [List.take_zero, List.drop_zero, List.nil_append, rd_drop l i (by omega), List.foldl_cons]
      exact ih (i + 1) _ (by omega) (by rw [ins_length]; omega)
theorem foldl_ins (l : List Int) : ∀ o : List Int, o.Pairwise (· ≥ ·) → (l.foldl (fun o x => ins x o) o).Pairwise (· ≥ ·) ∧ (l.foldl (fun o x => ins x o) o).Perm (o ++ l) := by
  induction l with
  | nil => intro o ho; exact ⟨ho, by rw [List.append_nil]; exact List.Perm.refl _⟩
  | cons x l ih =>
    intro o ho
    have h := ih (ins x o) (ins_pairwise x o ho)
    refine ⟨h.1, h.2.trans ?_⟩
    exact ((ins_perm x o).append_right l).trans List.perm_middle.symm
theorem huSort_ev (l : List Int) (hl : l.length ≤ 1000000) : Ev (fun k => spec_huSort.f k l) (down l) := by
  unfold spec_huSort.f
  have h := huSort_upto l hl l.length 0 [] (by omega) rfl
  have h2 := foldl_ins l [] List.Pairwise.nil
  rw [List.drop_zero, down_unique h2.2 h2.1] at h
  exact h
end Go.Proofs.Ytgpoljimomfbbaa.P

-- UhuJump
namespace Go.Proofs.Ytgpoljimomfbbaa.P
set_option linter.unusedVariables false
set_option linter.unusedSimpArgs false
open Go.RowKit Go.Proofs.YtgpoljimomfbbaaW.PrintWords Go.Proofs.YtgpoljimomfbbaaW.PrintLast Go.Proofs.YtgpoljimomfbbaaW.PrintMore

theorem clone_is (l : List Int) (h : l.length < 17592186044416) : slices_Clone_int_int.f l = some l := by
  unfold slices_Clone_int_int.f
  rw [if_pos h]
theorem sqs_perm {l m : List Int} (h : l.Perm m) : sqs l = sqs m := by
  induction h with
  | nil => rfl
  | cons x _ ih => simp only [sqs, ih]
  | swap x y l => simp only [sqs]; omega
  | trans _ _ h1 h2 => exact h1.trans h2
theorem prd_perm {l m : List Int} (h : l.Perm m) : prd l = prd m := by
  induction h with
  | nil => rfl
  | cons x _ ih => simp only [prd, ih]
  | swap x y l => simp only [prd]; grind
  | trans _ _ h1 h2 => exact h1.trans h2
theorem fallsFrom_iff (p : Int) (l : List Int) : fallsFrom p l = true ↔ (p :: l).Pairwise (· ≥ ·) := by
  induction l generalizing p with
  | nil => simp [fallsFrom]
  | cons x l ih =>
    rw [fallsFrom, Bool.and_eq_true, ih, List.pairwise_cons (a := p) (l := x :: l), decide_eq_true_eq]
    constructor
    · rintro ⟨h1, h2⟩
      refine ⟨fun y hy => ?_, h2⟩
      rcases List.mem_cons.1 hy with rfl | hy
      · exact h1
      · have := (List.pairwise_cons.1 h2).1 y hy
        omega
    · rintro ⟨h1, h2⟩
      exact ⟨h1 x List.mem_cons_self, h2⟩
theorem falls_iff (l : List Int) : falls l = true ↔ l.Pairwise (· ≥ ·) := by
  cases l with
  | nil => simp [falls]
  | cons x l => exact fallsFrom_iff x l
theorem rd_set (l : List Int) (i : Nat) (y : Int) (hi : i < l.length) : rd (l.set i y) (i : Int) = y := by rw [rd_lt _ _ (by rw [List.length_set]; exact hi), List.getElem_set_self]
theorem erase_set (l : List Int) (i : Nat) (y : Int) : (l.set i y).eraseIdx i = l.eraseIdx i := by
  induction l generalizing i with
  | nil => rfl
  | cons x l ih =>
    cases i with
    | zero => rfl
    | succ i => rw [List.set_cons_succ, List.eraseIdx_cons_succ, List.eraseIdx_cons_succ, ih]

/-- Behind the jump at i. -/
def jmp (l : List Int) (a : Int) (i : Nat) : List Int := down (l.set i (oth l a i))
def jumpOf (l : List Int) (a : Int) (i : Nat) : List Int × Bool := if inB 1 100000 (oth l a i) then (jmp l a i, true) else ([], false)
theorem jmp_length (l : List Int) (a : Int) (i : Nat) : (jmp l a i).length = l.length := by rw [jmp, down_length, List.length_set]
/-- The sum of squares and the product behind a jump: Vieta. -/
theorem vieta {l : List Int} {a b : Int} {i : Nat} (hi : i < l.length) (h : sqs l = a * prd l + b) : sqs (jmp l a i) = a * prd (jmp l a i) + b := by
  rw [jmp, sqs_perm (down_perm _), prd_perm (down_perm _)]
  have hi2 : i < (l.set i (oth l a i)).length := by rw [List.length_set]; exact hi
  rw [sqs_mem _ i hi2, prd_erase _ i hi2, rd_set l i _ hi, erase_set]
  rw [sqs_mem l i hi, prd_erase l i hi] at h
  unfold oth
  grind
theorem jmp_is {l : List Int} {a b : Int} {i : Nat} (hi : i < l.length) (h : huIs l a b = true) (ho : inB 1 100000 (oth l a i) = true) : huIs (jmp l a i) a b = true := by
  obtain ⟨h1, h2, h3, h4⟩ := huIs_iff.1 h
  refine huIs_iff.2 ⟨by rw [jmp_length]; exact h1, fun x hx => ?_, (falls_iff _).2 (down_pairwise _), vieta hi h4⟩
  have hx2 := (down_perm _).mem_iff.1 hx
  rcases List.mem_or_eq_of_mem_set hx2 with hm | rfl
  · exact h2 x hm
  · exact inB_iff.1 ho
theorem jump_both {l : List Int} {a b : Int} (hg : huGv a b = true) (h : huIs l a b = true) (i : Nat) (hi : i < l.length) : Ev (fun k => impl_jump.f k l a (i : Int)) (jumpOf l a i) ∧ Ev (fun k => spec_huJump.f k l a (i : Int)) (jumpOf l a i) := by
  obtain ⟨e1, e2⟩ := other_both hg h i hi
  obtain ⟨h1, h2, h3, h4⟩ := huIs_iff.1 h
  have c1 : (0 : Int) ≤ (i : Int) := by omega
  have c2 : (i : Int) < (l.length : Int) := by omega
  unfold impl_jump.f spec_huJump.f jumpOf
  constructor
  · refine Ev.bind e1 ?_
    rw [within_inB]
    refine Ev.bind0 rfl ?_
    cases ho : inB 1 100000 (oth l a i) with
    | false =>
      simp only [Bool.false_eq_true, if_false]
      exact Ev.is rfl
    | true =>
      simp only [if_true]
      refine Ev.bind0 (clone_is l (by omega)) ?_
      simp only [c1, c2, if_true, Int.toNat_natCast]
      refine Ev.bind0 (sort_is _ (by rw [List.length_set]; omega)) ?_
      refine Ev.bind (reverse_ev _ (by rw [up_length, List.length_set]; omega)) (Ev.is rfl)
  · refine Ev.bind e2 ?_
    rw [l1In_inB]
    refine Ev.bind0 rfl ?_
    cases ho : inB 1 100000 (oth l a i) with
    | false =>
      simp only [Bool.false_eq_true, if_false]
      exact Ev.is rfl
    | true =>
      simp only [if_true]
      refine Ev.bind0 (own_is l (by omega)) ?_
      simp only [c1, c2, if_true, Int.toNat_natCast]
      exact Ev.bind (huSort_ev _ (by rw [List.length_set]; omega)) (Ev.is rfl)
end Go.Proofs.Ytgpoljimomfbbaa.P

-- UdrawHu
namespace Go.Proofs.Ytgpoljimomfbbaa.P
set_option linter.unusedVariables false
set_option linter.unusedSimpArgs false
open Go.RowKit Go.Proofs.YtgpoljimomfbbaaW.PrintWords Go.Proofs.YtgpoljimomfbbaaW.PrintLast Go.Proofs.YtgpoljimomfbbaaW.PrintMore

theorem huSquares_any (l : List Int) (hn : l.length ≤ 1000000) (d : Nat) : ∀ (i : Nat) (s : Int), i + d = l.length → ∃ v, Ev (fun k => spec_huSquares.l0 k s l (l.length : Int) (i : Int)) v := by
  induction d with
  | zero =>
    intro i s hid
    exact ⟨s, Ev.step (f := fun _ => some s) (fun k => by simp only [spec_huSquares.l0]; rw [if_neg (by omega)]) (Ev.is rfl)⟩
  | succ d ih =>
    intro i s hid
    obtain ⟨v, hv⟩ := ih (i + 1) (wrap64 (s + wrap64 (rd l (i : Int) * rd l (i : Int)))) (by omega)
    refine ⟨v, Ev.step (fun k => ?_) hv⟩
    simp only [spec_huSquares.l0]
    rw [if_pos (by omega), if_pos (by omega), if_pos (by omega), w64_succ (n := l.length) (by omega) (by omega)]
theorem huProduct_any (l : List Int) (hn : l.length ≤ 1000000) (d : Nat) : ∀ (i : Nat) (s : Int), i + d = l.length → ∃ v, Ev (fun k => spec_huProduct.l0 k s l (l.length : Int) (i : Int)) v := by
  induction d with
  | zero =>
    intro i s hid
    exact ⟨s, Ev.step (f := fun _ => some s) (fun k => by simp only [spec_huProduct.l0]; rw [if_neg (by omega)]) (Ev.is rfl)⟩
  | succ d ih =>
    intro i s hid
    obtain ⟨v, hv⟩ := ih (i + 1) (min (wrap64 (s * rd l (i : Int))) 1000000000000) (by omega)
    refine ⟨v, Ev.step (fun k => ?_) hv⟩
    simp only [spec_huProduct.l0]
    rw [if_pos (by omega), if_pos (by omega), if_pos (by omega), least_is, w64_succ (n := l.length) (by omega) (by omega)]
    rfl
theorem huOther_any (l : List Int) (a i : Int) (h0 : 0 ≤ i) (h1 : i < l.length) (hn : l.length ≤ 1000) : ∃ v, Ev (fun k => spec_huOther.f k l a i) v := by
  unfold spec_huOther.f
  have w1 : wrap64 (i + 1) = i + 1 := w64 (by omega) (by omega)
  have c2 : i ≤ (l.length : Int) := by omega
  have c3 : (0 : Int) ≤ i + 1 := by omega
  have c4 : i + 1 ≤ (l.length : Int) := by omega
  have hlen : (l.take i.toNat).length + (l.drop (i + 1).toNat).length < 17592186044416 := by rw [List.length_take, List.length_drop]; omega
  have hl2 : (l.take i.toNat ++ l.drop (i + 1).toNat).length ≤ 1000000 := by rw [List.length_append, List.length_take, List.length_drop]; omega
  obtain ⟨v, hv⟩ := huProduct_any (l.take i.toNat ++ l.drop (i + 1).toNat) hl2 (l.take i.toNat ++ l.drop (i + 1).toNat).length 0 a (by omega)
  simp only [w1, h0, c2, c3, c4, h1, if_true]
  refine ⟨wrap64 (v - rd l i), Ev.bind0 (own_is _ (by rw [List.length_take]; omega)) ?_⟩
  simp only [hlen, if_true]
  exact Ev.bind (show Ev (fun k => spec_huProduct.f k _ a) v from hv) (Ev.is rfl)
theorem huJump_any (l : List Int) (a i : Int) (h0 : 0 ≤ i) (h1 : i < l.length) (hn : l.length ≤ 1000) : ∃ r : List Int × Bool, Ev (fun k => spec_huJump.f k l a i) r ∧ (r.2 = true → r.1.length = l.length) := by
  obtain ⟨v, hv⟩ := huOther_any l a i h0 h1 hn
  unfold spec_huJump.f
  simp only [l1In_inB]
  cases ho : inB 1 100000 v with
  | false =>
    refine ⟨([], false), Ev.bind hv ?_, by simp⟩
    simp only [ho, Option.bind_some, Bool.false_eq_true, if_false]
    exact Ev.is rfl
  | true =>
    refine ⟨(down (l.set i.toNat v), true), Ev.bind hv ?_, fun _ => by rw [down_length, List.length_set]⟩
    simp only [ho, Option.bind_some, if_true]
    refine Ev.bind0 (own_is l (by omega)) ?_
    simp only [h0, h1, if_true]
    exact Ev.bind (huSort_ev _ (by rw [List.length_set]; omega)) (Ev.is rfl)
theorem given_ok (code : List Int) (hc : Bytes code) (at_ seed : Int) (h0 : 0 ≤ at_) (h1 : at_ ≤ 900000000) : ∃ a b at' seed', spec_l1Cur_given.f code at_ seed = some (a, b, at', seed') ∧ at_ ≤ at' ∧ at' ≤ at_ + 8 := by
  unfold spec_l1Cur_given.f
  obtain ⟨v1, a1, s1, e1, _, _, _, _⟩ := pick_ok code hc at_ seed 4 h0 (by omega) (by decide)
  rw [e1]
  simp only [Option.bind_some]
  obtain ⟨v2, a2, s2, e2, _, _, _⟩ := among_ok code hc a1 s1 [0, 0, 0, 1, 2, (-1), 5, (-3)] (by omega) (by omega) (by decide) (by decide)
  rw [e2]
  simp only [Option.bind_some]
  obtain ⟨v3, a3, s3, e3, _, _, _, _⟩ := pick_ok code hc a2 s2 14 (by omega) (by omega) (by decide)
  rw [e3]
  simp only [Option.bind_some]
  by_cases c1 : v3 = 0
  · obtain ⟨v4, a4, s4, e4, _, _, _⟩ := among_ok code hc a3 s3 [(-1), 0, 20, 21] (by omega) (by omega) (by decide) (by decide)
    rw [if_pos c1, e4]
    exact ⟨_, _, a4, _, rfl, by omega, by omega⟩
  · by_cases c2 : v3 = 1
    · obtain ⟨v4, a4, s4, e4, _, _, _⟩ := among_ok code hc a3 s3 [(-51), (-50), 50, 51] (by omega) (by omega) (by decide) (by decide)
      rw [if_neg c1, if_pos c2, e4]
      exact ⟨_, _, a4, _, rfl, by omega, by omega⟩
    · rw [if_neg c1, if_neg c2]
      exact ⟨_, _, a3, _, rfl, by omega, by omega⟩
def Four (l : List Int) : Prop := 3 ≤ l.length ∧ l.length ≤ 4
theorem hurwitz_loop (code : List Int) (hc : Bytes code) (a b : Int) (d : Nat) : ∀ (l : List Int) (at_ seed : Int), Four l → d ≤ 100 → 0 ≤ at_ → at_ ≤ 1000 - 2 * (d : Int) →
    ∃ l' a' b' at' seed', Ev (fun k => spec_l1Cur_hurwitz.l0 k l a b (d : Int) code at_ seed) (l', a', b', at', seed') ∧ Four l' ∧ 0 ≤ at' ∧ at' ≤ 2000 := by
  induction d with
  | zero =>
    intro l at_ seed hl hd h0 h1
    obtain ⟨v1, a1, s1, e1, _, _, _, _⟩ := pick_ok code hc at_ seed 16 h0 (by omega) (by decide)
    by_cases c1 : v1 = 0
    · obtain ⟨v2, a2, s2, e2, p2, q2, _, _⟩ := pick_ok code hc a1 s1 (l.length : Int) (by omega) (by omega) (by have := hl.2; omega)
      have q3 := q2 (by have := hl.1; omega)
      obtain ⟨v3, a3, s3, e3, _, _, _⟩ := among_ok code hc a2 s2 [(-1), 0, 1, 100000, 100001] (by omega) (by omega) (by decide) (by decide)
      refine ⟨l.set v2.toNat v3, a, b, a3, s3, Ev.step (f := fun _ => some (l.set v2.toNat v3, a, b, a3, s3)) (fun k => ?_) (Ev.is rfl), by unfold Four; rw [List.length_set]; exact hl, by omega, by omega⟩
      simp only [spec_l1Cur_hurwitz.l0]
      rw [if_neg (by omega), e1]
      simp only [Option.bind_some]
      rw [if_pos c1, e2]
      simp only [Option.bind_some]
      rw [e3]
      simp only [Option.bind_some]
      rw [if_pos p2, if_pos q3]
    · by_cases c2 : v1 = 1
      · obtain ⟨a2, b2, a3, s3, e3, _, _⟩ := given_ok code hc a1 s1 (by omega) (by omega)
        refine ⟨l, a2, b2, a3, s3, Ev.step (f := fun _ => some (l, a2, b2, a3, s3)) (fun k => ?_) (Ev.is rfl), hl, by omega, by omega⟩
        simp only [spec_l1Cur_hurwitz.l0]
        rw [if_neg (by omega), e1]
        simp only [Option.bind_some]
        rw [if_neg c1, if_pos c2, e3]
        rfl
      · refine ⟨l, a, b, a1, s1, Ev.step (f := fun _ => some (l, a, b, a1, s1)) (fun k => ?_) (Ev.is rfl), hl, by omega, by omega⟩
        simp only [spec_l1Cur_hurwitz.l0]
        rw [if_neg (by omega), e1]
        simp only [Option.bind_some]
        rw [if_neg c1, if_neg c2]
  | succ d ih =>
    intro l at_ seed hl hd h0 h1
    obtain ⟨v1, a1, s1, e1, p1, q1, _, _⟩ := pick_ok code hc at_ seed (l.length : Int) h0 (by omega) (by have := hl.2; omega)
    obtain ⟨r, er, hr⟩ := huJump_any l a v1 p1 (q1 (by have := hl.1; omega)) (by have := hl.2; omega)
    have w1 : wrap64 (((d + 1 : Nat) : Int) - 1) = (d : Int) := by rw [w64 (by omega) (by omega)]; omega
    have hstay := ih l a1 s1 hl (by omega) (by omega) (by omega)
    have hstep : ∀ (l2 : List Int), (∀ k, (if r.2 = true then (if 0 < (r.1.length : Int) then (if (rd r.1 0) < 20000 then spec_l1Cur_hurwitz.l0 k r.1 a b (d : Int) code a1 s1 else spec_l1Cur_hurwitz.l0 k l a b (d : Int) code a1 s1) else none) else spec_l1Cur_hurwitz.l0 k l a b (d : Int) code a1 s1) = spec_l1Cur_hurwitz.l0 k l2 a b (d : Int) code a1 s1) → Four l2 →
        ∃ l' a' b' at' seed', Ev (fun k => spec_l1Cur_hurwitz.l0 k l a b ((d + 1 : Nat) : Int) code at_ seed) (l', a', b', at', seed') ∧ Four l' ∧ 0 ≤ at' ∧ at' ≤ 2000 := by
      intro l2 hk h2
      obtain ⟨l', a', b', at', seed', e, h3⟩ := ih l2 a1 s1 h2 (by omega) (by omega) (by omega)
      refine ⟨l', a', b', at', seed', Ev.step (f := fun k => (spec_huJump.f k l a v1).bind fun bt => (if bt.2 = true then (if 0 < (bt.1.length : Int) then (if (rd bt.1 0) < 20000 then spec_l1Cur_hurwitz.l0 k bt.1 a b (d : Int) code a1 s1 else spec_l1Cur_hurwitz.l0 k l a b (d : Int) code a1 s1) else none) else spec_l1Cur_hurwitz.l0 k l a b (d : Int) code a1 s1)) (fun k => ?_) (Ev.bind er (Ev.congr hk e)), h3⟩
      simp only [spec_l1Cur_hurwitz.l0]
      rw [if_pos (by omega), e1]
      simp only [Option.bind_some]
      rw [w1]
    cases h2 : r.2 with
    | false => exact hstep l (fun k => by rw [h2, if_neg (by simp)]) hl
    | true =>
      have hlen := hr h2
      have hpos : (0 : Int) < (r.1.length : Int) := by have := hl.1; omega
      by_cases h3 : rd r.1 0 < 20000
      · exact hstep r.1 (fun k => by rw [h2, if_pos rfl, if_pos hpos, if_pos h3]) (by unfold Four; rw [hlen]; exact hl)
      · exact hstep l (fun k => by rw [h2, if_pos rfl, if_pos hpos, if_neg h3]) hl
theorem hurwitz_j1 (code : List Int) (hc : Bytes code) (a b : Int) (l : List Int) (at_ seed : Int) (hl : Four l) (h0 : 0 ≤ at_) (h1 : at_ ≤ 500) : ∃ l' a' b' at' seed', Ev (fun k => spec_l1Cur_hurwitz.j1 k l a b code at_ seed) (l', a', b', at', seed') ∧ Four l' ∧ 0 ≤ at' ∧ at' ≤ 2000 := by
  obtain ⟨v1, a1, s1, e1, p1, q1, _, _⟩ := pick_ok code hc at_ seed 7 h0 (by omega) (by decide)
  have q2 := q1 (by decide)
  obtain ⟨n, rfl⟩ := Int.eq_ofNat_of_zero_le p1
  obtain ⟨l', a', b', at', seed', e, h3⟩ := hurwitz_loop code hc a b n l a1 s1 hl (by omega) (by omega) (by omega)
  refine ⟨l', a', b', at', seed', Ev.step (f := fun k => spec_l1Cur_hurwitz.l0 k l a b (n : Int) code a1 s1) (fun k => ?_) e, h3⟩
  simp only [spec_l1Cur_hurwitz.j1]
  rw [e1]
  rfl
theorem hurwitz_j0 (code : List Int) (hc : Bytes code) (l : List Int) (at_ seed : Int) (hl : Four l) (h0 : 0 ≤ at_) (h1 : at_ ≤ 400) : ∃ l' a' b' at' seed', Ev (fun k => spec_l1Cur_hurwitz.j0 k l code at_ seed) (l', a', b', at', seed') ∧ Four l' ∧ 0 ≤ at' ∧ at' ≤ 2000 := by
  have hl2 := hl.2
  have hd : Four (down l) := by unfold Four; rw [down_length]; exact hl
  obtain ⟨v1, a1, s1, e1, p1, q1, _, _⟩ := pick_ok code hc at_ seed 3 h0 (by omega) (by decide)
  obtain ⟨v2, h2⟩ := huSquares_any (down l) (by have := hd.2; omega) (down l).length 0 0 (by omega)
  obtain ⟨v3, h3⟩ := huProduct_any (down l) (by have := hd.2; omega) (down l).length 0 (wrap64 (1 + v1)) (by omega)
  obtain ⟨l', a', b', at', seed', e, h4⟩ := hurwitz_j1 code hc (wrap64 (1 + v1)) (wrap64 (v2 - v3)) (down l) a1 s1 hd (by omega) (by omega)
  refine ⟨l', a', b', at', seed', Ev.step (fun k => by simp only [spec_l1Cur_hurwitz.j0]; rfl) (Ev.bind (huSort_ev l (by omega)) (Ev.bind0 e1 (Ev.bind (show Ev (fun k => spec_huSquares.f k (down l)) v2 from h2) (Ev.bind (show Ev (fun k => spec_huProduct.f k (down l) (wrap64 (1 + v1))) v3 from h3) e)))), h4⟩
theorem hurwitz_ok (code : List Int) (hc : Bytes code) (at_ seed : Int) (h0 : 0 ≤ at_) (h1 : at_ ≤ 100) : ∃ l' a' b' at' seed', Ev (fun k => spec_l1Cur_hurwitz.f k code at_ seed) (l', a', b', at', seed') ∧ Four l' ∧ 0 ≤ at' ∧ at' ≤ 2000 := by
  unfold spec_l1Cur_hurwitz.f
  obtain ⟨v1, a1, s1, e1, _, _, _, _⟩ := pick_ok code hc at_ seed 4 h0 (by omega) (by decide)
  obtain ⟨v2, a2, s2, e2, _, _, _, _⟩ := pick_ok code hc a1 s1 3 (by omega) (by omega) (by decide)
  obtain ⟨v3, a3, s3, e3, _, _, _, _⟩ := pick_ok code hc a2 s2 2 (by omega) (by omega) (by decide)
  obtain ⟨v4, a4, s4, e4, _, _, _, _⟩ := pick_ok code hc a3 s3 6 (by omega) (by omega) (by decide)
  simp only [e1, e2, e3, e4, Option.bind_some]
  have f3 : ∀ x y z : Int, Four [x, y, z] := fun x y z => ⟨by simp, by simp⟩
  have f4 : ∀ x y z u : Int, Four [x, y, z, u] := fun x y z u => ⟨by simp, by simp⟩
  by_cases c0 : v4 = 0
  · simp only [c0, if_true]
    exact hurwitz_j1 code hc 3 0 [1, 1, 1] a4 s4 (f3 _ _ _) (by omega) (by omega)
  · by_cases c1 : v4 = 1
    · have c0' : ¬ (1 : Int) = 0 := by decide
      simp only [c1, c0', if_true, if_false]
      exact hurwitz_j1 code hc 4 0 [1, 1, 1, 1] a4 s4 (f4 _ _ _ _) (by omega) (by omega)
    · by_cases c2 : v4 = 2
      · have c0' : ¬ (2 : Int) = 0 := by decide
        have c1' : ¬ (2 : Int) = 1 := by decide
        simp only [c2, c0', c1', if_true, if_false]
        exact hurwitz_j1 code hc 1 0 [3, 3, 3] a4 s4 (f3 _ _ _) (by omega) (by omega)
      · by_cases c3 : v4 = 3
        · have c0' : ¬ (3 : Int) = 0 := by decide
          have c1' : ¬ (3 : Int) = 1 := by decide
          have c2' : ¬ (3 : Int) = 2 := by decide
          simp only [c3, c0', c1', c2', if_true, if_false]
          exact hurwitz_j1 code hc 1 0 [2, 2, 2, 2] a4 s4 (f4 _ _ _ _) (by omega) (by omega)
        · obtain ⟨v5, a5, s5, e5, _, _⟩ := one_ok code hc a4 s4 2 (by omega) (by omega) (by decide)
          simp only [c0, c1, c2, c3, if_false, e5, Option.bind_some]
          cases v5 with
          | false =>
            simp only [Bool.false_eq_true, if_false]
            exact hurwitz_j0 code hc _ a5 s5 (f3 _ _ _) (by omega) (by omega)
          | true =>
            have hlen : ([wrap64 (1 + v1), wrap64 (1 + v2), wrap64 (1 + v3)] : List Int).length < 17592186044416 := show 3 < 17592186044416 by decide
            simp only [if_true, hlen]
            exact hurwitz_j0 code hc _ a5 s5 (f4 _ _ _ _) (by omega) (by omega)
end Go.Proofs.Ytgpoljimomfbbaa.P

-- PFimplJumpAt
namespace Go.Proofs.Ytgpoljimomfbbaa.P
open Go.RowKit Go.Proofs.YtgpoljimomfbbaaW.PrintWords Go.Proofs.YtgpoljimomfbbaaW.PrintLast
set_option linter.unusedVariables false
set_option linter.unusedSimpArgs false

/-! ### impl_JumpAt: function 45 -/
end Go.Proofs.Ytgpoljimomfbbaa.P

-- UhuJumpAt
namespace Go.Proofs.Ytgpoljimomfbbaa.P
set_option linter.unusedVariables false
set_option linter.unusedSimpArgs false
open Go.RowKit Go.Proofs.YtgpoljimomfbbaaW.PrintWords Go.Proofs.YtgpoljimomfbbaaW.PrintLast Go.Proofs.YtgpoljimomfbbaaW.PrintMore
end Go.Proofs.Ytgpoljimomfbbaa.P

-- UhuBack
namespace Go.Proofs.Ytgpoljimomfbbaa.P
set_option linter.unusedVariables false
set_option linter.unusedSimpArgs false
open Go.RowKit Go.Proofs.YtgpoljimomfbbaaW.PrintWords Go.Proofs.YtgpoljimomfbbaaW.PrintLast Go.Proofs.YtgpoljimomfbbaaW.PrintMore

def sm : List Int → Int
  | [] => 0
  | x :: l => x + sm l
theorem vSum_upto (l : List Int) (hl : ∀ x ∈ l, 1 ≤ x ∧ x ≤ 100000) (hn : l.length ≤ 1000000) (d : Nat) : ∀ (i : Nat) (s : Int), i + d = l.length → 0 ≤ s → s + 100000 * (d : Int) ≤ 9000000000000000000 → Ev (fun k => laws_vSum.l0 k s l (l.length : Int) (i : Int)) (s + sm (l.drop i)) := by
  induction d with
  | zero =>
    intro i s hid h0 h1
    refine Ev.step (f := fun _ => some s) (fun k => by simp only [laws_vSum.l0]; rw [if_neg (by omega)]) ?_
    rw [List.drop_eq_nil_of_le (by omega), sm, Int.add_zero]
    exact Ev.is rfl
  | succ d ih =>
    intro i s hid h0 h1
    have hx := hl _ (rd_mem (l := l) (i := i) (by omega))
    have w2 : wrap64 (s + rd l (i : Int)) = s + rd l (i : Int) := w64 (by omega) (by omega)
    refine Ev.step (f := fun k => laws_vSum.l0 k (s + rd l (i : Int)) l (l.length : Int) ((i + 1 : Nat) : Int)) (fun k => ?_) ?_
    · simp only [laws_vSum.l0]
      rw [if_pos (by omega), if_pos (by omega), if_pos (by omega), w2, w64_succ (n := l.length) (by omega) (by omega)]
    · rw [rd_drop l i (by omega), sm, ← Int.add_assoc]
      exact ih (i + 1) _ (by omega) (by omega) (by omega)
theorem vSum_ev (l : List Int) (hl : ∀ x ∈ l, 1 ≤ x ∧ x ≤ 100000) (hn : l.length ≤ 1000000) : Ev (fun k => laws_vSum.f k l) (sm l) := by
  unfold laws_vSum.f
  have h := vSum_upto l hl hn l.length 0 0 (by omega) (by omega) (by omega)
  rw [List.drop_zero, Int.zero_add] at h
  exact h
theorem vSame_upto (l : List Int) (hn : l.length ≤ 1000000) (d : Nat) : ∀ (i : Nat), i + d = l.length → Ev (fun k => laws_vSame.l0 k l l (l.length : Int) (i : Int)) true := by
  induction d with
  | zero =>
    intro i hid
    exact Ev.step (f := fun _ => some true) (fun k => by simp only [laws_vSame.l0]; rw [if_neg (by omega)]) (Ev.is rfl)
  | succ d ih =>
    intro i hid
    refine Ev.step (f := fun k => laws_vSame.l0 k l l (l.length : Int) ((i + 1 : Nat) : Int)) (fun k => ?_) (ih (i + 1) (by omega))
    simp only [laws_vSame.l0]
    rw [if_pos (by omega), if_pos (by omega), if_pos (by omega), if_pos (by omega), if_pos trivial, w64_succ (n := l.length) (by omega) (by omega)]
theorem vSame_ev (l : List Int) (hn : l.length ≤ 1000000) : Ev (fun k => laws_vSame.f k l l) true := by
  unfold laws_vSame.f
  simp only [if_true]
  exact vSame_upto l hn l.length 0 (by omega)

end Go.Proofs.Ytgpoljimomfbbaa.P

-- UhuLaw
namespace Go.Proofs.Ytgpoljimomfbbaa.P
set_option linter.unusedVariables false
set_option linter.unusedSimpArgs false
open Go.RowKit Go.Proofs.YtgpoljimomfbbaaW.PrintWords Go.Proofs.YtgpoljimomfbbaaW.PrintLast Go.Proofs.YtgpoljimomfbbaaW.PrintMore
theorem vSolves_ev (l : List Int) (a b : Int) : Ev (fun k => laws_vSolves.f k l a b) (huSol l a b) := by
  unfold laws_vSolves.f impl_IsHurwitz.f huSol
  cases hg : huGv a b with
  | false =>
    refine Ev.bind (a := (false, false)) (Ev.bind0 (areGiven_is a b) ?_) (Ev.is rfl)
    rw [hg]
    simp only [Bool.false_eq_true, if_false]
    exact Ev.is rfl
  | true =>
    refine Ev.bind (a := (huIs l a b, true)) (Ev.bind0 (areGiven_is a b) ?_) (Ev.is ?_)
    · rw [hg]
      simp only [if_true]
      exact Ev.bind (isHurwitz_ev l a b hg) (Ev.is rfl)
    · simp
theorem vSameLists_from (W : List (List Int)) (hn : W.length ≤ 1000000000) (hs : ∀ x ∈ W, x.length ≤ 1000000) (d : Nat) : ∀ i : Nat, i + d = W.length → Ev (fun k => laws_vSameLists.l0 k W W (W.length : Int) (i : Int)) true := by
  induction d with
  | zero =>
    intro i hi
    exact Ev.step (f := fun _ => some true) (fun k => by simp only [laws_vSameLists.l0]; rw [if_neg (by omega)]) (Ev.is rfl)
  | succ d ih =>
    intro i hi
    have hil : i < W.length := by omega
    have hr : rd_L1 W (i : Int) = W[i] := by
      unfold rd_L1
      rw [Int.toNat_natCast, List.getD_eq_getElem?_getD, List.getElem?_eq_getElem hil]
      rfl
    have hv := vSame_ev W[i] (hs _ (List.getElem_mem hil))
    refine Ev.step (f := fun k => (laws_vSame.f k W[i] W[i]).bind fun t => if t = true then laws_vSameLists.l0 k W W (W.length : Int) ((i + 1 : Nat) : Int) else some false) (fun k => ?_) (Ev.bind hv ?_)
    · simp only [laws_vSameLists.l0]
      rw [if_pos (by omega), if_pos (by omega), if_pos (by omega), if_pos (by omega), hr, w64_succ (n := W.length) (by omega) (by omega)]
    · simp only [if_true]
      exact ih (i + 1) (by omega)
theorem vSameLists_ev (W : List (List Int)) (hn : W.length ≤ 1000000000) (hs : ∀ x ∈ W, x.length ≤ 1000000) : Ev (fun k => laws_vSameLists.f k W W) true := by
  unfold laws_vSameLists.f
  simp only [if_true]
  exact vSameLists_from W hn hs W.length 0 (by omega)
end Go.Proofs.Ytgpoljimomfbbaa.P
