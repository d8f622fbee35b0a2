/- Climbing goes jump by jump, and branches are the jumps that make the sum greater. No condition. -/
import Derived.Test.YtgpoljimomfbbaaPackFnClimbsOfHurwitz4
import Derived.Sort.Grow
import Derived.Test.YtgpoljimomfbbaaLib
-- Uscalar
namespace Go.Proofs.Ytgpoljimomfbbaa.P
set_option linter.unusedVariables false
set_option linter.unusedSimpArgs false
open Go.RowKit Go.Proofs.YtgpoljimomfbbaaW.PrintWords Go.Proofs.YtgpoljimomfbbaaW.PrintLast

theorem scalar_reps {α : Type} {enc : α → Value} {R : α → List Value → Prop} (hR : ∀ x c, R x c ↔ c = [enc x]) (xs : List α) (cs : List Value) : Reps R 1 xs cs ↔ cs = xs.map enc := by
  constructor
  · rintro ⟨h1, h2⟩
    apply List.ext_getElem
    · simp [h1]
    · intro i hi1 hi2
      have hx : i < xs.length := by simpa using hi2
      have h3 := (hR _ _).1 (h2 i xs[i] (List.getElem?_eq_getElem hx))
      rw [Nat.mul_one] at h3
      have h4 : (cs.drop i).take 1 = [cs[i]] := by rw [List.drop_eq_getElem_cons hi1]; rfl
      rw [h4] at h3
      simpa using h3
  · rintro rfl
    refine ⟨by simp, fun j p hp => (hR _ _).2 ?_⟩
    obtain ⟨hj, rfl⟩ := List.getElem?_eq_some_iff.1 hp
    rw [Nat.mul_one, List.drop_eq_getElem_cons (by simpa using hj)]
    simp
theorem scalar_R {α : Type} {enc : α → Value} {h1 : ∀ x, (enc x).oneCell' = true} {e : Nat} {w : World} {base : Nat} {ok : Nat → Prop} {v : Value} {xs : List α} :
    (Kd.scalar enc h1).R e w base ok v xs ↔ (∀ k, v.ownBlock = some k → ok k) ∧ w.ownsRow base e 1 v xs.length (xs.map enc) := by
  constructor
  · rintro ⟨h2, inner, h3, h4⟩
    exact ⟨h2, by rw [← (scalar_reps (enc := enc) (fun x c => Iff.rfl) xs inner).1 h4]; exact h3⟩
  · rintro ⟨h2, h3⟩
    exact ⟨h2, _, h3, (scalar_reps (enc := enc) (fun x c => Iff.rfl) xs _).2 rfl⟩
/-- A row of scalars, opened: nil, or the head of a block of the call's own. -/
theorem scalar_open {α : Type} {enc : α → Value} {h1 : ∀ x, (enc x).oneCell' = true} {e : Nat} {w : World} {base : Nat} {ok : Nat → Prop} {v : Value} {xs : List α} (h : (Kd.scalar enc h1).R e w base ok v xs) :
    (v = .slice none 0 0 ∧ xs = []) ∨ ∃ g cap cur, v = .slice (some ⟨g, 0, none⟩) xs.length cap ∧ ok g ∧ base ≤ g ∧ w.heap[g]? = some (.cells cur e (0, 0)) ∧ xs.length ≤ cap ∧ cap ≤ maxLen ∧ cur.size = cap ∧ cur.toList.take xs.length = xs.map enc := by
  obtain ⟨h2, h3, h4⟩ := scalar_R.1 h
  rcases h4 with ⟨rfl, h5⟩ | ⟨g, cap, cur, rfl, hg, hb, hc, hm, hs, ht⟩
  · exact .inl ⟨rfl, List.eq_nil_of_length_eq_zero h5⟩
  · exact .inr ⟨g, cap, cur, rfl, h2 g (by simp [Value.ownBlock]), hg, hb, hc, hm, by omega, by rw [← ht, Nat.mul_one]⟩
theorem scalar_close {α : Type} {enc : α → Value} {h1 : ∀ x, (enc x).oneCell' = true} {e : Nat} {w : World} {base : Nat} {ok : Nat → Prop} {g cap : Nat} {cur : Array Value} {xs : List α} (hok : ok g) (hg : base ≤ g) (hb : w.heap[g]? = some (.cells cur e (0, 0))) (hc : xs.length ≤ cap) (hm : cap ≤ maxLen) (hs : cur.size = cap) (ht : cur.toList.take xs.length = xs.map enc) :
    (Kd.scalar enc h1).R e w base ok (.slice (some ⟨g, 0, none⟩) xs.length cap) xs :=
  scalar_R.2 ⟨fun k hk => by simp [Value.ownBlock] at hk; exact hk ▸ hok, by simp, .inr ⟨g, cap, cur, rfl, hg, hb, hc, hm, by omega, by rw [Nat.mul_one]; exact ht⟩⟩
/-- The cells of an opened row. -/
theorem scalar_cell {α : Type} {enc : α → Value} {e : Nat} {w : World} {g : Nat} {cur : Array Value} {xs : List α} (hb : w.heap[g]? = some (.cells cur e (0, 0))) (ht : cur.toList.take xs.length = xs.map enc) (j : Nat) (hj : j < xs.length) : w.cell? ⟨g, j, none⟩ = some (enc xs[j]) := by
  have h1 : j < (cur.toList.take xs.length).length := by rw [ht]; simpa using hj
  have h2 : j < cur.size := by simp at h1; omega
  rw [cell_of_row w g j cur e _ hb]
  have h3 : (cur.toList.take xs.length)[j] = enc xs[j] := by simp [ht]
  rw [List.getElem_take] at h3
  rw [Array.getElem?_eq_getElem h2, ← h3]
  simp
theorem own_free {e : Nat} {w : World} {g : Nat} {cur : Array Value} (hb : w.heap[g]? = some (.cells cur e (0, 0))) (j : Nat) : w.frozen? ⟨g, j, none⟩ = false := by simp [World.frozen?, hb]
theorem scalar_holds {α : Type} [Inhabited α] {enc : α → Value} {e : Nat} {w : World} {g : Nat} {cur : Array Value} {xs : List α} (hb : w.heap[g]? = some (.cells cur e (0, 0))) (ht : cur.toList.take xs.length = xs.map enc) : Go.Sort.Holds enc w g 0 xs.toArray := by
  intro j hj
  have hj' : j < xs.length := by simpa using hj
  refine ⟨?_, own_free hb _⟩
  rw [Nat.zero_add, scalar_cell hb ht j hj']
  simp [hj']
/-- Behind the sort: the row holds ys, all else stays. -/
theorem scalar_sorted {α : Type} [Inhabited α] {enc : α → Value} {h1 : ∀ x, (enc x).oneCell' = true} {e : Nat} {w0 w : World} {ok : Nat → Prop} {g cap : Nat} {cur : Array Value} {xs ys : List α} (hB : Below w0.heap.size w0 w) (hok : ok g) (hg : w0.heap.size ≤ g) (hb : w.heap[g]? = some (.cells cur e (0, 0))) (hc : xs.length ≤ cap) (hm : cap ≤ maxLen) (hs : cur.size = cap) (hl : ys.length = xs.length) (n : Nat) (os : Array Obj) (w' : World) (hw : w' = Go.Sort.grow (Go.Sort.putRow enc (Go.Sort.ahead w n) g 0 ys.toArray) os) :
    (Kd.scalar enc h1).R e w' w0.heap.size (fun k_ => (ok k_ ∨ w.heap.size ≤ k_)) (.slice (some ⟨g, 0, none⟩) xs.length cap) ys ∧ Below w0.heap.size w0 w' ∧ Kept w w' (fun k_ => ok k_) := by
  have hlt : g < w.heap.size := by
    have := (Array.getElem?_eq_some_iff.1 hb).1
    exact this
  have hsz : (Go.Sort.putRow enc (Go.Sort.ahead w n) g 0 ys.toArray).heap.size = w.heap.size := by simp
  have hold : ∀ k, k < w.heap.size → w'.heap[k]? = (Go.Sort.putRow enc (Go.Sort.ahead w n) g 0 ys.toArray).heap[k]? := fun k hk => by
    rw [hw, Go.Sort.heap_grow_old _ _ (by rw [hsz]; exact hk)]
  have hne : ∀ k, k < w.heap.size → k ≠ g → w'.heap[k]? = w.heap[k]? := fun k hk hkg => by
    rw [hold k hk]
    simp only [Go.Sort.putRow, Go.Sort.mapBlock, Array.getElem?_modify]
    rw [if_neg (by omega)]
    rfl
  have hrow : w'.heap[g]? = some (.cells (Go.Sort.putCells enc 0 ys.toArray cur) e (0, 0)) := by
    rw [hold g hlt]
    simp only [Go.Sort.putRow, Go.Sort.mapBlock, Array.getElem?_modify]
    rw [if_pos trivial]
    show (w.heap[g]?).map _ = _
    rw [hb]
    rfl
  have hsize : w.heap.size ≤ w'.heap.size := by rw [hw, Go.Sort.size_grow, hsz]; omega
  refine ⟨?_, hB.trans ⟨?_, ?_, ?_, hsize, fun k hk => hne k (by have := hB.size; omega) (by omega)⟩, hsize, fun i hi hn => hne i hi (fun h => hn (h ▸ hok))⟩
  · rw [← hl]
    refine scalar_close (.inl hok) hg hrow (by omega) hm (by simp [Go.Sort.putCells, hs]) ?_
    apply List.ext_getElem
    · simp [Go.Sort.putCells, hs]; omega
    · intro i hi1 hi2
      have hi3 : i < ys.length := by simpa using hi2
      simp [Go.Sort.putCells, hi3]
  · rw [hw]; rfl
  · rw [hw]; rfl
  · rw [hw]; rfl
/-- A row cut. -/
theorem scalar_take {α : Type} {enc : α → Value} {h1 : ∀ x, (enc x).oneCell' = true} {e : Nat} {w : World} {base : Nat} {ok : Nat → Prop} {ad : Addr} {n cap : Nat} {xs : List α} (h : (Kd.scalar enc h1).R e w base ok (.slice (some ad) n cap) xs) (k : Nat) (hk : k ≤ xs.length) :
    (Kd.scalar enc h1).R e w base ok (.slice (some ad) k cap) (xs.take k) := by
  rcases scalar_open h with ⟨h2, _⟩ | ⟨g, cap', cur, hv, hok, hg, hb, hc, hm, hs, ht⟩
  · simp at h2
  · injection hv with e1 e2 e3
    injection e1 with e1
    subst e1 e3
    have hl : (xs.take k).length = k := by rw [List.length_take]; omega
    have h3 := scalar_close (h1 := h1) (ok := ok) (base := base) (xs := xs.take k) (cap := cap) hok hg hb (by omega) hm hs (by rw [hl, List.map_take, ← ht, List.take_take, Nat.min_eq_left hk])
    rw [hl] at h3
    exact h3
/-- Another name of the same cells. -/
theorem scalar_map {α β : Type} {enc : α → Value} {h1 : ∀ x, (enc x).oneCell' = true} {enc' : β → Value} {h1' : ∀ x, (enc' x).oneCell' = true} {e : Nat} {w : World} {base : Nat} {ok : Nat → Prop} {v : Value} {xs : List α} {ys : List β} (h : (Kd.scalar enc h1).R e w base ok v xs) (he : xs.map enc = ys.map enc') : (Kd.scalar enc' h1').R e w base ok v ys := by
  obtain ⟨h2, h3⟩ := scalar_R.1 h
  have hl : xs.length = ys.length := by simpa using congrArg List.length he
  exact scalar_R.2 ⟨h2, by rw [← hl, ← he]; exact h3⟩
end Go.Proofs.Ytgpoljimomfbbaa.P

-- GcloneInts
namespace Go.Proofs.Ytgpoljimomfbbaa.P
open Go.RowKit Go.Proofs.YtgpoljimomfbbaaW.PrintWords Go.Proofs.YtgpoljimomfbbaaW.PrintLast
set_option linter.unusedVariables false
set_option linter.unusedSimpArgs false

def slices_Clone_int_int.f (l0 : List Int) : Option (List Int) := if l0.length < 17592186044416 then some l0 else none
theorem slices_Clone_int_int.calls (A0 : Option Addr) (c0 : Nat) (l0 : List Int) (r : List Int) (w : World) (hr0 : Kd.C (Kd.int .i64) w A0 l0.length l0) (hc0 : l0.length ≤ c0) (h : slices_Clone_int_int.f l0 = some r) :
  Calls Try.prog 58 #[.slice A0 l0.length c0] w fun e w' => ∃ v0_ : Value, e = .returned (v0_) ∧ Kd.R (Kd.int .i64) 3 w' w.heap.size (fun _ => True) v0_ r ∧ Below w.heap.size w w' := by
  have hr : l0 = r ∧ l0.length < 17592186044416 := by
    unfold slices_Clone_int_int.f at h
    split at h
    · exact ⟨by simpa using h, by assumption⟩
    · simp at h
  obtain ⟨rfl, hlen⟩ := hr
  cases A0 with
  | none =>
    have h0 : l0 = [] := by
      rcases Nat.eq_zero_or_pos l0.length with h1 | h1
      · exact List.eq_nil_of_length_eq_zero h1
      · obtain ⟨ad, h2, _⟩ := hr0.2.2 h1
        simp at h2
    subst h0
    refine (Go.Proofs.Try.slices_Clone_int_nil 0 c0 w).mono ?_
    rintro e w' ⟨rfl, rfl⟩
    exact ⟨_, rfl, Kd.R_nil _ _ _ _ _, Below.refl _ _⟩
  | some a =>
    by_cases h0 : l0.length = 0
    · have h1 : l0 = [] := List.eq_nil_of_length_eq_zero h0
      subst h1
      refine (Go.Proofs.Try.slices_Clone_int_zero a c0 w).mono ?_
      rintro e w' ⟨v', rfl, hown, _, hb⟩
      exact ⟨v', rfl, scalar_R.2 ⟨fun _ _ => trivial, hown⟩, hb⟩
    · obtain ⟨ad, he, hc⟩ := hr0.2.2 (by omega)
      injection he with he
      subst he
      have hcell : ∀ j, j < l0.length → w.cell? (a.add j) = some (.int .i64 (l0.getD j 0)) := fun j hj => by
        obtain ⟨c, hcl, hp, hcell⟩ := hc j l0[j] (List.getElem?_eq_getElem hj)
        have hc1 : c = [Value.int .i64 l0[j]] := hp
        subst hc1
        have h2 := hcell 0 _ rfl
        rw [Nat.add_zero, show j * (Kd.int .i64).sz = j from Nat.mul_one j] at h2
        rw [h2]
        simp [List.getD_eq_getElem?_getD, hj]
      obtain ⟨b, off, spot⟩ := a
      have hspot : spot = none := by
        have h2 := hcell 0 (by omega)
        cases spot with
        | none => rfl
        | some k =>
          simp only [Addr.add, if_true, World.cell?] at h2
          split at h2 <;> simp at h2
      subst hspot
      refine (Go.Proofs.Try.slices_Clone_int b off l0.length c0 l0 w (Nat.le_refl _) (by omega) (fun j hj => ?_)).mono ?_
      · rw [← hcell j hj]
        congr 1
        by_cases h1 : j = 0
        · subst h1
          simp [Addr.add]
        · simp [Addr.add, h1]
      · rintro e w' ⟨v', rfl, hown, _, hb⟩
        exact ⟨v', rfl, scalar_R.2 ⟨fun _ _ => trivial, by rw [List.take_length] at hown; exact hown⟩, hb⟩
end Go.Proofs.Ytgpoljimomfbbaa.P

-- GsortInts
namespace Go.Proofs.Ytgpoljimomfbbaa.P
open Go.RowKit Go.Proofs.YtgpoljimomfbbaaW.PrintWords Go.Proofs.YtgpoljimomfbbaaW.PrintLast
set_option linter.unusedVariables false
set_option linter.unusedSimpArgs false

def slices_Sort_int_int.f (l0 : List Int) : Option (List Int) := if l0.length < 4611686018427387904 then some (l0.mergeSort fun x y => decide (x ≤ y)) else none
theorem slices_Sort_int_int.calls (P0_ : Nat → Prop) (u9000_ : Value) (l0 : List Int) (r : List Int) (w0 w : World) (hB : Below w0.heap.size w0 w) (ho0 : Kd.R (Kd.int .i64) 3 w w0.heap.size P0_ u9000_ l0) (h : slices_Sort_int_int.f l0 = some r) :
  Calls Try.prog 101 #[u9000_] w fun e w' => e = .returned (.tuple #[]) ∧ Kd.R (Kd.int .i64) 3 w' w0.heap.size (fun k_ => (P0_ k_ ∨ w.heap.size ≤ k_)) u9000_ r ∧ Below w0.heap.size w0 w' ∧ Kept w w' (fun k_ => P0_ k_) := by
  have hr : l0.mergeSort (fun x y => decide (x ≤ y)) = r ∧ l0.length < 4611686018427387904 := by
    unfold slices_Sort_int_int.f at h
    split at h
    · exact ⟨by simpa using h, by assumption⟩
    · simp at h
  obtain ⟨rfl, hz⟩ := hr
  rcases scalar_open ho0 with ⟨rfl, rfl⟩ | ⟨g, cap, cur, rfl, hok, hg, hb, hc, hm, hs, ht⟩
  · refine (Go.Proofs.Try.slices_Sort_int_none none 0 w).mono ?_
    rintro e w' ⟨rfl, rfl⟩
    refine ⟨rfl, ?_, hB, Kept.refl _ _⟩
    rw [show (([] : List Int).mergeSort fun x y => decide (x ≤ y)) = [] by simp]
    exact Kd.R_nil _ _ _ _ _
  · have hlt : g < w.heap.size := (Array.getElem?_eq_some_iff.1 hb).1
    refine (Go.Proofs.Try.slices_Sort_int g 0 cap l0 w (scalar_holds hb ht) hlt hz).mono ?_
    rintro e w' ⟨rfl, n, os, hw⟩
    exact ⟨rfl, scalar_sorted hB hok hg hb hc hm hs (List.length_mergeSort _) n os w' hw⟩
end Go.Proofs.Ytgpoljimomfbbaa.P

-- PFimpljump
namespace Go.Proofs.Ytgpoljimomfbbaa.P
open Go.RowKit Go.Proofs.YtgpoljimomfbbaaW.PrintWords Go.Proofs.YtgpoljimomfbbaaW.PrintLast
set_option linter.unusedVariables false
set_option linter.unusedSimpArgs false

/-! ### impl_jump: function 76 -/
def impl_jump.f (k : Nat) (l0 : List Int) (a1 : Int) (a2 : Int) : Option (List Int × Bool) := (impl_otherRoot.f k l0 a1 a2).bind fun t271 => ((impl_within.f t271 1 100000).bind fun t272 => (if t272 = true then ((slices_Clone_int_int.f l0).bind fun t273 => (if 0 ≤ a2 then (if a2 < (t273.length : Int) then ((slices_Sort_int_int.f (t273.set (a2 : Int).toNat t271)).bind fun t277 => ((slices_Reverse_int_int.f k t277).bind fun t278 => (some (t278, true)))) else (none)) else (none))) else (some (([] : List Int), false))))
theorem impl_jump.mono : ∀ a0 a1 a2 k, LeO (impl_jump.f k a0 a1 a2) (impl_jump.f (k + 1) a0 a1 a2) := by
 intro a0 a1 a2 k
 unfold impl_jump.f
 repeat' first
   | (with_reducible exact impl_otherRoot.mono _ _ _ _)
   | (with_reducible exact slices_Reverse_int_int.mono _ _)
   | (with_reducible exact LeO.refl _)
   | (with_reducible exact LeO.none _)
   | (with_reducible refine LeO.ite ?_ ?_)
   | (with_reducible refine LeO.bind ?_ (fun _ => ?_))
   | exact impl_otherRoot.mono _ _ _ _
   | exact slices_Reverse_int_int.mono _ _
   | exact LeO.none _
   | refine LeO.ite ?_ ?_
   | refine LeO.bind ?_ (fun _ => ?_)
set_option maxHeartbeats 8000000 in
set_option maxRecDepth 100000 in
theorem impl_jump.calls (k : Nat) (A0 : Option Addr) (c0 : Nat) (l0 : List Int) (a1 : Int) (a2 : Int) (r1 : List Int) (r2 : Bool) (w : World) (hr0 : Kd.C (Kd.int .i64) w A0 l0.length l0) (hc0 : l0.length ≤ c0) (h : impl_jump.f k l0 a1 a2 = some (r1, r2)) :
  Calls Try.prog 76 #[.slice A0 l0.length c0, .int .i64 a1, .int .i64 a2] w fun e w' => ∃ v0_ : Value, e = .returned (.tuple #[v0_, .bool r2]) ∧ Kd.R (Kd.int .i64) 3 w' w.heap.size (fun _ => True) v0_ r1 ∧ Below w.heap.size w w' := by
 have HR0 := Aside0.mk hr0
 have HC0 := Aside0.mk hc0
 clear hr0 hc0
 have HB := Aside0.mk (Below.refl w.heap.size w)
 have H : ((impl_otherRoot.f k l0 a1 a2).bind fun t271 => ((impl_within.f t271 1 100000).bind fun t272 => (if t272 = true then ((slices_Clone_int_int.f l0).bind fun t273 => (if 0 ≤ a2 then (if a2 < (t273.length : Int) then ((slices_Sort_int_int.f (t273.set (a2 : Int).toNat t271)).bind fun t277 => ((slices_Reverse_int_int.f k t277).bind fun t278 => (some (t278, true)))) else (none)) else (none))) else (some (([] : List Int), false))))) = some (r1, r2) := h
 clear h
 replace H := Option.bind_eq_some_iff.mp H
 obtain ⟨t271, A40, H⟩ := H
 replace H : ((impl_within.f t271 1 100000).bind fun t272 => (if t272 = true then ((slices_Clone_int_int.f l0).bind fun t273 => (if 0 ≤ a2 then (if a2 < (t273.length : Int) then ((slices_Sort_int_int.f (t273.set (a2 : Int).toNat t271)).bind fun t277 => ((slices_Reverse_int_int.f k t277).bind fun t278 => (some (t278, true)))) else (none)) else (none))) else (some (([] : List Int), false)))) = some (r1, r2) := H
 have A4 := Aside0.mk A40
 clear A40
 replace H := Option.bind_eq_some_iff.mp H
 obtain ⟨t272, A50, H⟩ := H
 replace H : (if t272 = true then ((slices_Clone_int_int.f l0).bind fun t273 => (if 0 ≤ a2 then (if a2 < (t273.length : Int) then ((slices_Sort_int_int.f (t273.set (a2 : Int).toNat t271)).bind fun t277 => ((slices_Reverse_int_int.f k t277).bind fun t278 => (some (t278, true)))) else (none)) else (none))) else (some (([] : List Int), false))) = some (r1, r2) := H
 have A5 := Aside0.mk A50
 clear A50
 by_cases c6 : t272 = true
 ·subst c6
  have H1 : ((slices_Clone_int_int.f l0).bind fun t273 => (if 0 ≤ a2 then (if a2 < (t273.length : Int) then ((slices_Sort_int_int.f (t273.set (a2 : Int).toNat t271)).bind fun t277 => ((slices_Reverse_int_int.f k t277).bind fun t278 => (some (t278, true)))) else (none)) else (none))) = some (r1, r2) := by rw [if_pos rfl] at H; exact H
  clear H
  have H := H1
  clear H1
  replace H := Option.bind_eq_some_iff.mp H
  obtain ⟨t273, A70, H⟩ := H
  replace H : (if 0 ≤ a2 then (if a2 < (t273.length : Int) then ((slices_Sort_int_int.f (t273.set (a2 : Int).toNat t271)).bind fun t277 => ((slices_Reverse_int_int.f k t277).bind fun t278 => (some (t278, true)))) else (none)) else (none)) = some (r1, r2) := H
  have A7 := Aside0.mk A70
  clear A70
  by_cases c8 : 0 ≤ a2
  ·rw [if_pos c8] at H
   have c8b0 : decide (0 ≤ a2) = true := decide_eq_true c8
   clear c8
   by_cases c9 : a2 < (t273.length : Int)
   ·rw [if_pos c9] at H
    have c9b0 : decide (a2 < (t273.length : Int)) = true := decide_eq_true c9
    clear c9
    obtain ⟨y276, hy276⟩ : ∃ y_ : List Int, y_ = (t273.set (a2 : Int).toNat t271) := ⟨_, rfl⟩
    replace H : ((slices_Sort_int_int.f y276).bind fun t277 => ((slices_Reverse_int_int.f k t277).bind fun t278 => (some (t278, true)))) = some (r1, r2) := by first | (rw [hy276]; with_reducible exact H) | (have H2_ := (Option.bind_some _ _).symm.trans H; rw [hy276]; with_reducible exact H2_) | (have H2_ := (Option.bind_some _ _).symm.trans H; with_reducible exact H2_) | with_reducible exact H | (rw [hy276]; exact H) | exact H
    have Ny276 := Aside0.mk hy276
    clear hy276
    replace H := Option.bind_eq_some_iff.mp H
    obtain ⟨t277, A110, H⟩ := H
    replace H : ((slices_Reverse_int_int.f k t277).bind fun t278 => (some (t278, true))) = some (r1, r2) := H
    have A11 := Aside0.mk A110
    clear A110
    replace H := Option.bind_eq_some_iff.mp H
    obtain ⟨t278, A120, H⟩ := H
    replace H : (some (t278, true)) = some (r1, r2) := H
    have A12 := Aside0.mk A120
    clear A120
    simp only [Option.some.injEq, Prod.mk.injEq] at H
    obtain ⟨rfl, rfl⟩ := H
    go_enter Try.func76, Try.ntmps76
    go_wp2_with (first | ((with_reducible refine gate_callee (f := 100) rfl ?_); refine goesL_ (some 13) rfl rfl Try.func100 (by kernel_rfl) rfl #[.slice A0 l0.length c0, .int .i64 a1, .int .i64 a2] rfl (by (try simp only [List.map_toArray, List.map_cons, List.map_nil]); first | done | rfl | (simp only [List.length_drop, List.length_take]; rfl)) ?_; (with_reducible refine (impl_otherRoot.calls k _ _ l0 a1 a2 t271 _ ?side1 ?side2 A4.out).mono ?_); (case side1 => repeat (first | exact HR0.out | (with_reducible refine Kd.C_alloc ?_ _) | (with_reducible refine Kd.C_drewN ?_ _) | (with_reducible refine Kd.C_drew ?_))); (case side2 => exact HC0.out); rintro e w' ⟨rfl, ⟨nd, rfl⟩⟩; refine ⟨_, rfl, ?_⟩) | ((with_reducible refine gate_callee (f := 57) rfl ?_); refine goesL_ (some 15) rfl rfl Try.func57 (by kernel_rfl) rfl #[.int .i64 t271, .int .i64 1, .int .i64 100000] rfl (by (try simp only [List.map_toArray, List.map_cons, List.map_nil]); first | done | rfl | (simp only [List.length_drop, List.length_take]; rfl)) ?_; (with_reducible refine (impl_within.calls t271 1 100000 true _ A5.out).mono ?_); rintro e w' ⟨rfl, ⟨nd, rfl⟩⟩; refine ⟨_, rfl, ?_⟩) | ((with_reducible refine gate_callee (f := 58) rfl ?_); refine goesL_ (some 18) rfl rfl Try.func58 (by kernel_rfl) rfl #[.slice A0 l0.length c0] rfl (by (try simp only [List.map_toArray, List.map_cons, List.map_nil]); first | done | rfl | (simp only [List.length_drop, List.length_take]; rfl)) ?_; (with_reducible refine (slices_Clone_int_int.calls _ _ l0 t273 _ ?side1 ?side2 A7.out).mono ?_); (case side1 => repeat (first | exact HR0.out | (with_reducible refine Kd.C_alloc ?_ _) | (with_reducible refine Kd.C_drewN ?_ _) | (with_reducible refine Kd.C_drew ?_))); (case side2 => exact HC0.out); rintro e w13 ⟨v274, rfl, ho0, hb⟩; refine ⟨_, rfl, ?_⟩; have n0_ := Aside0.mk (Kd.R_lower ho0 (below_size (by repeat (first | (with_reducible first | exact HB.out | apply below_alloc | apply pw_below_drewN | apply below_drew1) | exact HB.out)))); have n1_ := Aside0.mk (below_step (by repeat (first | (with_reducible first | exact HB.out | apply below_alloc | apply pw_below_drewN | apply below_drew1) | exact HB.out)) hb); clear HB; have HO275 := n0_; have HB := n1_; clear n0_ n1_; (try clear hb); (try clear hb2); (try clear hk); (try clear hi); (try clear ho0); have p10 : 0 ≤ (a2 : Int) := of_decide_eq_true (by first | (with_reducible assumption) | assumption); have q10 : (a2 : Int) < ((t273.length : Int) : Int) := of_decide_eq_true (by first | (with_reducible assumption) | assumption); obtain ⟨go10, co10, eo10, gb10, gl10, cl10, HG10⟩ := Kd.R_form HO275.out (by omega); (first | cases eo10 | (injection eo10 with ea_ en_ ec_; (first | subst ea_ | (injection ea_ with ea_; subst ea_)); subst ec_; clear en_)); have GB10 := Aside0.mk gb10; have GG10 := Aside0.mk HG10; clear gb10 gl10 HG10; obtain ⟨hx10_0, hf10_0⟩ := Kd.R_celln 0 HO275.out (a2 : Int) p10 q10; replace p10 := eq_true p10; replace q10 := eq_true q10; obtain ⟨hy14_, hz14_⟩ := Kd.R_celln 0 HO275.out (a2 : Int) (of_decide_eq_true (by first | (with_reducible assumption) | assumption)) (of_decide_eq_true (by first | (with_reducible assumption) | assumption)); have HP14 := Kd.R_putg HO275.out (a2 : Int) t271) | ((with_reducible refine gate_store (t := 3) (p := 22) rfl ?_); refine store_event (t := 3) (p := 22) (v := ?vo_w15) (w1 := (w13.setCell ⟨go10, (a2 : Int).toNat, none⟩ (.int .i64 t271))) ?hg ?ho ?hn ?hr ?_; (case ho => rfl); (case hg => rfl); (case hn => rfl); (case hr => first | (go_simp; done) | (go_simp; rfl)); intro w15 hw; have hg : w13.grownBy w15 (some go10) := (by rw [hw]; exact HP14.2); have hp_ : Kd.R (Kd.int .i64) 3 w15 w.heap.size (fun _ => True) (.slice (some ⟨go10, 0, none⟩) t273.length co10) y276 := (by rw [hw, Ny276.out]; exact HP14.1); clear HP14; have n0_ := Aside0.mk (hp_); have n1_ := Aside0.mk ((by rw [hw]; exact below_set (HB.out) GB10.out : Below w.heap.size w w15)); clear HO275; clear HB; have HO275 := n0_; have HB := n1_; clear n0_ n1_; clear hg hw hp_) | ((with_reducible refine gate_callee (f := 101) rfl ?_); refine goesL_ (some 24) rfl rfl Try.func101 (by kernel_rfl) rfl #[.slice (some ⟨go10, 0, none⟩) t273.length co10] rfl (by (try simp only [List.map_toArray, List.map_cons, List.map_nil]); first | done | rfl | (simp only [List.length_drop, List.length_take]; rfl)) ?_; (with_reducible refine (slices_Sort_int_int.calls (fun k_ => some k_ = (.slice (some ⟨go10, 0, none⟩) t273.length co10 : Value).ownBlock) (.slice (some ⟨go10, 0, none⟩) t273.length co10) y276 t277 w _ ?side1 ?side2 A11.out).mono ?_); (case side1 => repeat (first | (with_reducible first | exact HB.out | apply below_alloc | apply pw_below_drewN | apply below_drew1) | exact HB.out)); (case side2 => exact Kd.R_tight rfl HO275.out); rintro e w16 ⟨rfl, hy0, hb, hkp⟩; refine ⟨_, rfl, ?_⟩; have n0_ := Aside0.mk (Kd.R_reok rfl hy0 (fun k_ e_ => HO275.out.1 k_ e_)); have n1_ := Aside0.mk (hb); clear HO275; clear HB; have HO275 := n0_; have HB := n1_; clear n0_ n1_; (try clear hb); (try clear hkp); (try clear hy0)) | ((with_reducible refine gate_callee (f := 102) rfl ?_); refine goesL_ (some 26) rfl rfl Try.func102 (by kernel_rfl) rfl #[.slice (some ⟨go10, 0, none⟩) t273.length co10] rfl (by (try simp only [List.map_toArray, List.map_cons, List.map_nil]); first | done | rfl | (simp only [List.length_drop, List.length_take]; rfl)) ?_; (with_reducible refine (slices_Reverse_int_int.calls k (fun k_ => some k_ = (.slice (some ⟨go10, 0, none⟩) t273.length co10 : Value).ownBlock) (.slice (some ⟨go10, 0, none⟩) t273.length co10) t277 t278 w _ ?side1 ?side2 A12.out).mono ?_); (case side1 => repeat (first | (with_reducible first | exact HB.out | apply below_alloc | apply pw_below_drewN | apply below_drew1) | exact HB.out)); (case side2 => exact Kd.R_tight rfl HO275.out); rintro e w17 ⟨rfl, hy0, hb, hkp⟩; refine ⟨_, rfl, ?_⟩; have n0_ := Aside0.mk (Kd.R_reok rfl hy0 (fun k_ e_ => HO275.out.1 k_ e_)); have n1_ := Aside0.mk (hb); clear HO275; clear HB; have HO275 := n0_; have HB := n1_; clear n0_ n1_; (try clear hb); (try clear hkp); (try clear hy0)))
    go_ret2
    exact ⟨_, by first | rfl | (simp [errW_none, errW_some] <;> rfl) | (simp [*, errW_none, errW_some] <;> rfl), by (with_reducible repeat (first | apply Kd.R_alloc | apply Kd.R_drewN | apply Kd.R_drew)); exact HO275.out, by repeat (first | (with_reducible first | exact HB.out | apply below_alloc | apply pw_below_drewN | apply below_drew1) | exact HB.out)⟩
   ·rw [if_neg c9] at H
    exact absurd H (by simp)
  ·rw [if_neg c8] at H
   exact absurd H (by simp)
 ·replace c6 := Bool.eq_false_iff.mpr c6
  subst c6
  have H1 : (some (([] : List Int), false)) = some (r1, r2) := by rw [if_neg (show ¬ (false = true) by decide)] at H; exact H
  clear H
  have H := H1
  clear H1
  simp only [Option.some.injEq, Prod.mk.injEq] at H
  obtain ⟨rfl, rfl⟩ := H
  go_enter Try.func76, Try.ntmps76
  go_wp2_with (first | ((with_reducible refine gate_callee (f := 100) rfl ?_); refine goesL_ (some 13) rfl rfl Try.func100 (by kernel_rfl) rfl #[.slice A0 l0.length c0, .int .i64 a1, .int .i64 a2] rfl (by (try simp only [List.map_toArray, List.map_cons, List.map_nil]); first | done | rfl | (simp only [List.length_drop, List.length_take]; rfl)) ?_; (with_reducible refine (impl_otherRoot.calls k _ _ l0 a1 a2 t271 _ ?side1 ?side2 A4.out).mono ?_); (case side1 => repeat (first | exact HR0.out | (with_reducible refine Kd.C_alloc ?_ _) | (with_reducible refine Kd.C_drewN ?_ _) | (with_reducible refine Kd.C_drew ?_))); (case side2 => exact HC0.out); rintro e w' ⟨rfl, ⟨nd, rfl⟩⟩; refine ⟨_, rfl, ?_⟩) | ((with_reducible refine gate_callee (f := 57) rfl ?_); refine goesL_ (some 15) rfl rfl Try.func57 (by kernel_rfl) rfl #[.int .i64 t271, .int .i64 1, .int .i64 100000] rfl (by (try simp only [List.map_toArray, List.map_cons, List.map_nil]); first | done | rfl | (simp only [List.length_drop, List.length_take]; rfl)) ?_; (with_reducible refine (impl_within.calls t271 1 100000 false _ A5.out).mono ?_); rintro e w' ⟨rfl, ⟨nd, rfl⟩⟩; refine ⟨_, rfl, ?_⟩))
  go_ret2
  exact ⟨_, by first | rfl | (simp [errW_none, errW_some] <;> rfl) | (simp [*, errW_none, errW_some] <;> rfl), by first | exact Kd.R_nil _ _ _ _ _ | exact Kd.N_nil _ _ _ _ _ | exact Kd.V_nil _ _ _ _ _ | exact Kd.Q_nil _ _ _ _ _ | exact Kd.S_nil _ _ _ _ _, by repeat (first | (with_reducible first | exact HB.out | apply below_alloc | apply pw_below_drewN | apply below_drew1) | exact HB.out)⟩

end Go.Proofs.Ytgpoljimomfbbaa.P

-- GhuDown
namespace Go.Proofs.Ytgpoljimomfbbaa.P
open Go.RowKit Go.Proofs.YtgpoljimomfbbaaW.PrintWords Go.Proofs.YtgpoljimomfbbaaW.PrintLast
set_option linter.unusedVariables false
set_option linter.unusedSimpArgs false

def spec_huDown.l0 : Nat → List Int → Int → List (List Int) → Option (List (List Int))
  | 0, _, _, _ => none
  | k + 1, x, a, o => (spec_huLast.f k x a).bind fun t => if t = true then some o else ((spec_huJump.f k x a 0).bind fun bt => if o.length < 1000000000 then spec_huDown.l0 k bt.1 a (o ++ [bt.1]) else none)
def spec_huDown.f (k : Nat) (l0 : List Int) (a1 : Int) : Option (List (List Int)) := (spec_l1Own.f l0).bind fun t => spec_huDown.l0 k t a1 [t]
theorem spec_huDown.mono_l : ∀ k, (∀ y0 y1 y2, LeO (spec_huDown.l0 k y0 y1 y2) (spec_huDown.l0 (k + 1) y0 y1 y2))
  | 0 => fun _ _ _ r h => by simp [spec_huDown.l0] at h
  | k + 1 => by
    have ih0 := spec_huDown.mono_l k
    intro y0 y1 y2
    unfold spec_huDown.l0
    repeat' first
      | (with_reducible exact ih0 _ _ _)
      | (with_reducible exact spec_huLast.mono _ _ _)
      | (with_reducible exact spec_huJump.mono _ _ _ _)
      | (with_reducible exact LeO.refl _)
      | (with_reducible exact LeO.none _)
      | (with_reducible refine LeO.ite ?_ ?_)
      | (with_reducible refine LeO.bind ?_ (fun _ => ?_))
theorem spec_huDown.mono : ∀ a0 a1 k, LeO (spec_huDown.f k a0 a1) (spec_huDown.f (k + 1) a0 a1) := by
  intro a0 a1 k
  unfold spec_huDown.f
  exact LeO.bind (LeO.refl _) (fun _ => spec_huDown.mono_l k _ _ _)

set_option maxHeartbeats 4000000 in
set_option maxRecDepth 100000 in
theorem spec_huDown.calls (k : Nat) (A0 : Option Addr) (c0 : Nat) (l0 : List Int) (a1 : Int) (r : List (List Int)) (w : World) (hr0 : Kd.C (Kd.int .i64) w A0 l0.length l0) (hc0 : l0.length ≤ c0) (h : spec_huDown.f k l0 a1 = some r) :
    Calls Try.prog 77 #[.slice A0 l0.length c0, .int .i64 a1] w fun e w' => ∃ v0_ : Value, e = .returned (v0_) ∧ Kd.S (Kd.slice 3 (Kd.int .i64)) 22 w' w.heap.size (fun _ => True) v0_ r ∧ Below w.heap.size w w' := by
  obtain ⟨t, A4, H⟩ := Option.bind_eq_some_iff.mp h
  clear h
  have HR0 := Aside0.mk hr0
  have HC0 := Aside0.mk hc0
  have HA4 := Aside0.mk A4
  have H' := Aside0.mk H
  have HB := Aside0.mk (Below.refl w.heap.size w)
  clear hr0 hc0 A4 H
  go_enter Try.func77, Try.ntmps77
  go_wp2_with (first
    | (go_at_call 55; refine (spec_l1Own.calls _ _ l0 t _ (by repeat (first | exact HR0.out | (with_reducible refine Kd.C_alloc ?_ _) | (with_reducible refine Kd.C_drewN ?_ _) | (with_reducible refine Kd.C_drew ?_))) HC0.out HA4.out).mono ?_; rintro e w1 ⟨v1, rfl, ho0, hb⟩; have n1_ := Aside0.mk (below_step HB.out hb); have n2_ := Aside0.mk (Kd.R_lower ho0 (below_size HB.out)); clear HB; have HB := n1_; have HO5 := n2_; clear n1_ n2_ ho0 hb; obtain ⟨Ao1, co1, eo1⟩ := Kd.R_slice HO5.out; subst eo1)
    | ((with_reducible refine gate_dst (N := 10) rfl ?_); refine Kd.S_lits (Kd.slice 3 (Kd.int .i64)) (w0 := w) w.heap.size 22 ?hg (N := 10) ?hd (xs := [t]) (inner := [.slice Ao1 t.length co1]) (ok := fun _ => True) (fun j k_ => j = 0 ∧ some k_ = (Value.slice Ao1 t.length co1).ownBlock) ?hr rfl ?hp ?ha (fun _ _ _ => trivial) trivial ?hB ?hs (by simp) ?_; (case hd => rfl); (case hg => rfl); (case hr => first | (go_simp; done) | (go_simp; rfl)); (case hp => intro j x hj; match j, hj with | 0, hj => (obtain rfl : t = x := by simpa using hj); exact ⟨_, rfl, Kd.R_mono (Kd.R_tight rfl HO5.out) (fun k_ hk => ⟨rfl, hk⟩)⟩); (case ha => rintro i j k_ ⟨rfl, _⟩ ⟨rfl, _⟩; rfl); (case hB => exact HB.out); (case hs => exact below_size HB.out); intro v2 w2 ho hb hg hat; have n1_ := Aside0.mk (Kd.R_over' HO5.out (v := .slice none 0 0) (e' := 22) (by intro k_ hk; simp [Value.ownBlock] at hk) (by decide) hg); have n2_ := Aside0.mk ho; have n3_ := Aside0.mk hb; clear HB HO5; have HO5 := n1_; have HO6 := n2_; have HB := n3_; clear n1_ n2_ n3_ ho hb hg hat))
  go_loopg [5, 6] k (fun kq v5 v6 w' => ∃ (x : List Int) (o : List (List Int)), Aside0 (spec_huDown.l0 kq x a1 o = some r) ∧ Aside0 (kq ≤ k) ∧ Aside0 (Kd.R (Kd.int .i64) 3 w' w.heap.size (fun _ => True) v5 x) ∧ Aside0 (Kd.S (Kd.slice 3 (Kd.int .i64)) 22 w' w.heap.size (fun _ => True) v6 o) ∧ Aside0 (Below w.heap.size w w'))
  case atStart => exact ⟨t, [t], H', ⟨Nat.le_refl _⟩, ⟨HO5.out⟩, ⟨HO6.out⟩, ⟨HB.out⟩⟩
  case round =>
    clear H' HO5 HO6 HB HA4
    obtain ⟨x, o, HA, HK1, HO5, HO6, HB⟩ := hrel
    cases gk with
    | zero => exact absurd HA.out (by simp [spec_huDown.l0])
    | succ k1 =>
      have H := HA.out
      clear HA
      simp only [spec_huDown.l0] at H
      obtain ⟨t1, A12, H⟩ := Option.bind_eq_some_iff.mp H
      have HA12 := Aside0.mk A12
      clear A12
      obtain ⟨Ax, cx, ex⟩ := Kd.R_slice HO5.out
      subst ex
      by_cases c13 : t1 = true
      · subst c13
        obtain rfl : o = r := by simpa using H
        clear H
        go_wp2_with (first
          | (go_at_call 72; refine (spec_huLast.calls k1 _ _ x a1 true _ (by repeat (first | exact (Kd.R_reads' HO5.out).2.2 | (with_reducible refine Kd.C_alloc ?_ _) | (with_reducible refine Kd.C_drewN ?_ _) | (with_reducible refine Kd.C_drew ?_))) (Kd.R_reads' HO5.out).2.1 HA12.out).mono ?_; rintro e w3 ⟨rfl, hb⟩; have n1_ := Aside0.mk (Kd.S_below HO6.out hb); have n2_ := Aside0.mk (below_step HB.out hb); clear HO6 HB; have HO6 := n1_; have HB := n2_; clear n1_ n2_ hb))
        go_ret
        exact ⟨_, rfl, HO6.out, HB.out⟩
      · replace c13 := Bool.eq_false_iff.mpr c13
        subst c13
        rw [if_neg (show ¬ (false = true) by decide)] at H
        obtain ⟨⟨t2, t3⟩, A15, H⟩ := Option.bind_eq_some_iff.mp H
        have HA15 := Aside0.mk A15
        clear A15
        by_cases c17 : o.length < 1000000000
        · replace H : spec_huDown.l0 k1 t2 a1 (o ++ [t2]) = some r := by
            have H2 : (if o.length < 1000000000 then spec_huDown.l0 k1 t2 a1 (o ++ [t2]) else none) = some r := H
            rw [if_pos c17] at H2
            exact H2
          have H' := Aside0.mk H
          have LM := Aside0.mk c17
          clear H c17
          go_wp2_with (first
            | (go_at_call 72; refine (spec_huLast.calls k1 _ _ x a1 false _ (by repeat (first | exact (Kd.R_reads' HO5.out).2.2 | (with_reducible refine Kd.C_alloc ?_ _) | (with_reducible refine Kd.C_drewN ?_ _) | (with_reducible refine Kd.C_drew ?_))) (Kd.R_reads' HO5.out).2.1 HA12.out).mono ?_; rintro e w3 ⟨rfl, hb⟩; have n0_ := Aside0.mk (Kd.R_below HO5.out hb); have n1_ := Aside0.mk (Kd.S_below HO6.out hb); have n2_ := Aside0.mk (below_step HB.out hb); clear HO5 HO6 HB; have HO5 := n0_; have HO6 := n1_; have HB := n2_; clear n0_ n1_ n2_ hb)
            | (go_at_call 78; refine (spec_huJump.calls k1 _ _ x a1 0 t2 t3 _ (by repeat (first | exact (Kd.R_reads' HO5.out).2.2 | (with_reducible refine Kd.C_alloc ?_ _) | (with_reducible refine Kd.C_drewN ?_ _) | (with_reducible refine Kd.C_drew ?_))) (Kd.R_reads' HO5.out).2.1 HA15.out).mono ?_; rintro e w4 ⟨v4, rfl, ho0, hb⟩; have n1_ := Aside0.mk (Kd.S_elder' (by (with_reducible repeat (first | apply Kd.S_alloc | apply Kd.S_drewN | apply Kd.S_drew)); exact HO6.out) (Kd.R_base ho0) hb); have n2_ := Aside0.mk (below_step (by repeat (first | (with_reducible first | exact HB.out | apply below_alloc | apply pw_below_drewN | apply below_drew1) | exact HB.out)) hb); have n0_ := Aside0.mk (Kd.R_lower ho0 (below_size (by repeat (first | (with_reducible first | exact HB.out | apply below_alloc | apply pw_below_drewN | apply below_drew1) | exact HB.out)))); clear HO5 HO6 HB; have HO5 := n0_; have HO6 := n1_; have HB := n2_; clear n0_ n1_ n2_ hb ho0; obtain ⟨Ao4, co4, eo4⟩ := Kd.R_slice HO5.out; subst eo4)
            | ((with_reducible refine gate_builtin (b := .append) (xs := #[.tmp 21, .tmp 23]) rfl ?_); at_builtin; refine Kd.S_append (Kd.slice 3 (Kd.int .i64)) (w0 := w) w.heap.size rfl (.tmp 21) (.tmp 23) 23 22 (.slice none 0 0) 24 rfl Try.underlying23 info22 rfl (by decide) (by omega) u6 o t2 [.slice Ao4 t2.length co4] (fun _ => True) (fun k_ => some k_ = (Value.slice Ao4 t2.length co4).ownBlock) rfl rfl ?aP ?aK (fun _ _ => trivial) ?aO ?aB ?aS ?aL ?_; (case aP => exact ⟨_, rfl, Kd.R_tight rfl HO5.out⟩); (case aK => exact fun k_ hk => ⟨trivial, ((Kd.R_apart' HO5.out (Kd.S_typed HO6.out) (by decide)).1 k_ hk.symm).2⟩); (case aO => exact Kd.S_mono HO6.out (fun k_ hk => ⟨trivial, hk.2⟩)); (case aB => exact HB.out); (case aS => exact below_size HB.out); (case aL => have := LM.out; omega); intro v7 w7 ho hb hg hat; have n0_ := Aside0.mk (Kd.R_over' HO5.out (Kd.S_typed HO6.out) (by decide) hg); clear HO5 HO6 HB; have HO5 := n0_; have HO6 := Aside0.mk ho; have HB := Aside0.mk hb; clear n0_ ho hb hg hat))
          go_roundg k1
          case measure => have := HK1.out; omega
          case rel => exact ⟨t2, o ++ [t2], H', ⟨by have := HK1.out; omega⟩, ⟨HO5.out⟩, ⟨HO6.out⟩, ⟨HB.out⟩⟩
        · exact absurd H (by simp [c17])

def impl_WayDown.l0 : Nat → List Int → Int → List (List Int) → Option ((List (List Int)) × Bool)
  | 0, _, _, _ => none
  | k + 1, x, a, o => (impl_isFundamental.f k x a).bind fun t => if t = true then some (o, true) else ((impl_jump.f k x a 0).bind fun bt => ((slices_Clone_int_int.f bt.1).bind fun t2 => if o.length < 1000000000 then impl_WayDown.l0 k bt.1 a (o ++ [t2]) else none))
def impl_WayDown.f (k : Nat) (l0 : List Int) (a1 : Int) (a2 : Int) : Option ((List (List Int)) × Bool) := (impl_isSolution.f k l0 a1 a2).bind fun t => if t = true then ((slices_Clone_int_int.f l0).bind fun t2 => impl_WayDown.l0 k l0 a1 [t2]) else some ([], false)
theorem impl_WayDown.mono_l : ∀ k, (∀ y0 y1 y2, LeO (impl_WayDown.l0 k y0 y1 y2) (impl_WayDown.l0 (k + 1) y0 y1 y2))
  | 0 => fun _ _ _ r h => by simp [impl_WayDown.l0] at h
  | k + 1 => by
    have ih0 := impl_WayDown.mono_l k
    intro y0 y1 y2
    unfold impl_WayDown.l0
    repeat' first
      | (with_reducible exact ih0 _ _ _)
      | (with_reducible exact impl_isFundamental.mono _ _ _)
      | (with_reducible exact impl_jump.mono _ _ _ _)
      | (with_reducible exact LeO.refl _)
      | (with_reducible exact LeO.none _)
      | (with_reducible refine LeO.ite ?_ ?_)
      | (with_reducible refine LeO.bind ?_ (fun _ => ?_))
theorem impl_WayDown.mono : ∀ a0 a1 a2 k, LeO (impl_WayDown.f k a0 a1 a2) (impl_WayDown.f (k + 1) a0 a1 a2) := by
  intro a0 a1 a2 k
  unfold impl_WayDown.f
  exact LeO.bind (impl_isSolution.mono _ _ _ _) (fun _ => LeO.ite (LeO.bind (LeO.refl _) (fun _ => impl_WayDown.mono_l k _ _ _)) (LeO.refl _))

/-- A list that came in, or one of the call's own. -/
def InOrOwn (w : World) (A0 : Option Addr) (c0 : Nat) (l0 : List Int) (w' : World) (v : Value) (x : List Int) : Prop := (v = .slice A0 l0.length c0 ∧ x = l0) ∨ Kd.R (Kd.int .i64) 3 w' w.heap.size (fun _ => True) v x
theorem InOrOwn.reads {w w' : World} {A0 : Option Addr} {c0 : Nat} {l0 x : List Int} {v : Value} (h : InOrOwn w A0 c0 l0 w' v x) (hr0 : Kd.C (Kd.int .i64) w A0 l0.length l0) (hc0 : l0.length ≤ c0) (hb : Below w.heap.size w w') : ∃ A c, v = .slice A x.length c ∧ x.length ≤ c ∧ Kd.C (Kd.int .i64) w' A x.length x := by
  rcases h with ⟨rfl, rfl⟩ | h
  · exact ⟨_, _, rfl, hc0, Kd.C_below hr0 hb⟩
  · exact Kd.R_reads h

set_option maxHeartbeats 4000000 in
set_option maxRecDepth 100000 in
theorem impl_WayDown.calls (k : Nat) (A0 : Option Addr) (c0 : Nat) (l0 : List Int) (a1 : Int) (a2 : Int) (r1 : List (List Int)) (r2 : Bool) (w : World) (hr0 : Kd.C (Kd.int .i64) w A0 l0.length l0) (hc0 : l0.length ≤ c0) (h : impl_WayDown.f k l0 a1 a2 = some (r1, r2)) :
    Calls Try.prog 34 #[.slice A0 l0.length c0, .int .i64 a1, .int .i64 a2] w fun e w' => ∃ v0_ : Value, e = .returned (.tuple #[v0_, .bool r2]) ∧ Kd.S (Kd.slice 3 (Kd.int .i64)) 22 w' w.heap.size (fun _ => True) v0_ r1 ∧ Below w.heap.size w w' := by
  obtain ⟨t0, A3, H⟩ := Option.bind_eq_some_iff.mp h
  clear h
  have HR0 := Aside0.mk hr0
  have HC0 := Aside0.mk hc0
  have HA3 := Aside0.mk A3
  have HB := Aside0.mk (Below.refl w.heap.size w)
  clear hr0 hc0 A3
  by_cases c5 : t0 = true
  · subst c5
    rw [if_pos rfl] at H
    obtain ⟨t, A4, H⟩ := Option.bind_eq_some_iff.mp H
    have HA4 := Aside0.mk A4
    have H' := Aside0.mk H
    clear A4 H
    go_enter Try.func34, Try.ntmps34
    go_wp2_with (first
      | (go_at_call 50; refine (impl_isSolution.calls k _ _ l0 a1 a2 true _ (by repeat (first | exact HR0.out | (with_reducible refine Kd.C_alloc ?_ _) | (with_reducible refine Kd.C_drewN ?_ _) | (with_reducible refine Kd.C_drew ?_))) HC0.out HA3.out).mono ?_; rintro e w0 ⟨rfl, hb⟩; have n1_ := Aside0.mk (below_step HB.out hb); clear HB; have HB := n1_; clear n1_ hb)
      | (go_at_call 58; refine (slices_Clone_int_int.calls _ _ l0 t _ (by repeat (first | exact (Kd.C_below HR0.out HB.out) | (with_reducible refine Kd.C_alloc ?_ _) | (with_reducible refine Kd.C_drewN ?_ _) | (with_reducible refine Kd.C_drew ?_))) HC0.out HA4.out).mono ?_; rintro e w1 ⟨v1, rfl, ho0, hb⟩; have n1_ := Aside0.mk (below_step HB.out hb); have n2_ := Aside0.mk (Kd.R_lower ho0 (below_size HB.out)); clear HB; have HB := n1_; have HO5 := n2_; clear n1_ n2_ ho0 hb; obtain ⟨Ao1, co1, eo1⟩ := Kd.R_slice HO5.out; subst eo1)
      | ((with_reducible refine gate_dst (N := 16) rfl ?_); refine Kd.S_lits (Kd.slice 3 (Kd.int .i64)) (w0 := w) w.heap.size 22 ?hg (N := 16) ?hd (xs := [t]) (inner := [.slice Ao1 t.length co1]) (ok := fun _ => True) (fun j k_ => j = 0 ∧ some k_ = (Value.slice Ao1 t.length co1).ownBlock) ?hr rfl ?hp ?ha (fun _ _ _ => trivial) trivial ?hB ?hs (by simp) ?_; (case hd => rfl); (case hg => rfl); (case hr => first | (go_simp; done) | (go_simp; rfl)); (case hp => intro j x hj; match j, hj with | 0, hj => (obtain rfl : t = x := by simpa using hj); exact ⟨_, rfl, Kd.R_mono (Kd.R_tight rfl HO5.out) (fun k_ hk => ⟨rfl, hk⟩)⟩); (case ha => rintro i j k_ ⟨rfl, _⟩ ⟨rfl, _⟩; rfl); (case hB => exact HB.out); (case hs => exact below_size HB.out); intro v2 w2 ho hb hg hat; have n2_ := Aside0.mk ho; have n3_ := Aside0.mk hb; clear HB HO5; have HO6 := n2_; have HB := n3_; clear n2_ n3_ ho hb hg hat))
    go_loopg [0, 8] k (fun kq v0 v8 w' => ∃ (x : List Int) (o : List (List Int)), Aside0 (impl_WayDown.l0 kq x a1 o = some (r1, r2)) ∧ Aside0 (kq ≤ k) ∧ Aside0 (InOrOwn w A0 c0 l0 w' v0 x) ∧ Aside0 (Kd.S (Kd.slice 3 (Kd.int .i64)) 22 w' w.heap.size (fun _ => True) v8 o) ∧ Aside0 (Below w.heap.size w w'))
    case atStart => exact ⟨l0, [t], H', ⟨Nat.le_refl _⟩, ⟨.inl ⟨rfl, rfl⟩⟩, ⟨HO6.out⟩, ⟨HB.out⟩⟩
    case round =>
      clear H' HO6 HB HA4 HA3
      obtain ⟨x, o, HA, HK1, HV, HO6, HB⟩ := hrel
      cases gk with
      | zero => exact absurd HA.out (by simp [impl_WayDown.l0])
      | succ k1 =>
        have H := HA.out
        clear HA
        simp only [impl_WayDown.l0] at H
        obtain ⟨t1, A12, H⟩ := Option.bind_eq_some_iff.mp H
        have HA12 := Aside0.mk A12
        clear A12
        obtain ⟨Ax, cx, ex, hcx, hrx⟩ := InOrOwn.reads HV.out HR0.out HC0.out HB.out
        subst ex
        have HCX := Aside0.mk hcx
        have HRX := Aside0.mk hrx
        clear hcx hrx HV
        by_cases c13 : t1 = true
        · subst c13
          obtain ⟨rfl, rfl⟩ : o = r1 ∧ true = r2 := by simpa using H
          clear H
          go_wp2_with (first
            | (go_at_call 71; refine (impl_isFundamental.calls k1 _ _ x a1 true _ (by repeat (first | exact HRX.out | (with_reducible refine Kd.C_alloc ?_ _) | (with_reducible refine Kd.C_drewN ?_ _) | (with_reducible refine Kd.C_drew ?_))) HCX.out HA12.out).mono ?_; rintro e w' ⟨rfl, ⟨nd, rfl⟩⟩))
          go_ret2
          exact ⟨_, rfl, by (with_reducible repeat (first | apply Kd.S_alloc | apply Kd.S_drewN | apply Kd.S_drew)); exact HO6.out, by repeat (first | (with_reducible first | exact HB.out | apply below_alloc | apply pw_below_drewN | apply below_drew1) | exact HB.out)⟩
        · replace c13 := Bool.eq_false_iff.mpr c13
          subst c13
          rw [if_neg (show ¬ (false = true) by decide)] at H
          obtain ⟨⟨t2, t3⟩, A15, H⟩ := Option.bind_eq_some_iff.mp H
          obtain ⟨t4, A16, H⟩ := Option.bind_eq_some_iff.mp H
          have HA15 := Aside0.mk A15
          have HA16 := Aside0.mk A16
          clear A15 A16
          by_cases c17 : o.length < 1000000000
          · replace H : impl_WayDown.l0 k1 t2 a1 (o ++ [t4]) = some (r1, r2) := by
              have H2 : (if o.length < 1000000000 then impl_WayDown.l0 k1 t2 a1 (o ++ [t4]) else none) = some (r1, r2) := H
              rw [if_pos c17] at H2
              exact H2
            have H' := Aside0.mk H
            have LM := Aside0.mk c17
            clear H c17
            go_wp2_with (first
              | (go_at_call 71; refine (impl_isFundamental.calls k1 _ _ x a1 false _ (by repeat (first | exact HRX.out | (with_reducible refine Kd.C_alloc ?_ _) | (with_reducible refine Kd.C_drewN ?_ _) | (with_reducible refine Kd.C_drew ?_))) HCX.out HA12.out).mono ?_; rintro e w' ⟨rfl, ⟨nd, rfl⟩⟩)
              | (go_at_call 76; refine (impl_jump.calls k1 _ _ x a1 0 t2 t3 _ (by repeat (first | exact HRX.out | (with_reducible refine Kd.C_alloc ?_ _) | (with_reducible refine Kd.C_drewN ?_ _) | (with_reducible refine Kd.C_drew ?_))) HCX.out HA15.out).mono ?_; rintro e w4 ⟨v4, rfl, ho0, hb⟩; have n1_ := Aside0.mk (Kd.S_below (by (with_reducible repeat (first | apply Kd.S_alloc | apply Kd.S_drewN | apply Kd.S_drew)); exact HO6.out) hb); have n2_ := Aside0.mk (below_step (by repeat (first | (with_reducible first | exact HB.out | apply below_alloc | apply pw_below_drewN | apply below_drew1) | exact HB.out)) hb); have n0_ := Aside0.mk (Kd.R_lower ho0 (below_size (by repeat (first | (with_reducible first | exact HB.out | apply below_alloc | apply pw_below_drewN | apply below_drew1) | exact HB.out)))); clear HRX HCX HO6 HB; have HO5 := n0_; have HO6 := n1_; have HB := n2_; clear n0_ n1_ n2_ hb ho0; obtain ⟨Ao4, co4, eo4⟩ := Kd.R_slice HO5.out; subst eo4)
              | (go_at_call 58; refine (slices_Clone_int_int.calls _ _ t2 t4 _ (by repeat (first | exact (Kd.R_reads' HO5.out).2.2 | (with_reducible refine Kd.C_alloc ?_ _) | (with_reducible refine Kd.C_drewN ?_ _) | (with_reducible refine Kd.C_drew ?_))) (Kd.R_reads' HO5.out).2.1 HA16.out).mono ?_; rintro e w5 ⟨v5, rfl, ho0, hb⟩; have n0_ := Aside0.mk (Kd.R_below (by (with_reducible repeat (first | apply Kd.R_alloc | apply Kd.R_drewN | apply Kd.R_drew)); exact HO5.out) hb); have n1_ := Aside0.mk (Kd.S_elder' (by (with_reducible repeat (first | apply Kd.S_alloc | apply Kd.S_drewN | apply Kd.S_drew)); exact HO6.out) (Kd.R_base ho0) hb); have n2_ := Aside0.mk (below_step (by repeat (first | (with_reducible first | exact HB.out | apply below_alloc | apply pw_below_drewN | apply below_drew1) | exact HB.out)) hb); have n3_ := Aside0.mk (Kd.R_lower ho0 (below_size (by repeat (first | (with_reducible first | exact HB.out | apply below_alloc | apply pw_below_drewN | apply below_drew1) | exact HB.out)))); clear HO5 HO6 HB; have HO5 := n0_; have HO6 := n1_; have HB := n2_; have HO7 := n3_; clear n0_ n1_ n2_ n3_ hb ho0; obtain ⟨Ao5, co5, eo5⟩ := Kd.R_slice HO7.out; subst eo5)
              | ((with_reducible refine gate_builtin (b := .append) (xs := #[.tmp 27, .tmp 30]) rfl ?_); at_builtin; refine Kd.S_append (Kd.slice 3 (Kd.int .i64)) (w0 := w) w.heap.size rfl (.tmp 27) (.tmp 30) 23 22 (.slice none 0 0) 24 rfl Try.underlying23 info22 rfl (by decide) (by omega) u8 o t4 [.slice Ao5 t4.length co5] (fun _ => True) (fun k_ => some k_ = (Value.slice Ao5 t4.length co5).ownBlock) rfl rfl ?aP ?aK (fun _ _ => trivial) ?aO ?aB ?aS ?aL ?_; (case aP => exact ⟨_, rfl, Kd.R_tight rfl HO7.out⟩); (case aK => exact fun k_ hk => ⟨trivial, ((Kd.R_apart' HO7.out (Kd.S_typed HO6.out) (by decide)).1 k_ hk.symm).2⟩); (case aO => exact Kd.S_mono HO6.out (fun k_ hk => ⟨trivial, hk.2⟩)); (case aB => exact HB.out); (case aS => exact below_size HB.out); (case aL => have := LM.out; omega); intro v7 w7 ho hb hg hat; have n0_ := Aside0.mk (Kd.R_over' HO5.out (Kd.S_typed HO6.out) (by decide) hg); clear HO5 HO6 HO7 HB; have HO5 := n0_; have HO6 := Aside0.mk ho; have HB := Aside0.mk hb; clear n0_ ho hb hg hat))
            go_roundg k1
            case measure => have := HK1.out; omega
            case rel => exact ⟨t2, o ++ [t4], H', ⟨by have := HK1.out; omega⟩, ⟨.inr HO5.out⟩, ⟨HO6.out⟩, ⟨HB.out⟩⟩
          · exact absurd H (by simp [c17])
  · replace c5 := Bool.eq_false_iff.mpr c5
    subst c5
    rw [if_neg (show ¬ (false = true) by decide)] at H
    obtain ⟨rfl, rfl⟩ : ([] : List (List Int)) = r1 ∧ false = r2 := by simpa using H
    go_enter Try.func34, Try.ntmps34
    go_wp2_with (first
      | (go_at_call 50; refine (impl_isSolution.calls k _ _ l0 a1 a2 false _ (by repeat (first | exact HR0.out | (with_reducible refine Kd.C_alloc ?_ _) | (with_reducible refine Kd.C_drewN ?_ _) | (with_reducible refine Kd.C_drew ?_))) HC0.out HA3.out).mono ?_; rintro e w0 ⟨rfl, hb⟩; have n1_ := Aside0.mk (below_step HB.out hb); clear HB; have HB := n1_; clear n1_ hb))
    go_ret2
    exact ⟨_, rfl, Kd.S_nil _ _ _ _ _, HB.out⟩
end Go.Proofs.Ytgpoljimomfbbaa.P

-- PFimplFundamentalOf
namespace Go.Proofs.Ytgpoljimomfbbaa.P
open Go.RowKit Go.Proofs.YtgpoljimomfbbaaW.PrintWords Go.Proofs.YtgpoljimomfbbaaW.PrintLast
set_option linter.unusedVariables false
set_option linter.unusedSimpArgs false

/-! ### impl_FundamentalOf: function 30 -/
def impl_FundamentalOf.f (k : Nat) (l0 : List Int) (a1 : Int) (a2 : Int) : Option (List Int × Bool) := (impl_WayDown.f k l0 a1 a2).bind fun bt462 => (if bt462.2 = true then (if 0 ≤ (wrap64 ((bt462.1.length : Int) - 1)) then (if (wrap64 ((bt462.1.length : Int) - 1)) < (bt462.1.length : Int) then (some (rd_L1 bt462.1 (wrap64 ((bt462.1.length : Int) - 1)), true)) else (none)) else (none)) else (some (([] : List Int), false)))
theorem impl_FundamentalOf.mono : ∀ a0 a1 a2 k, LeO (impl_FundamentalOf.f k a0 a1 a2) (impl_FundamentalOf.f (k + 1) a0 a1 a2) := by
 intro a0 a1 a2 k
 unfold impl_FundamentalOf.f
 repeat' first
   | (with_reducible exact impl_WayDown.mono _ _ _ _)
   | (with_reducible exact LeO.refl _)
   | (with_reducible exact LeO.none _)
   | (with_reducible refine LeO.ite ?_ ?_)
   | (with_reducible refine LeO.bind ?_ (fun _ => ?_))
   | exact impl_WayDown.mono _ _ _ _
   | exact LeO.none _
   | refine LeO.ite ?_ ?_
   | refine LeO.bind ?_ (fun _ => ?_)
set_option maxHeartbeats 8000000 in
set_option maxRecDepth 100000 in
theorem impl_FundamentalOf.calls (k : Nat) (A0 : Option Addr) (c0 : Nat) (l0 : List Int) (a1 : Int) (a2 : Int) (r1 : List Int) (r2 : Bool) (w : World) (hr0 : Kd.C (Kd.int .i64) w A0 l0.length l0) (hc0 : l0.length ≤ c0) (h : impl_FundamentalOf.f k l0 a1 a2 = some (r1, r2)) :
  Calls Try.prog 30 #[.slice A0 l0.length c0, .int .i64 a1, .int .i64 a2] w fun e w' => ∃ v0_ : Value, e = .returned (.tuple #[v0_, .bool r2]) ∧ Kd.R (Kd.int .i64) 3 w' w.heap.size (fun _ => True) v0_ r1 ∧ Below w.heap.size w w' := by
 have HR0 := Aside0.mk hr0
 have HC0 := Aside0.mk hc0
 clear hr0 hc0
 have HB := Aside0.mk (Below.refl w.heap.size w)
 have H : ((impl_WayDown.f k l0 a1 a2).bind fun bt462 => (if bt462.2 = true then (if 0 ≤ (wrap64 ((bt462.1.length : Int) - 1)) then (if (wrap64 ((bt462.1.length : Int) - 1)) < (bt462.1.length : Int) then (some (rd_L1 bt462.1 (wrap64 ((bt462.1.length : Int) - 1)), true)) else (none)) else (none)) else (some (([] : List Int), false)))) = some (r1, r2) := h
 clear h
 replace H := Option.bind_eq_some_iff.mp H
 obtain ⟨⟨t462, t463⟩, A40, H⟩ := H
 replace H : (if t463 = true then (if 0 ≤ (wrap64 ((t462.length : Int) - 1)) then (if (wrap64 ((t462.length : Int) - 1)) < (t462.length : Int) then (some (rd_L1 t462 (wrap64 ((t462.length : Int) - 1)), true)) else (none)) else (none)) else (some (([] : List Int), false))) = some (r1, r2) := H
 have A4 := Aside0.mk A40
 clear A40
 by_cases c5 : t463 = true
 ·subst c5
  have H1 : (if 0 ≤ (wrap64 ((t462.length : Int) - 1)) then (if (wrap64 ((t462.length : Int) - 1)) < (t462.length : Int) then (some (rd_L1 t462 (wrap64 ((t462.length : Int) - 1)), true)) else (none)) else (none)) = some (r1, r2) := by rw [if_pos rfl] at H; exact H
  clear H
  have H := H1
  clear H1
  obtain ⟨ji6, hji6⟩ : ∃ j_ : Int, (wrap64 ((t462.length : Int) - 1)) = j_ := ⟨_, rfl⟩
  replace H : (if 0 ≤ (ji6) then (if (ji6) < (t462.length : Int) then (some (rd_L1 t462 (ji6), true)) else (none)) else (none)) = some (r1, r2) := by first | (rw [hji6] at H; exact H) | (simp only [hji6] at H ⊢; exact H)
  (try rw [hji6] at A4)
  have hji6w : (IntKind.i64.wrap ((t462.length : Int) - 1)) = ji6 := (i64_w _).trans hji6
  by_cases c7 : 0 ≤ (ji6)
  ·rw [if_pos c7] at H
   have c7b0 : decide (0 ≤ (ji6)) = true := decide_eq_true c7
   clear c7
   by_cases c8 : (ji6) < (t462.length : Int)
   ·rw [if_pos c8] at H
    have c8b0 : decide ((ji6) < (t462.length : Int)) = true := decide_eq_true c8
    clear c8
    simp only [Option.some.injEq, Prod.mk.injEq] at H
    obtain ⟨rfl, rfl⟩ := H
    go_enter Try.func30, Try.ntmps30
    go_wp2_with (first | ((with_reducible refine gate_callee (f := 34) rfl ?_); refine goesL_ (some 14) rfl rfl Try.func34 (by kernel_rfl) rfl #[.slice A0 l0.length c0, .int .i64 a1, .int .i64 a2] rfl (by (try simp only [List.map_toArray, List.map_cons, List.map_nil]); first | done | rfl | (simp only [List.length_drop, List.length_take]; rfl)) ?_; (with_reducible refine (impl_WayDown.calls k _ _ l0 a1 a2 t462 true _ ?side1 ?side2 A4.out).mono ?_); (case side1 => repeat (first | exact HR0.out | (with_reducible refine Kd.C_alloc ?_ _) | (with_reducible refine Kd.C_drewN ?_ _) | (with_reducible refine Kd.C_drew ?_))); (case side2 => exact HC0.out); rintro e w9 ⟨v464, rfl, ho0, hb⟩; refine ⟨_, rfl, ?_⟩; have n0_ := Aside0.mk (Kd.S_lower ho0 (below_size (by repeat (first | (with_reducible first | exact HB.out | apply below_alloc | apply pw_below_drewN | apply below_drew1) | exact HB.out)))); have n1_ := Aside0.mk (below_step (by repeat (first | (with_reducible first | exact HB.out | apply below_alloc | apply pw_below_drewN | apply below_drew1) | exact HB.out)) hb); clear HB; have HO465 := n0_; have HB := n1_; clear n0_ n1_; (try clear hb); (try clear hb2); (try clear hk); (try clear hi); (try clear ho0); obtain ⟨Ao10, co10, eo10⟩ := Kd.S_slice HO465.out; subst eo10; have p466 : 0 ≤ ((ji6) : Int) := of_decide_eq_true (by first | (with_reducible assumption) | assumption); have q466 : (ji6) < (t462.length : Int) := of_decide_eq_true (by first | (with_reducible assumption) | assumption); obtain ⟨ad466, A466_0, c466_0, e466, hx466_0, hl466_0, hi466_0⟩ := at_L1 (Kd.S_reads' HO465.out).2.2 (ji6) p466 q466; cases e466; obtain ⟨ce466, hce466, hMe466, hcc466⟩ := Kd.S_get HO465.out [] (ji6) p466 (by first | exact q466 | exact of_decide_eq_true (by first | (with_reducible assumption) | assumption) | (have e_ := (Kd.S_reads' HO465.out).1; omega)); obtain ⟨ve466_0, rfl, ge466_0⟩ := hMe466; have hv466_0 := hcc466 0 _ rfl; rw [Nat.add_zero, show ((Kd.slice 3 (Kd.int .i64))).sz = 1 from rfl, Nat.mul_one] at hv466_0; replace hv466_0 := Option.some.inj (hv466_0.symm.trans hx466_0); rw [hv466_0] at ge466_0; have HL466_0 := Aside0.mk (show Kd.R (Kd.int .i64) 3 _ _ _ _ (rd_L1 t462 (ji6)) from ge466_0); clear hv466_0 ge466_0; clear hcc466 hce466; have HR466_0 := Aside0.mk hi466_0; have HC466_0 := Aside0.mk hl466_0; clear hi466_0 hl466_0; replace p466 := eq_true p466; replace q466 := eq_true q466))
    go_ret2
    exact ⟨_, by first | rfl | (simp [errW_none, errW_some] <;> rfl) | (simp only [← hji6]; first | rfl | (simp [errW_none, errW_some] <;> rfl)) | (simp [*, errW_none, errW_some] <;> rfl), by (with_reducible repeat (first | apply Kd.R_alloc | apply Kd.R_drewN | apply Kd.R_drew)); exact Kd.R_mono HL466_0.out (fun _ hk => trivial), by repeat (first | (with_reducible first | exact HB.out | apply below_alloc | apply pw_below_drewN | apply below_drew1) | exact HB.out)⟩
   ·rw [if_neg c8] at H
    exact absurd H (by simp)
  ·rw [if_neg c7] at H
   exact absurd H (by simp)
 ·replace c5 := Bool.eq_false_iff.mpr c5
  subst c5
  have H1 : (some (([] : List Int), false)) = some (r1, r2) := by rw [if_neg (show ¬ (false = true) by decide)] at H; exact H
  clear H
  have H := H1
  clear H1
  simp only [Option.some.injEq, Prod.mk.injEq] at H
  obtain ⟨rfl, rfl⟩ := H
  go_enter Try.func30, Try.ntmps30
  go_wp2_with (first | ((with_reducible refine gate_callee (f := 34) rfl ?_); refine goesL_ (some 14) rfl rfl Try.func34 (by kernel_rfl) rfl #[.slice A0 l0.length c0, .int .i64 a1, .int .i64 a2] rfl (by (try simp only [List.map_toArray, List.map_cons, List.map_nil]); first | done | rfl | (simp only [List.length_drop, List.length_take]; rfl)) ?_; (with_reducible refine (impl_WayDown.calls k _ _ l0 a1 a2 t462 false _ ?side1 ?side2 A4.out).mono ?_); (case side1 => repeat (first | exact HR0.out | (with_reducible refine Kd.C_alloc ?_ _) | (with_reducible refine Kd.C_drewN ?_ _) | (with_reducible refine Kd.C_drew ?_))); (case side2 => exact HC0.out); rintro e w11 ⟨v464, rfl, ho0, hb⟩; refine ⟨_, rfl, ?_⟩; have n0_ := Aside0.mk (Kd.S_lower ho0 (below_size (by repeat (first | (with_reducible first | exact HB.out | apply below_alloc | apply pw_below_drewN | apply below_drew1) | exact HB.out)))); have n1_ := Aside0.mk (below_step (by repeat (first | (with_reducible first | exact HB.out | apply below_alloc | apply pw_below_drewN | apply below_drew1) | exact HB.out)) hb); clear HB; have HO465 := n0_; have HB := n1_; clear n0_ n1_; (try clear hb); (try clear hb2); (try clear hk); (try clear hi); (try clear ho0)))
  go_ret2
  exact ⟨_, by first | rfl | (simp [errW_none, errW_some] <;> rfl) | (simp [*, errW_none, errW_some] <;> rfl), by first | exact Kd.R_nil _ _ _ _ _ | exact Kd.N_nil _ _ _ _ _ | exact Kd.V_nil _ _ _ _ _ | exact Kd.Q_nil _ _ _ _ _ | exact Kd.S_nil _ _ _ _ _, by repeat (first | (with_reducible first | exact HB.out | apply below_alloc | apply pw_below_drewN | apply below_drew1) | exact HB.out)⟩

end Go.Proofs.Ytgpoljimomfbbaa.P

-- PFimplClimbHurwitz
namespace Go.Proofs.Ytgpoljimomfbbaa.P
open Go.RowKit Go.Proofs.YtgpoljimomfbbaaW.PrintWords Go.Proofs.YtgpoljimomfbbaaW.PrintLast
set_option linter.unusedVariables false
set_option linter.unusedSimpArgs false

/-! ### impl_ClimbHurwitz: function 41 -/
mutual
def impl_ClimbHurwitz.j0 : Nat → List Int → Int → List Int → Bool → Option (List Int × Bool)
 | 0, _, _, _, _ => none
 | k + 1, x0, x1, x3, x32 => if x32 = true then (some (([] : List Int), false)) else ((slices_Clone_int_int.f x0).bind fun t619 => (impl_ClimbHurwitz.l0 k x1 t619 x3 (x3.length : Int) 0))
def impl_ClimbHurwitz.l0 : Nat → Int → List Int → List Int → Int → Int → Option (List Int × Bool)
 | 0, _, _, _, _, _ => none
 | k + 1, x1, x10, x35, x36, x37 => if x37 < x36 then (if 0 ≤ x37 then (if x37 < (x35.length : Int) then ((impl_jump.f k x10 x1 (rd x35 x37)).bind fun bt623 => (if bt623.2 = true then (impl_ClimbHurwitz.l0 k x1 bt623.1 x35 x36 (wrap64 (x37 + 1))) else (some (([] : List Int), false)))) else (none)) else (none)) else (some (x10, true))
end
def impl_ClimbHurwitz.f (k : Nat) (l0 : List Int) (a1 : Int) (a2 : Int) (l3 : List Int) : Option (List Int × Bool) := (impl_isSolution.f k l0 a1 a2).bind fun t617 => (if t617 = true then (if (l3.length : Int) > 40 then (impl_ClimbHurwitz.j0 k l0 a1 l3 true) else ((impl_allWithin.f l3 0 (wrap64 ((l0.length : Int) - 1))).bind fun t618 => (impl_ClimbHurwitz.j0 k l0 a1 l3 (!t618)))) else (impl_ClimbHurwitz.j0 k l0 a1 l3 true))
theorem impl_ClimbHurwitz.mono_l : ∀ k, (∀ y0 y1 y2 y3, LeO (impl_ClimbHurwitz.j0 k y0 y1 y2 y3) (impl_ClimbHurwitz.j0 (k + 1) y0 y1 y2 y3)) ∧ (∀ y0 y1 y2 y3 y4, LeO (impl_ClimbHurwitz.l0 k y0 y1 y2 y3 y4) (impl_ClimbHurwitz.l0 (k + 1) y0 y1 y2 y3 y4))
 | 0 => ⟨fun _ _ _ _ r h => by simp [impl_ClimbHurwitz.j0] at h, fun _ _ _ _ _ r h => by simp [impl_ClimbHurwitz.l0] at h⟩
 | k + 1 => by
  obtain ⟨ih0, ih1⟩ := impl_ClimbHurwitz.mono_l k
  refine ⟨?_, ?_⟩
  ·intro y0 y1 y2 y3
   unfold impl_ClimbHurwitz.j0
   repeat' first
   | (with_reducible exact ih0 _ _ _ _)
   | (with_reducible exact ih1 _ _ _ _ _)
   | (with_reducible exact impl_isSolution.mono _ _ _ _)
   | (with_reducible exact impl_jump.mono _ _ _ _)
   | (with_reducible exact LeO.refl _)
   | (with_reducible exact LeO.none _)
   | (with_reducible refine LeO.ite ?_ ?_)
   | (with_reducible refine LeO.bind ?_ (fun _ => ?_))
   | exact ih0 _ _ _ _
   | exact ih1 _ _ _ _ _
   | exact impl_isSolution.mono _ _ _ _
   | exact impl_jump.mono _ _ _ _
   | exact LeO.none _
   | refine LeO.ite ?_ ?_
   | refine LeO.bind ?_ (fun _ => ?_)
  ·intro y0 y1 y2 y3 y4
   unfold impl_ClimbHurwitz.l0
   repeat' first
   | (with_reducible exact ih0 _ _ _ _)
   | (with_reducible exact ih1 _ _ _ _ _)
   | (with_reducible exact impl_isSolution.mono _ _ _ _)
   | (with_reducible exact impl_jump.mono _ _ _ _)
   | (with_reducible exact LeO.refl _)
   | (with_reducible exact LeO.none _)
   | (with_reducible refine LeO.ite ?_ ?_)
   | (with_reducible refine LeO.bind ?_ (fun _ => ?_))
   | exact ih0 _ _ _ _
   | exact ih1 _ _ _ _ _
   | exact impl_isSolution.mono _ _ _ _
   | exact impl_jump.mono _ _ _ _
   | exact LeO.none _
   | refine LeO.ite ?_ ?_
   | refine LeO.bind ?_ (fun _ => ?_)
theorem impl_ClimbHurwitz.mono : ∀ a0 a1 a2 a3 k, LeO (impl_ClimbHurwitz.f k a0 a1 a2 a3) (impl_ClimbHurwitz.f (k + 1) a0 a1 a2 a3) := by
 intro a0 a1 a2 a3 k
 obtain ⟨ih0, ih1⟩ := impl_ClimbHurwitz.mono_l k
 unfold impl_ClimbHurwitz.f
 repeat' first
   | (with_reducible exact ih0 _ _ _ _)
   | (with_reducible exact ih1 _ _ _ _ _)
   | (with_reducible exact impl_isSolution.mono _ _ _ _)
   | (with_reducible exact impl_jump.mono _ _ _ _)
   | (with_reducible exact LeO.refl _)
   | (with_reducible exact LeO.none _)
   | (with_reducible refine LeO.ite ?_ ?_)
   | (with_reducible refine LeO.bind ?_ (fun _ => ?_))
   | exact ih0 _ _ _ _
   | exact ih1 _ _ _ _ _
   | exact impl_isSolution.mono _ _ _ _
   | exact impl_jump.mono _ _ _ _
   | exact LeO.none _
   | refine LeO.ite ?_ ?_
   | refine LeO.bind ?_ (fun _ => ?_)
set_option maxHeartbeats 8000000 in
set_option maxRecDepth 100000 in
theorem impl_ClimbHurwitz.calls (k : Nat) (A0 : Option Addr) (c0 : Nat) (l0 : List Int) (a1 : Int) (a2 : Int) (A3 : Option Addr) (c3 : Nat) (l3 : List Int) (r1 : List Int) (r2 : Bool) (w : World) (hr0 : Kd.C (Kd.int .i64) w A0 l0.length l0) (hc0 : l0.length ≤ c0) (hr3 : Kd.C (Kd.int .i64) w A3 l3.length l3) (hc3 : l3.length ≤ c3) (h : impl_ClimbHurwitz.f k l0 a1 a2 l3 = some (r1, r2)) :
  Calls Try.prog 41 #[.slice A0 l0.length c0, .int .i64 a1, .int .i64 a2, .slice A3 l3.length c3] w fun e w' => ∃ v0_ : Value, e = .returned (.tuple #[v0_, .bool r2]) ∧ Kd.R (Kd.int .i64) 3 w' w.heap.size (fun _ => True) v0_ r1 ∧ Below w.heap.size w w' := by
 have HR0 := Aside0.mk hr0
 have HC0 := Aside0.mk hc0
 clear hr0 hc0
 have HR3 := Aside0.mk hr3
 have HC3 := Aside0.mk hc3
 clear hr3 hc3
 have HB := Aside0.mk (Below.refl w.heap.size w)
 have H : ((impl_isSolution.f k l0 a1 a2).bind fun t617 => (if t617 = true then (if (l3.length : Int) > 40 then (impl_ClimbHurwitz.j0 k l0 a1 l3 true) else ((impl_allWithin.f l3 0 (wrap64 ((l0.length : Int) - 1))).bind fun t618 => (impl_ClimbHurwitz.j0 k l0 a1 l3 (!t618)))) else (impl_ClimbHurwitz.j0 k l0 a1 l3 true))) = some (r1, r2) := h
 clear h
 have HC5 := Aside0.mk H
 clear H
 go_enter Try.func41, Try.ntmps41
 go_upto_region 1 with (fail)
 go_cut [32] (fun v32 wc => ∃ (kq : Nat) (x32_4 : Bool), v32 = .bool x32_4 ∧ Aside0 (impl_ClimbHurwitz.j0 kq l0 a1 l3 x32_4 = some (r1, r2)) ∧ Aside0 (kq ≤ k) ∧ Aside0 (Below w.heap.size w wc))
 case first =>
  have H := HC5.out
  clear HC5
  replace H := Option.bind_eq_some_iff.mp H
  obtain ⟨t617, A60, H⟩ := H
  replace H : (if t617 = true then (if (l3.length : Int) > 40 then (impl_ClimbHurwitz.j0 k l0 a1 l3 true) else ((impl_allWithin.f l3 0 (wrap64 ((l0.length : Int) - 1))).bind fun t618 => (impl_ClimbHurwitz.j0 k l0 a1 l3 (!t618)))) else (impl_ClimbHurwitz.j0 k l0 a1 l3 true)) = some (r1, r2) := H
  have A6 := Aside0.mk A60
  clear A60
  by_cases c7 : t617 = true
  ·subst c7
   have H1 : (if (l3.length : Int) > 40 then (impl_ClimbHurwitz.j0 k l0 a1 l3 true) else ((impl_allWithin.f l3 0 (wrap64 ((l0.length : Int) - 1))).bind fun t618 => (impl_ClimbHurwitz.j0 k l0 a1 l3 (!t618)))) = some (r1, r2) := by rw [if_pos rfl] at H; exact H
   clear H
   have H := H1
   clear H1
   by_cases c8 : (l3.length : Int) > 40
   ·rw [if_pos c8] at H
    have c8b0 : decide (40 < (l3.length : Int)) = true := decide_eq_true c8
    have c8b1 : decide (40 < l3.length) = true := decide_eq_true (by omega)
    clear c8
    (first | rw [c8b0] | (simp only [i64_w, i32_w]; rw [c8b0]) | skip)
    have H' := Aside0.mk H
    clear H
    go_wp2_with (first | ((with_reducible refine gate_callee (f := 50) rfl ?_); refine goesL_ (some 18) rfl rfl Try.func50 (by kernel_rfl) rfl #[.slice A0 l0.length c0, .int .i64 a1, .int .i64 a2] rfl (by (try simp only [List.map_toArray, List.map_cons, List.map_nil]); first | done | rfl | (simp only [List.length_drop, List.length_take]; rfl)) ?_; (with_reducible refine (impl_isSolution.calls k _ _ l0 a1 a2 true _ ?side1 ?side2 A6.out).mono ?_); (case side1 => repeat (first | exact (Kd.C_below HR0.out HB.out) | (with_reducible refine Kd.C_alloc ?_ _) | (with_reducible refine Kd.C_drewN ?_ _) | (with_reducible refine Kd.C_drew ?_))); (case side2 => exact HC0.out); rintro e w9 ⟨rfl, hb⟩; refine ⟨_, rfl, ?_⟩; have n0_ := Aside0.mk (below_step (by repeat (first | (with_reducible first | exact HB.out | apply below_alloc | apply pw_below_drewN | apply below_drew1) | exact HB.out)) hb); clear HB; have HB := n0_; clear n0_; (try clear hb); (try clear hb2); (try clear hk); (try clear hi)))
    go_meet
    case rel => exact ⟨_, (true), (by first | rfl | (simp; done) | (simp [*]; done)), H', ⟨by first | omega | exact Nat.le_refl _⟩, ⟨by repeat (first | (with_reducible first | exact HB.out | apply below_alloc | apply pw_below_drewN | apply below_drew1) | exact HB.out)⟩⟩
   ·rw [if_neg c8] at H
    have c8b0 : decide (40 < (l3.length : Int)) = false := decide_eq_false c8
    have c8b1 : decide (40 < l3.length) = false := decide_eq_false (by omega)
    clear c8
    (first | rw [c8b0] | (simp only [i64_w, i32_w]; rw [c8b0]) | skip)
    replace H := Option.bind_eq_some_iff.mp H
    obtain ⟨t618, A100, H⟩ := H
    replace H : (impl_ClimbHurwitz.j0 k l0 a1 l3 (!t618)) = some (r1, r2) := H
    have A10 := Aside0.mk A100
    clear A100
    have H' := Aside0.mk H
    clear H
    go_wp2_with (first | ((with_reducible refine gate_callee (f := 50) rfl ?_); refine goesL_ (some 18) rfl rfl Try.func50 (by kernel_rfl) rfl #[.slice A0 l0.length c0, .int .i64 a1, .int .i64 a2] rfl (by (try simp only [List.map_toArray, List.map_cons, List.map_nil]); first | done | rfl | (simp only [List.length_drop, List.length_take]; rfl)) ?_; (with_reducible refine (impl_isSolution.calls k _ _ l0 a1 a2 true _ ?side1 ?side2 A6.out).mono ?_); (case side1 => repeat (first | exact (Kd.C_below HR0.out HB.out) | (with_reducible refine Kd.C_alloc ?_ _) | (with_reducible refine Kd.C_drewN ?_ _) | (with_reducible refine Kd.C_drew ?_))); (case side2 => exact HC0.out); rintro e w11 ⟨rfl, hb⟩; refine ⟨_, rfl, ?_⟩; have n0_ := Aside0.mk (below_step (by repeat (first | (with_reducible first | exact HB.out | apply below_alloc | apply pw_below_drewN | apply below_drew1) | exact HB.out)) hb); clear HB; have HB := n0_; clear n0_; (try clear hb); (try clear hb2); (try clear hk); (try clear hi)) | (go_at_call 81; (with_reducible refine (impl_allWithin.calls _ _ l3 0 (wrap64 ((l0.length : Int) - 1)) t618 _ ?side1 ?side2 A10.out).mono ?_); (case side1 => repeat (first | exact (Kd.C_below HR3.out HB.out) | (with_reducible refine Kd.C_alloc ?_ _) | (with_reducible refine Kd.C_drewN ?_ _) | (with_reducible refine Kd.C_drew ?_))); (case side2 => exact HC3.out); rintro e w12 ⟨rfl, hb⟩; have n0_ := Aside0.mk (below_step (by repeat (first | (with_reducible first | exact HB.out | apply below_alloc | apply pw_below_drewN | apply below_drew1) | exact HB.out)) hb); clear HB; have HB := n0_; clear n0_; (try clear hb); (try clear hb2); (try clear hk); (try clear hi)))
    go_meet
    case rel => exact ⟨_, (!t618), (by first | rfl | (simp; done) | (simp [*]; done)), H', ⟨by first | omega | exact Nat.le_refl _⟩, ⟨by repeat (first | (with_reducible first | exact HB.out | apply below_alloc | apply pw_below_drewN | apply below_drew1) | exact HB.out)⟩⟩
  ·replace c7 := Bool.eq_false_iff.mpr c7
   subst c7
   have H1 : (impl_ClimbHurwitz.j0 k l0 a1 l3 true) = some (r1, r2) := by rw [if_neg (show ¬ (false = true) by decide)] at H; exact H
   clear H
   have H := H1
   clear H1
   have H' := Aside0.mk H
   clear H
   go_wp2_with (first | ((with_reducible refine gate_callee (f := 50) rfl ?_); refine goesL_ (some 18) rfl rfl Try.func50 (by kernel_rfl) rfl #[.slice A0 l0.length c0, .int .i64 a1, .int .i64 a2] rfl (by (try simp only [List.map_toArray, List.map_cons, List.map_nil]); first | done | rfl | (simp only [List.length_drop, List.length_take]; rfl)) ?_; (with_reducible refine (impl_isSolution.calls k _ _ l0 a1 a2 false _ ?side1 ?side2 A6.out).mono ?_); (case side1 => repeat (first | exact (Kd.C_below HR0.out HB.out) | (with_reducible refine Kd.C_alloc ?_ _) | (with_reducible refine Kd.C_drewN ?_ _) | (with_reducible refine Kd.C_drew ?_))); (case side2 => exact HC0.out); rintro e w13 ⟨rfl, hb⟩; refine ⟨_, rfl, ?_⟩; have n0_ := Aside0.mk (below_step (by repeat (first | (with_reducible first | exact HB.out | apply below_alloc | apply pw_below_drewN | apply below_drew1) | exact HB.out)) hb); clear HB; have HB := n0_; clear n0_; (try clear hb); (try clear hb2); (try clear hk); (try clear hi)))
   go_meet
   case rel => exact ⟨_, (true), (by first | rfl | (simp; done) | (simp [*]; done)), H', ⟨by first | omega | exact Nat.le_refl _⟩, ⟨by repeat (first | (with_reducible first | exact HB.out | apply below_alloc | apply pw_below_drewN | apply below_drew1) | exact HB.out)⟩⟩
 case rest =>
  clear HC5
  try clear p2
  try clear c3
  try clear c4
  try clear c5
  try clear p6
  try clear c7
  try clear c8
  try clear c8b0
  try clear c8b1
  obtain ⟨kq, x32_4, rfl, HA, HJ4, HB⟩ := hcut
  cases kq with
  | zero => exact absurd HA.out (by simp [impl_ClimbHurwitz.j0])
  | succ kj4 =>
   have H := HA.out
   clear HA
   simp only [impl_ClimbHurwitz.j0] at H
   by_cases c14 : x32_4 = true
   ·subst c14
    have H1 : (some (([] : List Int), false)) = some (r1, r2) := by rw [if_pos rfl] at H; exact H
    clear H
    have H := H1
    clear H1
    simp only [Option.some.injEq, Prod.mk.injEq] at H
    obtain ⟨rfl, rfl⟩ := H
    go_wp2
    go_ret2
    exact ⟨_, by first | rfl | (simp [errW_none, errW_some] <;> rfl) | (simp [*, errW_none, errW_some] <;> rfl), by first | exact Kd.R_nil _ _ _ _ _ | exact Kd.N_nil _ _ _ _ _ | exact Kd.V_nil _ _ _ _ _ | exact Kd.Q_nil _ _ _ _ _ | exact Kd.S_nil _ _ _ _ _, by repeat (first | (with_reducible first | exact HB.out | apply below_alloc | apply pw_below_drewN | apply below_drew1) | exact HB.out)⟩
   ·replace c14 := Bool.eq_false_iff.mpr c14
    subst c14
    have H1 : ((slices_Clone_int_int.f l0).bind fun t619 => (impl_ClimbHurwitz.l0 kj4 a1 t619 l3 (l3.length : Int) 0)) = some (r1, r2) := by rw [if_neg (show ¬ (false = true) by decide)] at H; exact H
    clear H
    have H := H1
    clear H1
    replace H := Option.bind_eq_some_iff.mp H
    obtain ⟨t619, A150, H⟩ := H
    replace H : (impl_ClimbHurwitz.l0 kj4 a1 t619 l3 (l3.length : Int) 0) = some (r1, r2) := H
    have A15 := Aside0.mk A150
    clear A150
    have H' := Aside0.mk H
    clear H
    go_wp2_with (first | ((with_reducible refine gate_callee (f := 58) rfl ?_); refine goesL_ (some 34) rfl rfl Try.func58 (by kernel_rfl) rfl #[.slice A0 l0.length c0] rfl (by (try simp only [List.map_toArray, List.map_cons, List.map_nil]); first | done | rfl | (simp only [List.length_drop, List.length_take]; rfl)) ?_; (with_reducible refine (slices_Clone_int_int.calls _ _ l0 t619 _ ?side1 ?side2 A15.out).mono ?_); (case side1 => repeat (first | exact (Kd.C_below HR0.out HB.out) | (with_reducible refine Kd.C_alloc ?_ _) | (with_reducible refine Kd.C_drewN ?_ _) | (with_reducible refine Kd.C_drew ?_))); (case side2 => exact HC0.out); rintro e w16 ⟨v620, rfl, ho0, hb⟩; refine ⟨_, rfl, ?_⟩; have n0_ := Aside0.mk (Kd.R_lower ho0 (below_size (by repeat (first | (with_reducible first | exact HB.out | apply below_alloc | apply pw_below_drewN | apply below_drew1) | exact HB.out)))); have n1_ := Aside0.mk (below_step (by repeat (first | (with_reducible first | exact HB.out | apply below_alloc | apply pw_below_drewN | apply below_drew1) | exact HB.out)) hb); clear HB; have HO621 := n0_; have HB := n1_; clear n0_ n1_; (try clear hb); (try clear hb2); (try clear hk); (try clear hi); (try clear ho0)))
    go_loopg [10, 37] kj4 (fun kq v10 v37 w' => ∃ (x10_2 : List Int) (x37_2 : Int), v37 = .int .i64 x37_2 ∧ Aside0 (impl_ClimbHurwitz.l0 kq a1 x10_2 l3 (l3.length : Int) x37_2 = some (r1, r2)) ∧ Aside0 (kq ≤ kj4) ∧ Aside0 (Kd.R (Kd.int .i64) 3 w' w.heap.size (fun _ => True) v10 x10_2) ∧ Aside0 (Below w.heap.size w w'))
    case atStart => exact ⟨(t619), (0), (by first | rfl | (simp; done) | (simp [*]; done)), H', ⟨Nat.le_refl _⟩, ⟨by (with_reducible repeat (first | apply Kd.R_alloc | apply Kd.R_drewN | apply Kd.R_drew)); exact HO621.out⟩, ⟨by repeat (first | (with_reducible first | exact HB.out | apply below_alloc | apply pw_below_drewN | apply below_drew1) | exact HB.out)⟩⟩
    case round =>
     clear H'
     try clear c1
     try clear p2
     try clear c3
     try clear c4
     try clear c5
     try clear p6
     try clear c7
     try clear c8
     try clear c8b0
     try clear c8b1
     try clear c14
     try clear p2
     try clear p6
     obtain ⟨x10_2, x37_2, rfl, HA, HK2, HO_10, HB⟩ := hrel
     cases gk with
     | zero => exact absurd HA.out (by simp [impl_ClimbHurwitz.l0])
     | succ k2 =>
      have H := HA.out
      clear HA
      simp only [impl_ClimbHurwitz.l0] at H
      by_cases c17 : x37_2 < (l3.length : Int)
      ·rw [if_pos c17] at H
       have c17b0 : decide (x37_2 < (l3.length : Int)) = true := decide_eq_true c17
       clear c17
       by_cases c18 : 0 ≤ x37_2
       ·rw [if_pos c18] at H
        have c18b0 : decide (0 ≤ x37_2) = true := decide_eq_true c18
        clear c18
        by_cases c19 : x37_2 < (l3.length : Int)
        ·rw [if_pos c19] at H
         have c19b0 : decide (x37_2 < (l3.length : Int)) = true := decide_eq_true c19
         clear c19
         replace H := Option.bind_eq_some_iff.mp H
         obtain ⟨⟨t623, t624⟩, A200, H⟩ := H
         replace H : (if t624 = true then (impl_ClimbHurwitz.l0 k2 a1 t623 l3 (l3.length : Int) (wrap64 (x37_2 + 1))) else (some (([] : List Int), false))) = some (r1, r2) := H
         have A20 := Aside0.mk A200
         clear A200
         by_cases c21 : t624 = true
         ·subst c21
          have H1 : (impl_ClimbHurwitz.l0 k2 a1 t623 l3 (l3.length : Int) (wrap64 (x37_2 + 1))) = some (r1, r2) := by rw [if_pos rfl] at H; exact H
          clear H
          have H := H1
          clear H1
          have H' := Aside0.mk H
          clear H
          have p622 : 0 ≤ (x37_2 : Int) := of_decide_eq_true (by first | (with_reducible assumption) | assumption)
          have q622 : x37_2 < (l3.length : Int) := of_decide_eq_true (by first | (with_reducible assumption) | assumption)
          obtain ⟨ad622, e622, hx622_0⟩ := Kd.at_int HR3.out x37_2 p622 q622
          cases e622
          replace hx622_0 := (HB.out.cell (World.block_lt_of_cell? w _ hx622_0)).trans hx622_0
          replace p622 := eq_true p622
          replace q622 := eq_true q622
          obtain ⟨Ao22, co22, eo22⟩ := Kd.R_slice HO_10.out
          subst eo22
          go_wp2_with (first | ((with_reducible refine gate_callee (f := 76) rfl ?_); refine goesL_ (some 45) rfl rfl Try.func76 (by kernel_rfl) rfl #[.slice Ao22 x10_2.length co22, .int .i64 a1, .int .i64 (rd l3 x37_2)] rfl (by (try simp only [List.map_toArray, List.map_cons, List.map_nil]); first | done | rfl | (simp only [List.length_drop, List.length_take]; rfl)) ?_; (with_reducible refine (impl_jump.calls k2 _ _ x10_2 a1 (rd l3 x37_2) t623 true _ ?side1 ?side2 A20.out).mono ?_); (case side1 => repeat (first | exact (Kd.R_reads' HO_10.out).2.2 | (with_reducible refine Kd.C_alloc ?_ _) | (with_reducible refine Kd.C_drewN ?_ _) | (with_reducible refine Kd.C_drew ?_))); (case side2 => exact (Kd.R_reads' HO_10.out).2.1); rintro e w23 ⟨v625, rfl, ho0, hb⟩; refine ⟨_, rfl, ?_⟩; have n0_ := Aside0.mk (Kd.R_elder' (by (with_reducible repeat (first | apply Kd.R_alloc | apply Kd.R_drewN | apply Kd.R_drew)); exact HO_10.out) (Kd.R_base ho0) hb); have n1_ := Aside0.mk (Kd.R_lower (Kd.R_new' ho0 (Kd.R_lt (by (with_reducible repeat (first | apply Kd.R_alloc | apply Kd.R_drewN | apply Kd.R_drew)); exact HO_10.out))) (below_size (by repeat (first | (with_reducible first | exact HB.out | apply below_alloc | apply pw_below_drewN | apply below_drew1) | exact HB.out)))); have n2_ := Aside0.mk (below_step (by repeat (first | (with_reducible first | exact HB.out | apply below_alloc | apply pw_below_drewN | apply below_drew1) | exact HB.out)) hb); clear HO_10; clear HB; have HO_10 := n0_; have HO626 := n1_; have HB := n2_; clear n0_ n1_ n2_; (try clear hb); (try clear hb2); (try clear hk); (try clear hi); (try clear ho0)))
          go_roundg k2
          case measure => have := HJ4.out; have := HK2.out; omega
          case rel => exact ⟨(t623), (wrap64 (x37_2 + 1)), (by first | rfl | (simp; done) | (simp [*]; done)), H', ⟨by have := HJ4.out; have := HK2.out; omega⟩, ⟨by (with_reducible repeat (first | apply Kd.R_alloc | apply Kd.R_drewN | apply Kd.R_drew)); exact Kd.R_mono HO626.out (fun _ hk => trivial)⟩, ⟨by repeat (first | (with_reducible first | exact HB.out | apply below_alloc | apply pw_below_drewN | apply below_drew1) | exact HB.out)⟩⟩
         ·replace c21 := Bool.eq_false_iff.mpr c21
          subst c21
          have H1 : (some (([] : List Int), false)) = some (r1, r2) := by rw [if_neg (show ¬ (false = true) by decide)] at H; exact H
          clear H
          have H := H1
          clear H1
          simp only [Option.some.injEq, Prod.mk.injEq] at H
          obtain ⟨rfl, rfl⟩ := H
          have p622 : 0 ≤ (x37_2 : Int) := of_decide_eq_true (by first | (with_reducible assumption) | assumption)
          have q622 : x37_2 < (l3.length : Int) := of_decide_eq_true (by first | (with_reducible assumption) | assumption)
          obtain ⟨ad622, e622, hx622_0⟩ := Kd.at_int HR3.out x37_2 p622 q622
          cases e622
          replace hx622_0 := (HB.out.cell (World.block_lt_of_cell? w _ hx622_0)).trans hx622_0
          replace p622 := eq_true p622
          replace q622 := eq_true q622
          obtain ⟨Ao24, co24, eo24⟩ := Kd.R_slice HO_10.out
          subst eo24
          go_wp2_with (first | ((with_reducible refine gate_callee (f := 76) rfl ?_); refine goesL_ (some 45) rfl rfl Try.func76 (by kernel_rfl) rfl #[.slice Ao24 x10_2.length co24, .int .i64 a1, .int .i64 (rd l3 x37_2)] rfl (by (try simp only [List.map_toArray, List.map_cons, List.map_nil]); first | done | rfl | (simp only [List.length_drop, List.length_take]; rfl)) ?_; (with_reducible refine (impl_jump.calls k2 _ _ x10_2 a1 (rd l3 x37_2) t623 false _ ?side1 ?side2 A20.out).mono ?_); (case side1 => repeat (first | exact (Kd.R_reads' HO_10.out).2.2 | (with_reducible refine Kd.C_alloc ?_ _) | (with_reducible refine Kd.C_drewN ?_ _) | (with_reducible refine Kd.C_drew ?_))); (case side2 => exact (Kd.R_reads' HO_10.out).2.1); rintro e w25 ⟨v625, rfl, ho0, hb⟩; refine ⟨_, rfl, ?_⟩; have n0_ := Aside0.mk (Kd.R_elder' (by (with_reducible repeat (first | apply Kd.R_alloc | apply Kd.R_drewN | apply Kd.R_drew)); exact HO_10.out) (Kd.R_base ho0) hb); have n1_ := Aside0.mk (Kd.R_lower (Kd.R_new' ho0 (Kd.R_lt (by (with_reducible repeat (first | apply Kd.R_alloc | apply Kd.R_drewN | apply Kd.R_drew)); exact HO_10.out))) (below_size (by repeat (first | (with_reducible first | exact HB.out | apply below_alloc | apply pw_below_drewN | apply below_drew1) | exact HB.out)))); have n2_ := Aside0.mk (below_step (by repeat (first | (with_reducible first | exact HB.out | apply below_alloc | apply pw_below_drewN | apply below_drew1) | exact HB.out)) hb); clear HO_10; clear HB; have HO_10 := n0_; have HO626 := n1_; have HB := n2_; clear n0_ n1_ n2_; (try clear hb); (try clear hb2); (try clear hk); (try clear hi); (try clear ho0)))
          go_ret2
          exact ⟨_, by first | rfl | (simp [errW_none, errW_some] <;> rfl) | (simp [*, errW_none, errW_some] <;> rfl), by first | exact Kd.R_nil _ _ _ _ _ | exact Kd.N_nil _ _ _ _ _ | exact Kd.V_nil _ _ _ _ _ | exact Kd.Q_nil _ _ _ _ _ | exact Kd.S_nil _ _ _ _ _, by repeat (first | (with_reducible first | exact HB.out | apply below_alloc | apply pw_below_drewN | apply below_drew1) | exact HB.out)⟩
        ·rw [if_neg c19] at H
         exact absurd H (by simp)
       ·rw [if_neg c18] at H
        exact absurd H (by simp)
      ·rw [if_neg c17] at H
       have c17b0 : decide (x37_2 < (l3.length : Int)) = false := decide_eq_false c17
       clear c17
       simp only [Option.some.injEq, Prod.mk.injEq] at H
       obtain ⟨rfl, rfl⟩ := H
       go_wp2
       go_ret2
       exact ⟨_, by first | rfl | (simp [errW_none, errW_some] <;> rfl) | (simp [*, errW_none, errW_some] <;> rfl), by (with_reducible repeat (first | apply Kd.R_alloc | apply Kd.R_drewN | apply Kd.R_drew)); exact HO_10.out, by repeat (first | (with_reducible first | exact HB.out | apply below_alloc | apply pw_below_drewN | apply below_drew1) | exact HB.out)⟩

end Go.Proofs.Ytgpoljimomfbbaa.P

-- PFimplJumpAt
namespace Go.Proofs.Ytgpoljimomfbbaa.P
open Go.RowKit Go.Proofs.YtgpoljimomfbbaaW.PrintWords Go.Proofs.YtgpoljimomfbbaaW.PrintLast
set_option linter.unusedVariables false
set_option linter.unusedSimpArgs false

/-! ### impl_JumpAt: function 45 -/
def impl_JumpAt.f (k : Nat) (l0 : List Int) (a1 : Int) (a2 : Int) (a3 : Int) : Option (List Int × Bool) := (impl_isSolution.f k l0 a1 a2).bind fun t748 => (if t748 = true then ((impl_within.f a3 0 (wrap64 ((l0.length : Int) - 1))).bind fun t749 => (if t749 = true then ((impl_jump.f k l0 a1 a3).bind fun bt750 => (some (bt750.1, bt750.2))) else (some (([] : List Int), false)))) else (some (([] : List Int), false)))
theorem impl_JumpAt.mono : ∀ a0 a1 a2 a3 k, LeO (impl_JumpAt.f k a0 a1 a2 a3) (impl_JumpAt.f (k + 1) a0 a1 a2 a3) := by
 intro a0 a1 a2 a3 k
 unfold impl_JumpAt.f
 repeat' first
   | (with_reducible exact impl_isSolution.mono _ _ _ _)
   | (with_reducible exact impl_jump.mono _ _ _ _)
   | (with_reducible exact LeO.refl _)
   | (with_reducible exact LeO.none _)
   | (with_reducible refine LeO.ite ?_ ?_)
   | (with_reducible refine LeO.bind ?_ (fun _ => ?_))
   | exact impl_isSolution.mono _ _ _ _
   | exact impl_jump.mono _ _ _ _
   | exact LeO.none _
   | refine LeO.ite ?_ ?_
   | refine LeO.bind ?_ (fun _ => ?_)
set_option maxHeartbeats 8000000 in
set_option maxRecDepth 100000 in
theorem impl_JumpAt.calls (k : Nat) (A0 : Option Addr) (c0 : Nat) (l0 : List Int) (a1 : Int) (a2 : Int) (a3 : Int) (r1 : List Int) (r2 : Bool) (w : World) (hr0 : Kd.C (Kd.int .i64) w A0 l0.length l0) (hc0 : l0.length ≤ c0) (h : impl_JumpAt.f k l0 a1 a2 a3 = some (r1, r2)) :
  Calls Try.prog 45 #[.slice A0 l0.length c0, .int .i64 a1, .int .i64 a2, .int .i64 a3] w fun e w' => ∃ v0_ : Value, e = .returned (.tuple #[v0_, .bool r2]) ∧ Kd.R (Kd.int .i64) 3 w' w.heap.size (fun _ => True) v0_ r1 ∧ Below w.heap.size w w' := by
 have HR0 := Aside0.mk hr0
 have HC0 := Aside0.mk hc0
 clear hr0 hc0
 have HB := Aside0.mk (Below.refl w.heap.size w)
 have H : ((impl_isSolution.f k l0 a1 a2).bind fun t748 => (if t748 = true then ((impl_within.f a3 0 (wrap64 ((l0.length : Int) - 1))).bind fun t749 => (if t749 = true then ((impl_jump.f k l0 a1 a3).bind fun bt750 => (some (bt750.1, bt750.2))) else (some (([] : List Int), false)))) else (some (([] : List Int), false)))) = some (r1, r2) := h
 clear h
 replace H := Option.bind_eq_some_iff.mp H
 obtain ⟨t748, A50, H⟩ := H
 replace H : (if t748 = true then ((impl_within.f a3 0 (wrap64 ((l0.length : Int) - 1))).bind fun t749 => (if t749 = true then ((impl_jump.f k l0 a1 a3).bind fun bt750 => (some (bt750.1, bt750.2))) else (some (([] : List Int), false)))) else (some (([] : List Int), false))) = some (r1, r2) := H
 have A5 := Aside0.mk A50
 clear A50
 by_cases c6 : t748 = true
 ·subst c6
  have H1 : ((impl_within.f a3 0 (wrap64 ((l0.length : Int) - 1))).bind fun t749 => (if t749 = true then ((impl_jump.f k l0 a1 a3).bind fun bt750 => (some (bt750.1, bt750.2))) else (some (([] : List Int), false)))) = some (r1, r2) := by rw [if_pos rfl] at H; exact H
  clear H
  have H := H1
  clear H1
  replace H := Option.bind_eq_some_iff.mp H
  obtain ⟨t749, A70, H⟩ := H
  replace H : (if t749 = true then ((impl_jump.f k l0 a1 a3).bind fun bt750 => (some (bt750.1, bt750.2))) else (some (([] : List Int), false))) = some (r1, r2) := H
  have A7 := Aside0.mk A70
  clear A70
  by_cases c8 : t749 = true
  ·subst c8
   have H1 : ((impl_jump.f k l0 a1 a3).bind fun bt750 => (some (bt750.1, bt750.2))) = some (r1, r2) := by rw [if_pos rfl] at H; exact H
   clear H
   have H := H1
   clear H1
   replace H := Option.bind_eq_some_iff.mp H
   obtain ⟨⟨t750, t751⟩, A90, H⟩ := H
   replace H : (some (t750, t751)) = some (r1, r2) := H
   have A9 := Aside0.mk A90
   clear A90
   simp only [Option.some.injEq, Prod.mk.injEq] at H
   obtain ⟨rfl, rfl⟩ := H
   go_enter Try.func45, Try.ntmps45
   go_wp2_with (first | ((with_reducible refine gate_callee (f := 50) rfl ?_); refine goesL_ (some 13) rfl rfl Try.func50 (by kernel_rfl) rfl #[.slice A0 l0.length c0, .int .i64 a1, .int .i64 a2] rfl (by (try simp only [List.map_toArray, List.map_cons, List.map_nil]); first | done | rfl | (simp only [List.length_drop, List.length_take]; rfl)) ?_; (with_reducible refine (impl_isSolution.calls k _ _ l0 a1 a2 true _ ?side1 ?side2 A5.out).mono ?_); (case side1 => repeat (first | exact HR0.out | (with_reducible refine Kd.C_alloc ?_ _) | (with_reducible refine Kd.C_drewN ?_ _) | (with_reducible refine Kd.C_drew ?_))); (case side2 => exact HC0.out); rintro e w10 ⟨rfl, hb⟩; refine ⟨_, rfl, ?_⟩; have n0_ := Aside0.mk (below_step (by repeat (first | (with_reducible first | exact HB.out | apply below_alloc | apply pw_below_drewN | apply below_drew1) | exact HB.out)) hb); clear HB; have HB := n0_; clear n0_; (try clear hb); (try clear hb2); (try clear hk); (try clear hi)) | (go_at_call 57; (with_reducible refine (impl_within.calls a3 0 (wrap64 ((l0.length : Int) - 1)) true _ A7.out).mono ?_); rintro e w' ⟨rfl, ⟨nd, rfl⟩⟩) | ((with_reducible refine gate_callee (f := 76) rfl ?_); refine goesL_ (some 26) rfl rfl Try.func76 (by kernel_rfl) rfl #[.slice A0 l0.length c0, .int .i64 a1, .int .i64 a3] rfl (by (try simp only [List.map_toArray, List.map_cons, List.map_nil]); first | done | rfl | (simp only [List.length_drop, List.length_take]; rfl)) ?_; (with_reducible refine (impl_jump.calls k _ _ l0 a1 a3 t750 t751 _ ?side1 ?side2 A9.out).mono ?_); (case side1 => repeat (first | exact (Kd.C_below HR0.out (by repeat (first | (with_reducible first | exact HB.out | apply below_alloc | apply pw_below_drewN | apply below_drew1) | exact HB.out))) | (with_reducible refine Kd.C_alloc ?_ _) | (with_reducible refine Kd.C_drewN ?_ _) | (with_reducible refine Kd.C_drew ?_))); (case side2 => exact HC0.out); rintro e w11 ⟨v752, rfl, ho0, hb⟩; refine ⟨_, rfl, ?_⟩; have n0_ := Aside0.mk (Kd.R_lower ho0 (below_size (by repeat (first | (with_reducible first | exact HB.out | apply below_alloc | apply pw_below_drewN | apply below_drew1) | exact HB.out)))); have n1_ := Aside0.mk (below_step (by repeat (first | (with_reducible first | exact HB.out | apply below_alloc | apply pw_below_drewN | apply below_drew1) | exact HB.out)) hb); clear HB; have HO753 := n0_; have HB := n1_; clear n0_ n1_; (try clear hb); (try clear hb2); (try clear hk); (try clear hi); (try clear ho0)))
   go_ret2
   exact ⟨_, by first | rfl | (simp [errW_none, errW_some] <;> rfl) | (simp [*, errW_none, errW_some] <;> rfl), by (with_reducible repeat (first | apply Kd.R_alloc | apply Kd.R_drewN | apply Kd.R_drew)); exact HO753.out, by repeat (first | (with_reducible first | exact HB.out | apply below_alloc | apply pw_below_drewN | apply below_drew1) | exact HB.out)⟩
  ·replace c8 := Bool.eq_false_iff.mpr c8
   subst c8
   have H1 : (some (([] : List Int), false)) = some (r1, r2) := by rw [if_neg (show ¬ (false = true) by decide)] at H; exact H
   clear H
   have H := H1
   clear H1
   simp only [Option.some.injEq, Prod.mk.injEq] at H
   obtain ⟨rfl, rfl⟩ := H
   go_enter Try.func45, Try.ntmps45
   go_wp2_with (first | ((with_reducible refine gate_callee (f := 50) rfl ?_); refine goesL_ (some 13) rfl rfl Try.func50 (by kernel_rfl) rfl #[.slice A0 l0.length c0, .int .i64 a1, .int .i64 a2] rfl (by (try simp only [List.map_toArray, List.map_cons, List.map_nil]); first | done | rfl | (simp only [List.length_drop, List.length_take]; rfl)) ?_; (with_reducible refine (impl_isSolution.calls k _ _ l0 a1 a2 true _ ?side1 ?side2 A5.out).mono ?_); (case side1 => repeat (first | exact HR0.out | (with_reducible refine Kd.C_alloc ?_ _) | (with_reducible refine Kd.C_drewN ?_ _) | (with_reducible refine Kd.C_drew ?_))); (case side2 => exact HC0.out); rintro e w12 ⟨rfl, hb⟩; refine ⟨_, rfl, ?_⟩; have n0_ := Aside0.mk (below_step (by repeat (first | (with_reducible first | exact HB.out | apply below_alloc | apply pw_below_drewN | apply below_drew1) | exact HB.out)) hb); clear HB; have HB := n0_; clear n0_; (try clear hb); (try clear hb2); (try clear hk); (try clear hi)) | (go_at_call 57; (with_reducible refine (impl_within.calls a3 0 (wrap64 ((l0.length : Int) - 1)) false _ A7.out).mono ?_); rintro e w' ⟨rfl, ⟨nd, rfl⟩⟩))
   go_ret2
   exact ⟨_, by first | rfl | (simp [errW_none, errW_some] <;> rfl) | (simp [*, errW_none, errW_some] <;> rfl), by first | exact Kd.R_nil _ _ _ _ _ | exact Kd.N_nil _ _ _ _ _ | exact Kd.V_nil _ _ _ _ _ | exact Kd.Q_nil _ _ _ _ _ | exact Kd.S_nil _ _ _ _ _, by repeat (first | (with_reducible first | exact HB.out | apply below_alloc | apply pw_below_drewN | apply below_drew1) | exact HB.out)⟩
 ·replace c6 := Bool.eq_false_iff.mpr c6
  subst c6
  have H1 : (some (([] : List Int), false)) = some (r1, r2) := by rw [if_neg (show ¬ (false = true) by decide)] at H; exact H
  clear H
  have H := H1
  clear H1
  simp only [Option.some.injEq, Prod.mk.injEq] at H
  obtain ⟨rfl, rfl⟩ := H
  go_enter Try.func45, Try.ntmps45
  go_wp2_with (first | ((with_reducible refine gate_callee (f := 50) rfl ?_); refine goesL_ (some 13) rfl rfl Try.func50 (by kernel_rfl) rfl #[.slice A0 l0.length c0, .int .i64 a1, .int .i64 a2] rfl (by (try simp only [List.map_toArray, List.map_cons, List.map_nil]); first | done | rfl | (simp only [List.length_drop, List.length_take]; rfl)) ?_; (with_reducible refine (impl_isSolution.calls k _ _ l0 a1 a2 false _ ?side1 ?side2 A5.out).mono ?_); (case side1 => repeat (first | exact HR0.out | (with_reducible refine Kd.C_alloc ?_ _) | (with_reducible refine Kd.C_drewN ?_ _) | (with_reducible refine Kd.C_drew ?_))); (case side2 => exact HC0.out); rintro e w13 ⟨rfl, hb⟩; refine ⟨_, rfl, ?_⟩; have n0_ := Aside0.mk (below_step (by repeat (first | (with_reducible first | exact HB.out | apply below_alloc | apply pw_below_drewN | apply below_drew1) | exact HB.out)) hb); clear HB; have HB := n0_; clear n0_; (try clear hb); (try clear hb2); (try clear hk); (try clear hi)))
  go_ret2
  exact ⟨_, by first | rfl | (simp [errW_none, errW_some] <;> rfl) | (simp [*, errW_none, errW_some] <;> rfl), by first | exact Kd.R_nil _ _ _ _ _ | exact Kd.N_nil _ _ _ _ _ | exact Kd.V_nil _ _ _ _ _ | exact Kd.Q_nil _ _ _ _ _ | exact Kd.S_nil _ _ _ _ _, by repeat (first | (with_reducible first | exact HB.out | apply below_alloc | apply pw_below_drewN | apply below_drew1) | exact HB.out)⟩

end Go.Proofs.Ytgpoljimomfbbaa.P

-- Usorted
namespace Go.Proofs.Ytgpoljimomfbbaa.P
set_option linter.unusedVariables false
set_option linter.unusedSimpArgs false
open Go.RowKit Go.Proofs.YtgpoljimomfbbaaW.PrintWords Go.Proofs.YtgpoljimomfbbaaW.PrintLast

def up (l : List Int) : List Int := l.mergeSort fun x y => decide (x ≤ y)
theorem up_perm (l : List Int) : (up l).Perm l := List.mergeSort_perm _ _
theorem up_pairwise (l : List Int) : (up l).Pairwise (· ≤ ·) := by
  have h := List.pairwise_mergeSort (le := fun x y : Int => decide (x ≤ y)) (by intro a b c h1 h2; simp at *; omega) (by intro a b; simp; omega) l
  exact h.imp (by intro a b h; simpa using h)
theorem up_unique {l m : List Int} (hp : m.Perm l) (hs : m.Pairwise (· ≤ ·)) : m = up l :=
  List.Perm.eq_of_pairwise (le := (· ≤ ·)) (fun a b _ _ h1 h2 => by omega) hs (up_pairwise l) (hp.trans (up_perm l).symm)
theorem up_length (l : List Int) : (up l).length = l.length := (up_perm l).length_eq
theorem sort_is (l : List Int) (h : l.length < 4611686018427387904) : slices_Sort_int_int.f l = some (up l) := by
  unfold slices_Sort_int_int.f
  rw [if_pos h]
  rfl
end Go.Proofs.Ytgpoljimomfbbaa.P

-- Udown
namespace Go.Proofs.Ytgpoljimomfbbaa.P
set_option linter.unusedVariables false
set_option linter.unusedSimpArgs false
open Go.RowKit Go.Proofs.YtgpoljimomfbbaaW.PrintWords Go.Proofs.YtgpoljimomfbbaaW.PrintLast

def down (l : List Int) : List Int := (up l).reverse
theorem down_perm (l : List Int) : (down l).Perm l := (List.reverse_perm _).trans (up_perm l)
theorem down_pairwise (l : List Int) : (down l).Pairwise (· ≥ ·) := by
  unfold down
  rw [List.pairwise_reverse]
  exact up_pairwise l
theorem down_unique {l m : List Int} (hp : m.Perm l) (hs : m.Pairwise (· ≥ ·)) : m = down l :=
  List.Perm.eq_of_pairwise (le := (· ≥ ·)) (fun a b _ _ h1 h2 => by omega) hs (down_pairwise l) (hp.trans (down_perm l).symm)
theorem down_length (l : List Int) : (down l).length = l.length := (down_perm l).length_eq

/-- The first i and the last i have changed places. -/
def turned (xs : List Int) (i : Nat) : List Int := (List.range xs.length).map fun p => if p < i ∨ xs.length - i ≤ p then xs.getD (xs.length - 1 - p) 0 else xs.getD p 0
theorem turned_length (xs : List Int) (i : Nat) : (turned xs i).length = xs.length := by simp [turned]
theorem turned_zero (xs : List Int) : turned xs 0 = xs := by
  apply List.ext_getElem
  · simp [turned]
  · intro p h1 h2
    simp [turned, List.getD_eq_getElem?_getD, h2]
    omega
theorem turned_end (xs : List Int) (i : Nat) (h : xs.length ≤ 2 * i + 1) : turned xs i = xs.reverse := by
  apply List.ext_getElem
  · simp [turned]
  · intro p h1 h2
    have h3 : p < xs.length := by simpa using h2
    rw [List.getElem_reverse]
    simp only [turned, List.getElem_map, List.getElem_range]
    by_cases c : p < i ∨ xs.length - i ≤ p
    · rw [if_pos c]
      simp [List.getD_eq_getElem?_getD, show xs.length - 1 - p < xs.length by omega]
    · rw [if_neg c]
      have e : p = xs.length - 1 - p := by omega
      simp only [List.getD_eq_getElem?_getD]
      rw [List.getElem?_eq_getElem h3, Option.getD_some]
      congr 1
theorem turned_succ (xs : List Int) (i : Nat) (h : 2 * i + 1 < xs.length) : turned xs (i + 1) = ((turned xs i).set i ((turned xs i).getD (xs.length - 1 - i) 0)).set (xs.length - 1 - i) ((turned xs i).getD i 0) := by
  have g : ∀ p, p < xs.length → (turned xs i).getD p 0 = if p < i ∨ xs.length - i ≤ p then xs.getD (xs.length - 1 - p) 0 else xs.getD p 0 := by
    intro p hp
    simp [turned, List.getD_eq_getElem?_getD, hp]
  rw [g i (by omega), g (xs.length - 1 - i) (by omega), if_neg (by omega), if_neg (by omega)]
  apply List.ext_getElem
  · simp [turned]
  · intro p h1 h2
    have h3 : p < xs.length := by simpa [turned] using h1
    rw [List.getElem_set, List.getElem_set]
    simp only [turned, List.getElem_map, List.getElem_range]
    by_cases e1 : xs.length - 1 - i = p
    · rw [if_pos e1, if_pos (by omega)]
      congr 1
      omega
    · rw [if_neg e1]
      by_cases e2 : i = p
      · rw [if_pos e2, if_pos (by omega)]
        congr 1
        omega
      · rw [if_neg e2]
        by_cases c : p < i ∨ xs.length - i ≤ p
        · rw [if_pos (by omega), if_pos c]
        · rw [if_neg (by omega), if_neg c]
theorem reverse_upto (xs : List Int) (hn : xs.length ≤ 4611686018427387904) (d : Nat) : ∀ i : Nat, xs.length ≤ 2 * i + 2 * d → Ev (fun k => slices_Reverse_int_int.l0 k (turned xs i) (i : Int) ((xs.length : Int) - 1 - i)) xs.reverse := by
  induction d with
  | zero =>
    intro i hid
    refine Ev.step (f := fun _ => some (turned xs i)) (fun k => by simp only [slices_Reverse_int_int.l0]; rw [if_neg (by omega)]) ?_
    exact Ev.is (by rw [turned_end xs i (by omega)])
  | succ d ih =>
    intro i hid
    by_cases h : 2 * i + 1 < xs.length
    · have hl := turned_length xs i
      have e1 : wrap64 ((i : Int) + 1) = ((i + 1 : Nat) : Int) := w64_succ (n := xs.length) (by omega) hn
      have e2 : wrap64 ((xs.length : Int) - 1 - i - 1) = (xs.length : Int) - 1 - ((i + 1 : Nat) : Int) := by rw [w64 (by omega) (by omega)]; omega
      have e3 : ((xs.length : Int) - 1 - i).toNat = xs.length - 1 - i := by omega
      refine Ev.step (f := fun k => slices_Reverse_int_int.l0 k (turned xs (i + 1)) ((i + 1 : Nat) : Int) ((xs.length : Int) - 1 - ((i + 1 : Nat) : Int))) (fun k => ?_) (ih (i + 1) (by omega))
      simp only [slices_Reverse_int_int.l0]
      rw [if_pos (by omega), if_pos (by omega), if_pos (by omega), if_pos (by omega), if_pos (by omega), e1, e2, turned_succ xs i h]
      simp only [rd, e3, Int.toNat_natCast]
    · refine Ev.step (f := fun _ => some (turned xs i)) (fun k => by simp only [slices_Reverse_int_int.l0]; rw [if_neg (by omega)]) ?_
      exact Ev.is (by rw [turned_end xs i (by omega)])
theorem reverse_ev (xs : List Int) (hn : xs.length ≤ 4611686018427387904) : Ev (fun k => slices_Reverse_int_int.f k xs) xs.reverse := by
  unfold slices_Reverse_int_int.f
  rw [w64 (by omega) (by omega)]
  have h := reverse_upto xs hn xs.length 0 (by omega)
  rw [turned_zero] at h
  have e : (xs.length : Int) - 1 - ((0 : Nat) : Int) = (xs.length : Int) - 1 := by omega
  rw [e] at h
  exact h
end Go.Proofs.Ytgpoljimomfbbaa.P

-- UhuSort
namespace Go.Proofs.Ytgpoljimomfbbaa.P
set_option linter.unusedVariables false
set_option linter.unusedSimpArgs false
open Go.RowKit Go.Proofs.YtgpoljimomfbbaaW.PrintWords Go.Proofs.YtgpoljimomfbbaaW.PrintLast

def ins (x : Int) : List Int → List Int
  | [] => [x]
  | y :: l => if y ≥ x then y :: ins x l else x :: y :: l
theorem ins_length (x : Int) (l : List Int) : (ins x l).length = l.length + 1 := by
  induction l with
  | nil => rfl
  | cons y l ih =>
    rw [ins]
    split
    · simp [ih]
    · simp
theorem ins_perm (x : Int) (l : List Int) : (ins x l).Perm (x :: l) := by
  induction l with
  | nil => exact List.Perm.refl _
  | cons y l ih =>
    rw [ins]
    split
    · exact (List.Perm.cons y ih).trans (List.Perm.swap x y l)
    · exact List.Perm.refl _
theorem ins_pairwise (x : Int) (l : List Int) (h : l.Pairwise (· ≥ ·)) : (ins x l).Pairwise (· ≥ ·) := by
  induction l with
  | nil => simp [ins]
  | cons y l ih =>
    rw [List.pairwise_cons] at h
    rw [ins]
    split
    · rename_i hxy
      rw [List.pairwise_cons]
      refine ⟨fun z hz => ?_, ih h.2⟩
      rcases List.mem_cons.1 ((ins_perm x l).mem_iff.1 hz) with rfl | hz
      · exact hxy
      · exact h.1 z hz
    · rename_i hxy
      rw [List.pairwise_cons]
      refine ⟨fun z hz => ?_, List.pairwise_cons.2 h⟩
      rcases List.mem_cons.1 hz with rfl | hz
      · omega
      · have := h.1 z hz
        omega
theorem l1Own_is (l : List Int) (h : l.length < 17592186044416) : spec_l1Own.f l = some l := by
  unfold spec_l1Own.f
  simp [h]
theorem huSort_in (o : List Int) (x : Int) (l : List Int) (i : Nat) (hn : o.length ≤ 1000000) (hi : i < l.length) (hl : l.length ≤ 1000000) (r : List Int) (d : Nat) : ∀ j : Nat, j + d = o.length → Ev (fun k => spec_huSort.l0 k (o.take j ++ ins x (o.drop j)) l (l.length : Int) ((i + 1 : Nat) : Int)) r → Ev (fun k => spec_huSort.l1 k o x (j : Int) l (l.length : Int) (i : Int)) r := by
  have hput : ∀ j : Nat, j ≤ o.length → ∀ k, (if (0 : Int) ≤ (j : Int) then (if (j : Int) ≤ (o.length : Int) then ((spec_l1Own.f (o.take ((j : Int)).toNat)).bind fun t301 => (if t301.length < 17592186044416 then ((some (t301 ++ [x] : List Int)).bind fun y304 => ((some (o.drop ((j : Int)).toNat : List Int)).bind fun y307 => (if y304.length + y307.length < 17592186044416 then (spec_huSort.l0 k (y304 ++ y307) l (l.length : Int) (wrap64 ((i : Int) + 1))) else (none)))) else (none))) else (none)) else (none)) = spec_huSort.l0 k (o.take j ++ x :: o.drop j) l (l.length : Int) ((i + 1 : Nat) : Int) := by
    intro j hj k
    rw [if_pos (by omega), if_pos (by omega), Int.toNat_natCast, l1Own_is _ (by rw [List.length_take]; omega), w64_succ (n := l.length) hi (by omega)]
    simp only [Option.bind_some]
    rw [if_pos (by rw [List.length_take]; omega), if_pos (by rw [List.length_append, List.length_take, List.length_drop]; simp; omega), List.append_assoc, List.singleton_append]
  induction d with
  | zero =>
    intro j hid hE
    rw [List.drop_eq_nil_of_le (by omega), ins] at hE
    refine Ev.step (f := fun k => spec_huSort.l0 k (o.take j ++ [x]) l (l.length : Int) ((i + 1 : Nat) : Int)) (fun k => ?_) hE
    simp only [spec_huSort.l1]
    rw [if_neg (by omega), hput j (by omega) k, List.drop_eq_nil_of_le (by omega)]
  | succ d ih =>
    intro j hid hE
    have hdrop := rd_drop o j (by omega)
    rw [hdrop, ins] at hE
    by_cases h : rd o (j : Int) ≥ x
    · rw [if_pos h] at hE
      refine Ev.step (f := fun k => spec_huSort.l1 k o x ((j + 1 : Nat) : Int) l (l.length : Int) (i : Int)) (fun k => ?_) (ih (j + 1) (by omega) ?_)
      · simp only [spec_huSort.l1]
        rw [if_pos (by omega), if_pos (by omega), if_pos h, w64_succ (n := o.length) (by omega) (by omega)]
      · rw [List.take_succ_eq_append_getElem (by omega), List.append_assoc, List.singleton_append, ← rd_lt o j (by omega)]
        exact hE
    · rw [if_neg h] at hE
      refine Ev.step (f := fun k => spec_huSort.l0 k (o.take j ++ x :: o.drop j) l (l.length : Int) ((i + 1 : Nat) : Int)) (fun k => ?_) (by rw [hdrop]; exact hE)
      have hp := hput j (by omega) k
      rw [if_pos (by omega)] at hp
      simp only [spec_huSort.l1]
      rw [if_pos (by omega), if_pos (by omega), if_neg h]
      exact hp
theorem huSort_upto (l : List Int) (hl : l.length ≤ 1000000) (d : Nat) : ∀ (i : Nat) (o : List Int), i + d = l.length → o.length = i → Ev (fun k => spec_huSort.l0 k o l (l.length : Int) (i : Int)) ((l.drop i).foldl (fun o x => ins x o) o) := by
  induction d with
  | zero =>
    intro i o hid ho
    refine Ev.step (f := fun _ => some o) (fun k => by simp only [spec_huSort.l0]; rw [if_neg (by omega)]) ?_
    rw [List.drop_eq_nil_of_le (by omega)]
    exact Ev.is rfl
  | succ d ih =>
    intro i o hid ho
    refine Ev.step (f := fun k => spec_huSort.l1 k o (rd l (i : Int)) ((0 : Nat) : Int) l (l.length : Int) (i : Int)) (fun k => ?_) ?_
    · simp only [spec_huSort.l0]
      rw [if_pos (by omega), if_pos (by omega), if_pos (by omega)]
      rfl
    · refine huSort_in o _ l i (by omega) (by omega) hl _ o.length 0 (by omega) ?_
      rw [List.take_zero, List.drop_zero, List.nil_append, rd_drop l i (by omega), List.foldl_cons]
      exact ih (i + 1) _ (by omega) (by rw [ins_length]; omega)
theorem foldl_ins (l : List Int) : ∀ o : List Int, o.Pairwise (· ≥ ·) → (l.foldl (fun o x => ins x o) o).Pairwise (· ≥ ·) ∧ (l.foldl (fun o x => ins x o) o).Perm (o ++ l) := by
  induction l with
  | nil => intro o ho; exact ⟨ho, by rw [List.append_nil]; exact List.Perm.refl _⟩
  | cons x l ih =>
    intro o ho
    have h := ih (ins x o) (ins_pairwise x o ho)
    refine ⟨h.1, h.2.trans ?_⟩
    exact ((ins_perm x o).append_right l).trans List.perm_middle.symm
theorem huSort_ev (l : List Int) (hl : l.length ≤ 1000000) : Ev (fun k => spec_huSort.f k l) (down l) := by
  unfold spec_huSort.f
  have h := huSort_upto l hl l.length 0 [] (by omega) rfl
  have h2 := foldl_ins l [] List.Pairwise.nil
  rw [List.drop_zero, down_unique h2.2 h2.1] at h
  exact h
end Go.Proofs.Ytgpoljimomfbbaa.P

-- UhuJump
namespace Go.Proofs.Ytgpoljimomfbbaa.P
set_option linter.unusedVariables false
set_option linter.unusedSimpArgs false
open Go.RowKit Go.Proofs.YtgpoljimomfbbaaW.PrintWords Go.Proofs.YtgpoljimomfbbaaW.PrintLast Go.Proofs.YtgpoljimomfbbaaW.PrintMore

theorem clone_is (l : List Int) (h : l.length < 17592186044416) : slices_Clone_int_int.f l = some l := by
  unfold slices_Clone_int_int.f
  rw [if_pos h]
theorem sqs_perm {l m : List Int} (h : l.Perm m) : sqs l = sqs m := by
  induction h with
  | nil => rfl
  | cons x _ ih => simp only [sqs, ih]
  | swap x y l => simp only [sqs]; omega
  | trans _ _ h1 h2 => exact h1.trans h2
theorem prd_perm {l m : List Int} (h : l.Perm m) : prd l = prd m := by
  induction h with
  | nil => rfl
  | cons x _ ih => simp only [prd, ih]
  | swap x y l => simp only [prd]; grind
  | trans _ _ h1 h2 => exact h1.trans h2
theorem fallsFrom_iff (p : Int) (l : List Int) : fallsFrom p l = true ↔ (p :: l).Pairwise (· ≥ ·) := by
  induction l generalizing p with
  | nil => simp [fallsFrom]
  | cons x l ih =>
    rw [fallsFrom, Bool.and_eq_true, ih, List.pairwise_cons (a := p) (l := x :: l), decide_eq_true_eq]
    constructor
    · rintro ⟨h1, h2⟩
      refine ⟨fun y hy => ?_, h2⟩
      rcases List.mem_cons.1 hy with rfl | hy
      · exact h1
      · have := (List.pairwise_cons.1 h2).1 y hy
        omega
    · rintro ⟨h1, h2⟩
      exact ⟨h1 x List.mem_cons_self, h2⟩
theorem falls_iff (l : List Int) : falls l = true ↔ l.Pairwise (· ≥ ·) := by
  cases l with
  | nil => simp [falls]
  | cons x l => exact fallsFrom_iff x l
theorem rd_set (l : List Int) (i : Nat) (y : Int) (hi : i < l.length) : rd (l.set i y) (i : Int) = y := by rw [rd_lt _ _ (by rw [List.length_set]; exact hi), List.getElem_set_self]
theorem erase_set (l : List Int) (i : Nat) (y : Int) : (l.set i y).eraseIdx i = l.eraseIdx i := by
  induction l generalizing i with
  | nil => rfl
  | cons x l ih =>
    cases i with
    | zero => rfl
    | succ i => rw [List.set_cons_succ, List.eraseIdx_cons_succ, List.eraseIdx_cons_succ, ih]

/-- Behind the jump at i. -/
def jmp (l : List Int) (a : Int) (i : Nat) : List Int := down (l.set i (oth l a i))
def jumpOf (l : List Int) (a : Int) (i : Nat) : List Int × Bool := if inB 1 100000 (oth l a i) then (jmp l a i, true) else ([], false)
theorem jmp_length (l : List Int) (a : Int) (i : Nat) : (jmp l a i).length = l.length := by rw [jmp, down_length, List.length_set]
/-- The sum of squares and the product behind a jump: Vieta. -/
theorem vieta {l : List Int} {a b : Int} {i : Nat} (hi : i < l.length) (h : sqs l = a * prd l + b) : sqs (jmp l a i) = a * prd (jmp l a i) + b := by
  rw [jmp, sqs_perm (down_perm _), prd_perm (down_perm _)]
  have hi2 : i < (l.set i (oth l a i)).length := by rw [List.length_set]; exact hi
  rw [sqs_mem _ i hi2, prd_erase _ i hi2, rd_set l i _ hi, erase_set]
  rw [sqs_mem l i hi, prd_erase l i hi] at h
  unfold oth
  grind
theorem jmp_is {l : List Int} {a b : Int} {i : Nat} (hi : i < l.length) (h : huIs l a b = true) (ho : inB 1 100000 (oth l a i) = true) : huIs (jmp l a i) a b = true := by
  obtain ⟨h1, h2, h3, h4⟩ := huIs_iff.1 h
  refine huIs_iff.2 ⟨by rw [jmp_length]; exact h1, fun x hx => ?_, (falls_iff _).2 (down_pairwise _), vieta hi h4⟩
  have hx2 := (down_perm _).mem_iff.1 hx
  rcases List.mem_or_eq_of_mem_set hx2 with hm | rfl
  · exact h2 x hm
  · exact inB_iff.1 ho
theorem jump_both {l : List Int} {a b : Int} (hg : huGv a b = true) (h : huIs l a b = true) (i : Nat) (hi : i < l.length) : Ev (fun k => impl_jump.f k l a (i : Int)) (jumpOf l a i) ∧ Ev (fun k => spec_huJump.f k l a (i : Int)) (jumpOf l a i) := by
  obtain ⟨e1, e2⟩ := other_both hg h i hi
  obtain ⟨h1, h2, h3, h4⟩ := huIs_iff.1 h
  have c1 : (0 : Int) ≤ (i : Int) := by omega
  have c2 : (i : Int) < (l.length : Int) := by omega
  unfold impl_jump.f spec_huJump.f jumpOf
  constructor
  · refine Ev.bind e1 ?_
    rw [within_inB]
    refine Ev.bind0 rfl ?_
    cases ho : inB 1 100000 (oth l a i) with
    | false =>
      simp only [Bool.false_eq_true, if_false]
      exact Ev.is rfl
    | true =>
      simp only [if_true]
      refine Ev.bind0 (clone_is l (by omega)) ?_
      simp only [c1, c2, if_true, Int.toNat_natCast]
      refine Ev.bind0 (sort_is _ (by rw [List.length_set]; omega)) ?_
      refine Ev.bind (reverse_ev _ (by rw [up_length, List.length_set]; omega)) (Ev.is rfl)
  · refine Ev.bind e2 ?_
    rw [l1In_inB]
    refine Ev.bind0 rfl ?_
    cases ho : inB 1 100000 (oth l a i) with
    | false =>
      simp only [Bool.false_eq_true, if_false]
      exact Ev.is rfl
    | true =>
      simp only [if_true]
      refine Ev.bind0 (own_is l (by omega)) ?_
      simp only [c1, c2, if_true, Int.toNat_natCast]
      exact Ev.bind (huSort_ev _ (by rw [List.length_set]; omega)) (Ev.is rfl)
end Go.Proofs.Ytgpoljimomfbbaa.P

-- UdrawHu
namespace Go.Proofs.Ytgpoljimomfbbaa.P
set_option linter.unusedVariables false
set_option linter.unusedSimpArgs false
open Go.RowKit Go.Proofs.YtgpoljimomfbbaaW.PrintWords Go.Proofs.YtgpoljimomfbbaaW.PrintLast Go.Proofs.YtgpoljimomfbbaaW.PrintMore

theorem huSquares_any (l : List Int) (hn : l.length ≤ 1000000) (d : Nat) : ∀ (i : Nat) (s : Int), i + d = l.length → ∃ v, Ev (fun k => spec_huSquares.l0 k s l (l.length : Int) (i : Int)) v := by
  induction d with
  | zero =>
    intro i s hid
    exact ⟨s, Ev.step (f := fun _ => some s) (fun k => by simp only [spec_huSquares.l0]; rw [if_neg (by omega)]) (Ev.is rfl)⟩
  | succ d ih =>
    intro i s hid
    obtain ⟨v, hv⟩ := ih (i + 1) (wrap64 (s + wrap64 (rd l (i : Int) * rd l (i : Int)))) (by omega)
    refine ⟨v, Ev.step (fun k => ?_) hv⟩
    simp only [spec_huSquares.l0]
    rw [if_pos (by omega), if_pos (by omega), if_pos (by omega), w64_succ (n := l.length) (by omega) (by omega)]
theorem huProduct_any (l : List Int) (hn : l.length ≤ 1000000) (d : Nat) : ∀ (i : Nat) (s : Int), i + d = l.length → ∃ v, Ev (fun k => spec_huProduct.l0 k s l (l.length : Int) (i : Int)) v := by
  induction d with
  | zero =>
    intro i s hid
    exact ⟨s, Ev.step (f := fun _ => some s) (fun k => by simp only [spec_huProduct.l0]; rw [if_neg (by omega)]) (Ev.is rfl)⟩
  | succ d ih =>
    intro i s hid
    obtain ⟨v, hv⟩ := ih (i + 1) (min (wrap64 (s * rd l (i : Int))) 1000000000000) (by omega)
    refine ⟨v, Ev.step (fun k => ?_) hv⟩
    simp only [spec_huProduct.l0]
    rw [if_pos (by omega), if_pos (by omega), if_pos (by omega), least_is, w64_succ (n := l.length) (by omega) (by omega)]
    rfl
theorem huOther_any (l : List Int) (a i : Int) (h0 : 0 ≤ i) (h1 : i < l.length) (hn : l.length ≤ 1000) : ∃ v, Ev (fun k => spec_huOther.f k l a i) v := by
  unfold spec_huOther.f
  have w1 : wrap64 (i + 1) = i + 1 := w64 (by omega) (by omega)
  have c2 : i ≤ (l.length : Int) := by omega
  have c3 : (0 : Int) ≤ i + 1 := by omega
  have c4 : i + 1 ≤ (l.length : Int) := by omega
  have hlen : (l.take i.toNat).length + (l.drop (i + 1).toNat).length < 17592186044416 := by rw [List.length_take, List.length_drop]; omega
  have hl2 : (l.take i.toNat ++ l.drop (i + 1).toNat).length ≤ 1000000 := by rw [List.length_append, List.length_take, List.length_drop]; omega
  obtain ⟨v, hv⟩ := huProduct_any (l.take i.toNat ++ l.drop (i + 1).toNat) hl2 (l.take i.toNat ++ l.drop (i + 1).toNat).length 0 a (by omega)
  simp only [w1, h0, c2, c3, c4, h1, if_true]
  refine ⟨wrap64 (v - rd l i), Ev.bind0 (own_is _ (by rw [List.length_take]; omega)) ?_⟩
  simp only [hlen, if_true]
  exact Ev.bind (show Ev (fun k => spec_huProduct.f k _ a) v from hv) (Ev.is rfl)
theorem huJump_any (l : List Int) (a i : Int) (h0 : 0 ≤ i) (h1 : i < l.length) (hn : l.length ≤ 1000) : ∃ r : List Int × Bool, Ev (fun k => spec_huJump.f k l a i) r ∧ (r.2 = true → r.1.length = l.length) := by
  obtain ⟨v, hv⟩ := huOther_any l a i h0 h1 hn
  unfold spec_huJump.f
  simp only [l1In_inB]
  cases ho : inB 1 100000 v with
  | false =>
    refine ⟨([], false), Ev.bind hv ?_, by simp⟩
    simp only [ho, Option.bind_some, Bool.false_eq_true, if_false]
    exact Ev.is rfl
  | true =>
    refine ⟨(down (l.set i.toNat v), true), Ev.bind hv ?_, fun _ => by rw [down_length, List.length_set]⟩
    simp only [ho, Option.bind_some, if_true]
    refine Ev.bind0 (own_is l (by omega)) ?_
    simp only [h0, h1, if_true]
    exact Ev.bind (huSort_ev _ (by rw [List.length_set]; omega)) (Ev.is rfl)
theorem given_ok (code : List Int) (hc : Bytes code) (at_ seed : Int) (h0 : 0 ≤ at_) (h1 : at_ ≤ 900000000) : ∃ a b at' seed', spec_l1Cur_given.f code at_ seed = some (a, b, at', seed') ∧ at_ ≤ at' ∧ at' ≤ at_ + 8 := by
  unfold spec_l1Cur_given.f
  obtain ⟨v1, a1, s1, e1, _, _, _, _⟩ := pick_ok code hc at_ seed 4 h0 (by omega) (by decide)
  rw [e1]
  simp only [Option.bind_some]
  obtain ⟨v2, a2, s2, e2, _, _, _⟩ := among_ok code hc a1 s1 [0, 0, 0, 1, 2, (-1), 5, (-3)] (by omega) (by omega) (by decide) (by decide)
  rw [e2]
  simp only [Option.bind_some]
  obtain ⟨v3, a3, s3, e3, _, _, _, _⟩ := pick_ok code hc a2 s2 14 (by omega) (by omega) (by decide)
  rw [e3]
  simp only [Option.bind_some]
  by_cases c1 : v3 = 0
  · obtain ⟨v4, a4, s4, e4, _, _, _⟩ := among_ok code hc a3 s3 [(-1), 0, 20, 21] (by omega) (by omega) (by decide) (by decide)
    rw [if_pos c1, e4]
    exact ⟨_, _, a4, _, rfl, by omega, by omega⟩
  · by_cases c2 : v3 = 1
    · obtain ⟨v4, a4, s4, e4, _, _, _⟩ := among_ok code hc a3 s3 [(-51), (-50), 50, 51] (by omega) (by omega) (by decide) (by decide)
      rw [if_neg c1, if_pos c2, e4]
      exact ⟨_, _, a4, _, rfl, by omega, by omega⟩
    · rw [if_neg c1, if_neg c2]
      exact ⟨_, _, a3, _, rfl, by omega, by omega⟩
def Four (l : List Int) : Prop := 3 ≤ l.length ∧ l.length ≤ 4
theorem hurwitz_loop (code : List Int) (hc : Bytes code) (a b : Int) (d : Nat) : ∀ (l : List Int) (at_ seed : Int), Four l → d ≤ 100 → 0 ≤ at_ → at_ ≤ 1000 - 2 * (d : Int) →
    ∃ l' a' b' at' seed', Ev (fun k => spec_l1Cur_hurwitz.l0 k l a b (d : Int) code at_ seed) (l', a', b', at', seed') ∧ Four l' ∧ 0 ≤ at' ∧ at' ≤ 2000 := by
  induction d with
  | zero =>
    intro l at_ seed hl hd h0 h1
    obtain ⟨v1, a1, s1, e1, _, _, _, _⟩ := pick_ok code hc at_ seed 16 h0 (by omega) (by decide)
    by_cases c1 : v1 = 0
    · obtain ⟨v2, a2, s2, e2, p2, q2, _, _⟩ := pick_ok code hc a1 s1 (l.length : Int) (by omega) (by omega) (by have := hl.2; omega)
      have q3 := q2 (by have := hl.1; omega)
      obtain ⟨v3, a3, s3, e3, _, _, _⟩ := among_ok code hc a2 s2 [(-1), 0, 1, 100000, 100001] (by omega) (by omega) (by decide) (by decide)
      refine ⟨l.set v2.toNat v3, a, b, a3, s3, Ev.step (f := fun _ => some (l.set v2.toNat v3, a, b, a3, s3)) (fun k => ?_) (Ev.is rfl), by unfold Four; rw [List.length_set]; exact hl, by omega, by omega⟩
      simp only [spec_l1Cur_hurwitz.l0]
      rw [if_neg (by omega), e1]
      simp only [Option.bind_some]
      rw [if_pos c1, e2]
      simp only [Option.bind_some]
      rw [e3]
      simp only [Option.bind_some]
      rw [if_pos p2, if_pos q3]
    · by_cases c2 : v1 = 1
      · obtain ⟨a2, b2, a3, s3, e3, _, _⟩ := given_ok code hc a1 s1 (by omega) (by omega)
        refine ⟨l, a2, b2, a3, s3, Ev.step (f := fun _ => some (l, a2, b2, a3, s3)) (fun k => ?_) (Ev.is rfl), hl, by omega, by omega⟩
        simp only [spec_l1Cur_hurwitz.l0]
        rw [if_neg (by omega), e1]
        simp only [Option.bind_some]
        rw [if_neg c1, if_pos c2, e3]
        rfl
      · refine ⟨l, a, b, a1, s1, Ev.step (f := fun _ => some (l, a, b, a1, s1)) (fun k => ?_) (Ev.is rfl), hl, by omega, by omega⟩
        simp only [spec_l1Cur_hurwitz.l0]
        rw [if_neg (by omega), e1]
        simp only [Option.bind_some]
        rw [if_neg c1, if_neg c2]
  | succ d ih =>
    intro l at_ seed hl hd h0 h1
    obtain ⟨v1, a1, s1, e1, p1, q1, _, _⟩ := pick_ok code hc at_ seed (l.length : Int) h0 (by omega) (by have := hl.2; omega)
    obtain ⟨r, er, hr⟩ := huJump_any l a v1 p1 (q1 (by have := hl.1; omega)) (by have := hl.2; omega)
    have w1 : wrap64 (((d + 1 : Nat) : Int) - 1) = (d : Int) := by rw [w64 (by omega) (by omega)]; omega
    have hstay := ih l a1 s1 hl (by omega) (by omega) (by omega)
    have hstep : ∀ (l2 : List Int), (∀ k, (if r.2 = true then (if 0 < (r.1.length : Int) then (if (rd r.1 0) < 20000 then spec_l1Cur_hurwitz.l0 k r.1 a b (d : Int) code a1 s1 else spec_l1Cur_hurwitz.l0 k l a b (d : Int) code a1 s1) else none) else spec_l1Cur_hurwitz.l0 k l a b (d : Int) code a1 s1) = spec_l1Cur_hurwitz.l0 k l2 a b (d : Int) code a1 s1) → Four l2 →
        ∃ l' a' b' at' seed', Ev (fun k => spec_l1Cur_hurwitz.l0 k l a b ((d + 1 : Nat) : Int) code at_ seed) (l', a', b', at', seed') ∧ Four l' ∧ 0 ≤ at' ∧ at' ≤ 2000 := by
      intro l2 hk h2
      obtain ⟨l', a', b', at', seed', e, h3⟩ := ih l2 a1 s1 h2 (by omega) (by omega) (by omega)
      refine ⟨l', a', b', at', seed', Ev.step (f := fun k => (spec_huJump.f k l a v1).bind fun bt => (if bt.2 = true then (if 0 < (bt.1.length : Int) then (if (rd bt.1 0) < 20000 then spec_l1Cur_hurwitz.l0 k bt.1 a b (d : Int) code a1 s1 else spec_l1Cur_hurwitz.l0 k l a b (d : Int) code a1 s1) else none) else spec_l1Cur_hurwitz.l0 k l a b (d : Int) code a1 s1)) (fun k => ?_) (Ev.bind er (Ev.congr hk e)), h3⟩
      simp only [spec_l1Cur_hurwitz.l0]
      rw [if_pos (by omega), e1]
      simp only [Option.bind_some]
      rw [w1]
    cases h2 : r.2 with
    | false => exact hstep l (fun k => by rw [h2, if_neg (by simp)]) hl
    | true =>
      have hlen := hr h2
      have hpos : (0 : Int) < (r.1.length : Int) := by have := hl.1; omega
      by_cases h3 : rd r.1 0 < 20000
      · exact hstep r.1 (fun k => by rw [h2, if_pos rfl, if_pos hpos, if_pos h3]) (by unfold Four; rw [hlen]; exact hl)
      · exact hstep l (fun k => by rw [h2, if_pos rfl, if_pos hpos, if_neg h3]) hl
theorem hurwitz_j1 (code : List Int) (hc : Bytes code) (a b : Int) (l : List Int) (at_ seed : Int) (hl : Four l) (h0 : 0 ≤ at_) (h1 : at_ ≤ 500) : ∃ l' a' b' at' seed', Ev (fun k => spec_l1Cur_hurwitz.j1 k l a b code at_ seed) (l', a', b', at', seed') ∧ Four l' ∧ 0 ≤ at' ∧ at' ≤ 2000 := by
  obtain ⟨v1, a1, s1, e1, p1, q1, _, _⟩ := pick_ok code hc at_ seed 7 h0 (by omega) (by decide)
  have q2 := q1 (by decide)
  obtain ⟨n, rfl⟩ := Int.eq_ofNat_of_zero_le p1
  obtain ⟨l', a', b', at', seed', e, h3⟩ := hurwitz_loop code hc a b n l a1 s1 hl (by omega) (by omega) (by omega)
  refine ⟨l', a', b', at', seed', Ev.step (f := fun k => spec_l1Cur_hurwitz.l0 k l a b (n : Int) code a1 s1) (fun k => ?_) e, h3⟩
  simp only [spec_l1Cur_hurwitz.j1]
  rw [e1]
  rfl
theorem hurwitz_j0 (code : List Int) (hc : Bytes code) (l : List Int) (at_ seed : Int) (hl : Four l) (h0 : 0 ≤ at_) (h1 : at_ ≤ 400) : ∃ l' a' b' at' seed', Ev (fun k => spec_l1Cur_hurwitz.j0 k l code at_ seed) (l', a', b', at', seed') ∧ Four l' ∧ 0 ≤ at' ∧ at' ≤ 2000 := by
  have hl2 := hl.2
  have hd : Four (down l) := by unfold Four; rw [down_length]; exact hl
  obtain ⟨v1, a1, s1, e1, p1, q1, _, _⟩ := pick_ok code hc at_ seed 3 h0 (by omega) (by decide)
  obtain ⟨v2, h2⟩ := huSquares_any (down l) (by have := hd.2; omega) (down l).length 0 0 (by omega)
  obtain ⟨v3, h3⟩ := huProduct_any (down l) (by have := hd.2; omega) (down l).length 0 (wrap64 (1 + v1)) (by omega)
  obtain ⟨l', a', b', at', seed', e, h4⟩ := hurwitz_j1 code hc (wrap64 (1 + v1)) (wrap64 (v2 - v3)) (down l) a1 s1 hd (by omega) (by omega)
  refine ⟨l', a', b', at', seed', Ev.step (fun k => by simp only [spec_l1Cur_hurwitz.j0]; rfl) (Ev.bind (huSort_ev l (by omega)) (Ev.bind0 e1 (Ev.bind (show Ev (fun k => spec_huSquares.f k (down l)) v2 from h2) (Ev.bind (show Ev (fun k => spec_huProduct.f k (down l) (wrap64 (1 + v1))) v3 from h3) e)))), h4⟩
theorem hurwitz_ok (code : List Int) (hc : Bytes code) (at_ seed : Int) (h0 : 0 ≤ at_) (h1 : at_ ≤ 100) : ∃ l' a' b' at' seed', Ev (fun k => spec_l1Cur_hurwitz.f k code at_ seed) (l', a', b', at', seed') ∧ Four l' ∧ 0 ≤ at' ∧ at' ≤ 2000 := by
  unfold spec_l1Cur_hurwitz.f
  obtain ⟨v1, a1, s1, e1, _, _, _, _⟩ := pick_ok code hc at_ seed 4 h0 (by omega) (by decide)
  obtain ⟨v2, a2, s2, e2, _, _, _, _⟩ := pick_ok code hc a1 s1 3 (by omega) (by omega) (by decide)
  obtain ⟨v3, a3, s3, e3, _, _, _, _⟩ := pick_ok code hc a2 s2 2 (by omega) (by omega) (by decide)
  obtain ⟨v4, a4, s4, e4, _, _, _, _⟩ := pick_ok code hc a3 s3 6 (by omega) (by omega) (by decide)
  simp only [e1, e2, e3, e4, Option.bind_some]
  have f3 : ∀ x y z : Int, Four [x, y, z] := fun x y z => ⟨by simp, by simp⟩
  have f4 : ∀ x y z u : Int, Four [x, y, z, u] := fun x y z u => ⟨by simp, by simp⟩
  by_cases c0 : v4 = 0
  · simp only [c0, if_true]
    exact hurwitz_j1 code hc 3 0 [1, 1, 1] a4 s4 (f3 _ _ _) (by omega) (by omega)
  · by_cases c1 : v4 = 1
    · have c0' : ¬ (1 : Int) = 0 := by decide
      simp only [c1, c0', if_true, if_false]
      exact hurwitz_j1 code hc 4 0 [1, 1, 1, 1] a4 s4 (f4 _ _ _ _) (by omega) (by omega)
    · by_cases c2 : v4 = 2
      · have c0' : ¬ (2 : Int) = 0 := by decide
        have c1' : ¬ (2 : Int) = 1 := by decide
        simp only [c2, c0', c1', if_true, if_false]
        exact hurwitz_j1 code hc 1 0 [3, 3, 3] a4 s4 (f3 _ _ _) (by omega) (by omega)
      · by_cases c3 : v4 = 3
        · have c0' : ¬ (3 : Int) = 0 := by decide
          have c1' : ¬ (3 : Int) = 1 := by decide
          have c2' : ¬ (3 : Int) = 2 := by decide
          simp only [c3, c0', c1', c2', if_true, if_false]
          exact hurwitz_j1 code hc 1 0 [2, 2, 2, 2] a4 s4 (f4 _ _ _ _) (by omega) (by omega)
        · obtain ⟨v5, a5, s5, e5, _, _⟩ := one_ok code hc a4 s4 2 (by omega) (by omega) (by decide)
          simp only [c0, c1, c2, c3, if_false, e5, Option.bind_some]
          cases v5 with
          | false =>
            simp only [Bool.false_eq_true, if_false]
            exact hurwitz_j0 code hc _ a5 s5 (f3 _ _ _) (by omega) (by omega)
          | true =>
            have hlen : ([wrap64 (1 + v1), wrap64 (1 + v2), wrap64 (1 + v3)] : List Int).length < 17592186044416 := show 3 < 17592186044416 by decide
            simp only [if_true, hlen]
            exact hurwitz_j0 code hc _ a5 s5 (f4 _ _ _ _) (by omega) (by omega)
end Go.Proofs.Ytgpoljimomfbbaa.P

-- UhuJumpAt
namespace Go.Proofs.Ytgpoljimomfbbaa.P
set_option linter.unusedVariables false
set_option linter.unusedSimpArgs false
open Go.RowKit Go.Proofs.YtgpoljimomfbbaaW.PrintWords Go.Proofs.YtgpoljimomfbbaaW.PrintLast Go.Proofs.YtgpoljimomfbbaaW.PrintMore
def jumpAt (l : List Int) (a b i : Int) : List Int × Bool := if huSol l a b && decide (0 ≤ i ∧ i < l.length) then jumpOf l a i.toNat else ([], false)
theorem impl_JumpAt_ev (l : List Int) (a b i : Int) : Ev (fun k => impl_JumpAt.f k l a b i) (jumpAt l a b i) := by
  unfold impl_JumpAt.f jumpAt
  refine impl_tests l a b i ([], false) _ _ (fun hs h0 h1 => ?_) (fun h => by rw [h]; rfl)
  rw [hs, decide_eq_true ⟨h0, h1⟩]
  have hE := (jump_both (huSol_iff.1 hs).1 (huSol_iff.1 hs).2 i.toNat (by omega)).1
  rw [Int.toNat_of_nonneg h0] at hE
  exact Ev.bind hE (Ev.is rfl)
theorem jumpAt_length (l : List Int) (a b i : Int) : (jumpAt l a b i).1.length ≤ 4 := by
  unfold jumpAt
  cases h : huSol l a b && decide (0 ≤ i ∧ i < l.length) with
  | false => simp
  | true =>
    have h1 := (huIs_iff.1 (huSol_iff.1 (Bool.and_eq_true _ _ ▸ h).1).2).1
    simp only [if_true]
    unfold jumpOf
    split
    · rw [jmp_length]; omega
    · simp
end Go.Proofs.Ytgpoljimomfbbaa.P

-- UhuBack
namespace Go.Proofs.Ytgpoljimomfbbaa.P
set_option linter.unusedVariables false
set_option linter.unusedSimpArgs false
open Go.RowKit Go.Proofs.YtgpoljimomfbbaaW.PrintWords Go.Proofs.YtgpoljimomfbbaaW.PrintLast Go.Proofs.YtgpoljimomfbbaaW.PrintMore

def sm : List Int → Int
  | [] => 0
  | x :: l => x + sm l
theorem sm_perm {l m : List Int} (h : l.Perm m) : sm l = sm m := by
  induction h with
  | nil => rfl
  | cons x _ ih => simp only [sm, ih]
  | swap x y l => simp only [sm]; omega
  | trans _ _ h1 h2 => exact h1.trans h2
theorem sm_bd {l : List Int} (h : ∀ x ∈ l, 1 ≤ x ∧ x ≤ 100000) : 0 ≤ sm l ∧ sm l ≤ 100000 * (l.length : Int) := by
  induction l with
  | nil => simp [sm]
  | cons x l ih =>
    have h1 := h x (List.mem_cons_self)
    have h2 := ih (fun y hy => h y (List.mem_cons_of_mem _ hy))
    simp only [sm, List.length_cons]
    omega
theorem perm_erase (l : List Int) (i : Nat) (hi : i < l.length) : l.Perm (rd l (i : Int) :: l.eraseIdx i) := by
  induction l generalizing i with
  | nil => simp at hi
  | cons x l ih =>
    cases i with
    | zero => simp [rd]
    | succ i =>
      have h1 : i < l.length := by simpa using hi
      have h2 : rd (x :: l) ((i + 1 : Nat) : Int) = rd l (i : Int) := by rw [rd_lt _ _ hi, rd_lt _ _ h1, List.getElem_cons_succ]
      rw [h2, List.eraseIdx_cons_succ]
      exact (List.Perm.cons x (ih i h1)).trans (List.Perm.swap _ _ _)
theorem sm_erase (l : List Int) (i : Nat) (hi : i < l.length) : sm l = rd l (i : Int) + sm (l.eraseIdx i) := by
  rw [sm_perm (perm_erase l i hi)]
  rfl
theorem vSum_upto (l : List Int) (hl : ∀ x ∈ l, 1 ≤ x ∧ x ≤ 100000) (hn : l.length ≤ 1000000) (d : Nat) : ∀ (i : Nat) (s : Int), i + d = l.length → 0 ≤ s → s + 100000 * (d : Int) ≤ 9000000000000000000 → Ev (fun k => laws_vSum.l0 k s l (l.length : Int) (i : Int)) (s + sm (l.drop i)) := by
  induction d with
  | zero =>
    intro i s hid h0 h1
    refine Ev.step (f := fun _ => some s) (fun k => by simp only [laws_vSum.l0]; rw [if_neg (by omega)]) ?_
    rw [List.drop_eq_nil_of_le (by omega), sm, Int.add_zero]
    exact Ev.is rfl
  | succ d ih =>
    intro i s hid h0 h1
    have hx := hl _ (rd_mem (l := l) (i := i) (by omega))
    have w2 : wrap64 (s + rd l (i : Int)) = s + rd l (i : Int) := w64 (by omega) (by omega)
    refine Ev.step (f := fun k => laws_vSum.l0 k (s + rd l (i : Int)) l (l.length : Int) ((i + 1 : Nat) : Int)) (fun k => ?_) ?_
    · simp only [laws_vSum.l0]
      rw [if_pos (by omega), if_pos (by omega), if_pos (by omega), w2, w64_succ (n := l.length) (by omega) (by omega)]
    · rw [rd_drop l i (by omega), sm, ← Int.add_assoc]
      exact ih (i + 1) _ (by omega) (by omega) (by omega)
theorem vSum_ev (l : List Int) (hl : ∀ x ∈ l, 1 ≤ x ∧ x ≤ 100000) (hn : l.length ≤ 1000000) : Ev (fun k => laws_vSum.f k l) (sm l) := by
  unfold laws_vSum.f
  have h := vSum_upto l hl hn l.length 0 0 (by omega) (by omega) (by omega)
  rw [List.drop_zero, Int.zero_add] at h
  exact h
theorem vSame_upto (l : List Int) (hn : l.length ≤ 1000000) (d : Nat) : ∀ (i : Nat), i + d = l.length → Ev (fun k => laws_vSame.l0 k l l (l.length : Int) (i : Int)) true := by
  induction d with
  | zero =>
    intro i hid
    exact Ev.step (f := fun _ => some true) (fun k => by simp only [laws_vSame.l0]; rw [if_neg (by omega)]) (Ev.is rfl)
  | succ d ih =>
    intro i hid
    refine Ev.step (f := fun k => laws_vSame.l0 k l l (l.length : Int) ((i + 1 : Nat) : Int)) (fun k => ?_) (ih (i + 1) (by omega))
    simp only [laws_vSame.l0]
    rw [if_pos (by omega), if_pos (by omega), if_pos (by omega), if_pos (by omega), if_pos trivial, w64_succ (n := l.length) (by omega) (by omega)]
theorem vSame_ev (l : List Int) (hn : l.length ≤ 1000000) : Ev (fun k => laws_vSame.f k l l) true := by
  unfold laws_vSame.f
  simp only [if_true]
  exact vSame_upto l hn l.length 0 (by omega)

/-- Behind a jump the number that came in stands somewhere, and the jump at it leads back. -/
theorem jump_back {l : List Int} {a b : Int} {i : Nat} (hg : huGv a b = true) (hi : i < l.length) (h : huIs l a b = true) (ho : inB 1 100000 (oth l a i) = true) (k : Nat) (hk : k < (jmp l a i).length) (hv : rd (jmp l a i) (k : Int) = oth l a i) : jumpAt (jmp l a i) a b (k : Int) = (l, true) := by
  obtain ⟨h1, h2, h3, h4⟩ := huIs_iff.1 h
  have hi2 : i < (l.set i (oth l a i)).length := by rw [List.length_set]; exact hi
  have p1 : (jmp l a i).Perm (oth l a i :: l.eraseIdx i) := by
    have := (down_perm (l.set i (oth l a i))).trans (perm_erase _ i hi2)
    rw [rd_set l i _ hi, erase_set] at this
    exact this
  have p2 := perm_erase (jmp l a i) k hk
  rw [hv] at p2
  have p3 : ((jmp l a i).eraseIdx k).Perm (l.eraseIdx i) := (List.perm_cons _).1 (p2.symm.trans p1)
  have o1 : oth (jmp l a i) a k = rd l (i : Int) := by
    unfold oth at hv ⊢
    rw [prd_perm p3, hv]
    omega
  have hr := h2 _ (rd_mem hi)
  have hb : inB 1 100000 (oth (jmp l a i) a k) = true := by rw [o1]; exact inB_iff.2 hr
  have hj : jmp (jmp l a i) a k = l := by
    have hk2 : k < ((jmp l a i).set k (oth (jmp l a i) a k)).length := by rw [List.length_set]; exact hk
    have p4 := perm_erase _ k hk2
    rw [rd_set _ k _ hk, erase_set, o1] at p4
    have p5 : ((jmp l a i).set k (rd l (i : Int))).Perm l := p4.trans ((List.Perm.cons _ p3).trans (perm_erase l i hi).symm)
    have hd : l = down ((jmp l a i).set k (oth (jmp l a i) a k)) := by
      rw [o1]
      exact down_unique p5.symm ((falls_iff l).1 h3)
    exact hd.symm
  have hs : huSol (jmp l a i) a b = true := huSol_iff.2 ⟨hg, jmp_is hi h ho⟩
  unfold jumpAt jumpOf
  rw [hs, decide_eq_true (show (0 : Int) ≤ (k : Int) ∧ (k : Int) < ((jmp l a i).length : Int) from ⟨by omega, by omega⟩)]
  simp only [Bool.and_self, if_true, Int.toNat_natCast, hb, hj]
end Go.Proofs.Ytgpoljimomfbbaa.P

-- UhuLaw
namespace Go.Proofs.Ytgpoljimomfbbaa.P
set_option linter.unusedVariables false
set_option linter.unusedSimpArgs false
open Go.RowKit Go.Proofs.YtgpoljimomfbbaaW.PrintWords Go.Proofs.YtgpoljimomfbbaaW.PrintLast Go.Proofs.YtgpoljimomfbbaaW.PrintMore
theorem vSolves_ev (l : List Int) (a b : Int) : Ev (fun k => laws_vSolves.f k l a b) (huSol l a b) := by
  unfold laws_vSolves.f impl_IsHurwitz.f huSol
  cases hg : huGv a b with
  | false =>
    refine Ev.bind (a := (false, false)) (Ev.bind0 (areGiven_is a b) ?_) (Ev.is rfl)
    rw [hg]
    simp only [Bool.false_eq_true, if_false]
    exact Ev.is rfl
  | true =>
    refine Ev.bind (a := (huIs l a b, true)) (Ev.bind0 (areGiven_is a b) ?_) (Ev.is ?_)
    · rw [hg]
      simp only [if_true]
      exact Ev.bind (isHurwitz_ev l a b hg) (Ev.is rfl)
    · simp
theorem vSameLists_from (W : List (List Int)) (hn : W.length ≤ 1000000000) (hs : ∀ x ∈ W, x.length ≤ 1000000) (d : Nat) : ∀ i : Nat, i + d = W.length → Ev (fun k => laws_vSameLists.l0 k W W (W.length : Int) (i : Int)) true := by
  induction d with
  | zero =>
    intro i hi
    exact Ev.step (f := fun _ => some true) (fun k => by simp only [laws_vSameLists.l0]; rw [if_neg (by omega)]) (Ev.is rfl)
  | succ d ih =>
    intro i hi
    have hil : i < W.length := by omega
    have hr : rd_L1 W (i : Int) = W[i] := by
      unfold rd_L1
      rw [Int.toNat_natCast, List.getD_eq_getElem?_getD, List.getElem?_eq_getElem hil]
      rfl
    have hv := vSame_ev W[i] (hs _ (List.getElem_mem hil))
    refine Ev.step (f := fun k => (laws_vSame.f k W[i] W[i]).bind fun t => if t = true then laws_vSameLists.l0 k W W (W.length : Int) ((i + 1 : Nat) : Int) else some false) (fun k => ?_) (Ev.bind hv ?_)
    · simp only [laws_vSameLists.l0]
      rw [if_pos (by omega), if_pos (by omega), if_pos (by omega), if_pos (by omega), hr, w64_succ (n := W.length) (by omega) (by omega)]
    · simp only [if_true]
      exact ih (i + 1) (by omega)
theorem vSameLists_ev (W : List (List Int)) (hn : W.length ≤ 1000000000) (hs : ∀ x ∈ W, x.length ≤ 1000000) : Ev (fun k => laws_vSameLists.f k W W) true := by
  unfold laws_vSameLists.f
  simp only [if_true]
  exact vSameLists_from W hn hs W.length 0 (by omega)
end Go.Proofs.Ytgpoljimomfbbaa.P

-- UhuWay
namespace Go.Proofs.Ytgpoljimomfbbaa.P
set_option linter.unusedVariables false
set_option linter.unusedSimpArgs false
open Go.RowKit Go.Proofs.YtgpoljimomfbbaaW.PrintWords Go.Proofs.YtgpoljimomfbbaaW.PrintLast Go.Proofs.YtgpoljimomfbbaaW.PrintMore

/-- The sum. -/
def smm : List Int → Int
  | [] => 0
  | x :: l => x + smm l
theorem smm_perm {l m : List Int} (h : l.Perm m) : smm l = smm m := by
  induction h with
  | nil => rfl
  | cons x _ ih => simp only [smm, ih]
  | swap x y l => simp only [smm]; omega
  | trans _ _ h1 h2 => exact h1.trans h2
theorem smm_set (l : List Int) (y : Int) (h : 0 < l.length) : smm (l.set 0 y) = smm l - rd l 0 + y := by
  cases l with
  | nil => simp at h
  | cons x l => simp only [List.set_cons_zero, smm, rd]; simp; omega
theorem smm_bd {l : List Int} (h : ∀ x ∈ l, 1 ≤ x ∧ x ≤ 100000) : (l.length : Int) ≤ smm l ∧ smm l ≤ 100000 * (l.length : Int) := by
  induction l with
  | nil => simp [smm]
  | cons x l ih =>
    have h1 := h x (List.mem_cons_self)
    have h2 := ih (fun y hy => h y (List.mem_cons_of_mem _ hy))
    simp only [smm, List.length_cons]
    omega
def way (a : Int) : Nat → List Int → List (List Int)
  | 0, l => [l]
  | d + 1, l => if lastOf l a = true then [l] else l :: way a d (jmp l a 0)
/-- A step down. -/
theorem step_down {l : List Int} {a b : Int} (hg : huGv a b = true) (h : huIs l a b = true) (hl : lastOf l a = false) : inB 1 100000 (oth l a 0) = true ∧ smm (jmp l a 0) < smm l ∧ huIs (jmp l a 0) a b = true := by
  obtain ⟨h1, h2, h3, h4⟩ := huIs_iff.1 h
  have hr := h2 _ (rd_mem (l := l) (i := 0) (by omega))
  have hr0 : rd l ((0 : Nat) : Int) = rd l 0 := rfl
  unfold lastOf at hl
  have ho : inB 1 (rd l 0 - 1) (oth l a 0) = true := by simpa using hl
  have ho2 := inB_iff.1 ho
  have ho3 : inB 1 100000 (oth l a 0) = true := inB_iff.2 (by omega)
  refine ⟨ho3, ?_, jmp_is (by omega) h ho3⟩
  rw [jmp, smm_perm (down_perm _), smm_set l _ (by omega)]
  omega
theorem jumpOf_zero {l : List Int} {a : Int} (h : inB 1 100000 (oth l a 0) = true) : jumpOf l a 0 = (jmp l a 0, true) := by
  unfold jumpOf
  rw [if_pos h]
theorem way_both {a b : Int} (hg : huGv a b = true) (d : Nat) : ∀ (l : List Int) (o : List (List Int)), huIs l a b = true → smm l ≤ d → o.length + d ≤ 900000000 →
    Ev (fun k => spec_huDown.l0 k l a (o ++ [l])) (o ++ way a d l) ∧ Ev (fun k => impl_WayDown.l0 k l a (o ++ [l])) (o ++ way a d l, true) := by
  induction d with
  | zero =>
    intro l o h hs ho
    obtain ⟨h1, h2, h3, h4⟩ := huIs_iff.1 h
    have := smm_bd h2
    omega
  | succ d ih =>
    intro l o h hs ho
    obtain ⟨e1, e2⟩ := last_both hg h
    rw [way]
    cases hl : lastOf l a with
    | true =>
      rw [hl] at e1 e2
      simp only [if_true]
      constructor
      · refine Ev.step (fun k => by simp only [spec_huDown.l0]; rfl) (Ev.bind e2 ?_)
        simp only [if_true]
        exact Ev.is rfl
      · refine Ev.step (fun k => by simp only [impl_WayDown.l0]; rfl) (Ev.bind e1 ?_)
        simp only [if_true]
        exact Ev.is rfl
    | false =>
      rw [hl] at e1 e2
      obtain ⟨s1, s2, s3⟩ := step_down hg h hl
      have hn := (huIs_iff.1 h).1
      obtain ⟨j1, j2⟩ := jump_both hg h 0 (by omega)
      rw [jumpOf_zero s1] at j1 j2
      obtain ⟨r1, r2⟩ := ih (jmp l a 0) (o ++ [l]) s3 (by omega) (by rw [List.length_append, List.length_singleton]; omega)
      have hlen : (o ++ [l]).length < 1000000000 := by rw [List.length_append, List.length_singleton]; omega
      have happ : o ++ l :: way a d (jmp l a 0) = (o ++ [l]) ++ way a d (jmp l a 0) := by simp
      simp only [Bool.false_eq_true, if_false, happ]
      constructor
      · refine Ev.step (fun k => by simp only [spec_huDown.l0]; rfl) (Ev.bind e2 ?_)
        simp only [Bool.false_eq_true, if_false]
        refine Ev.bind j2 ?_
        simp only [hlen, if_true]
        exact r1
      · refine Ev.step (fun k => by simp only [impl_WayDown.l0]; rfl) (Ev.bind e1 ?_)
        simp only [Bool.false_eq_true, if_false]
        refine Ev.bind j1 (Ev.bind0 (clone_is _ ?_) ?_)
        · have := (huIs_iff.1 s3).1
          show (jmp l a 0).length < _
          omega
        · simp only [hlen, if_true]
          exact r2
/-- The whole way. -/
def wayOf (l : List Int) (a : Int) : List (List Int) := way a 400000 l
theorem huDown_ev {l : List Int} {a b : Int} (hg : huGv a b = true) (h : huIs l a b = true) : Ev (fun k => spec_huDown.f k l a) (wayOf l a) := by
  obtain ⟨h1, h2, h3, h4⟩ := huIs_iff.1 h
  have hs := smm_bd h2
  unfold spec_huDown.f
  refine Ev.bind0 (own_is l (by omega)) ?_
  exact (way_both hg 400000 l [] h (by omega) (by simp)).1
def wayAll (l : List Int) (a b : Int) : List (List Int) × Bool := if huSol l a b then (wayOf l a, true) else ([], false)
theorem WayDown_ev (l : List Int) (a b : Int) : Ev (fun k => impl_WayDown.f k l a b) (wayAll l a b) := by
  unfold impl_WayDown.f wayAll
  refine Ev.bind (isSolution_ev l a b) ?_
  cases hs : huSol l a b with
  | false =>
    simp only [Bool.false_eq_true, if_false]
    exact Ev.is rfl
  | true =>
    obtain ⟨hg, h⟩ := huSol_iff.1 hs
    obtain ⟨h1, h2, h3, h4⟩ := huIs_iff.1 h
    have hs := smm_bd h2
    simp only [if_true]
    refine Ev.bind0 (clone_is l (by omega)) ?_
    exact (way_both hg 400000 l [] h (by omega) (by simp)).2
theorem way_length (a : Int) (d : Nat) : ∀ l, 1 ≤ (way a d l).length ∧ (way a d l).length ≤ d + 1 := by
  induction d with
  | zero => intro l; simp [way]
  | succ d ih =>
    intro l
    rw [way]
    have := ih (jmp l a 0)
    split
    · simp
    · simp only [List.length_cons]; omega
theorem way_head (a : Int) (d : Nat) (l : List Int) : (way a d l)[0]? = some l := by
  cases d with
  | zero => rfl
  | succ d => rw [way]; split <;> rfl
/-- Each but the first is behind a jump at 0 from the one before. -/
theorem way_steps {a b : Int} (hg : huGv a b = true) (d : Nat) : ∀ l, huIs l a b = true → ∀ i x, (way a d l)[i]? = some x → huIs x a b = true ∧ ∀ y, (way a d l)[i + 1]? = some y → inB 1 100000 (oth x a 0) = true ∧ y = jmp x a 0 := by
  induction d with
  | zero =>
    intro l h i x hx
    rw [way] at hx ⊢
    cases i with
    | zero =>
      obtain rfl : l = x := by simpa using hx
      exact ⟨h, fun y hy => by simp at hy⟩
    | succ i => simp at hx
  | succ d ih =>
    intro l h i x hx
    rw [way] at hx ⊢
    cases hl : lastOf l a with
    | true =>
      rw [hl] at hx
      simp only [if_true] at hx ⊢
      cases i with
      | zero =>
        obtain rfl : l = x := by simpa using hx
        exact ⟨h, fun y hy => by simp at hy⟩
      | succ i => simp at hx
    | false =>
      rw [hl] at hx
      simp only [Bool.false_eq_true, if_false] at hx ⊢
      obtain ⟨s1, s2, s3⟩ := step_down hg h hl
      cases i with
      | zero =>
        obtain rfl : l = x := by simpa using hx
        refine ⟨h, fun y hy => ?_⟩
        rw [List.getElem?_cons_succ, way_head] at hy
        exact ⟨s1, by simpa using hy.symm⟩
      | succ i =>
        rw [List.getElem?_cons_succ] at hx
        obtain ⟨q1, q2⟩ := ih (jmp l a 0) s3 i x hx
        exact ⟨q1, fun y hy => q2 y (by rw [List.getElem?_cons_succ] at hy; exact hy)⟩
end Go.Proofs.Ytgpoljimomfbbaa.P

-- PFspecWayDown
namespace Go.Proofs.Ytgpoljimomfbbaa.P
open Go.RowKit Go.Proofs.YtgpoljimomfbbaaW.PrintWords Go.Proofs.YtgpoljimomfbbaaW.PrintLast
set_option linter.unusedVariables false
set_option linter.unusedSimpArgs false

/-! ### spec_WayDown: function 35 -/
def spec_WayDown.f (k : Nat) (l0 : List Int) (a1 : Int) (a2 : Int) : Option ((List (List Int)) × Bool) := (spec_huGiven.f a1 a2).bind fun t563 => (if t563 = true then ((spec_huGood.f k l0 a1 a2).bind fun t564 => (if t564 = true then ((spec_huDown.f k l0 a1).bind fun t565 => (some (t565, true))) else (some (([] : List (List Int)), false)))) else (some (([] : List (List Int)), false)))
theorem spec_WayDown.mono : ∀ a0 a1 a2 k, LeO (spec_WayDown.f k a0 a1 a2) (spec_WayDown.f (k + 1) a0 a1 a2) := by
 intro a0 a1 a2 k
 unfold spec_WayDown.f
 repeat' first
   | (with_reducible exact spec_huDown.mono _ _ _)
   | (with_reducible exact spec_huGood.mono _ _ _ _)
   | (with_reducible exact LeO.refl _)
   | (with_reducible exact LeO.none _)
   | (with_reducible refine LeO.ite ?_ ?_)
   | (with_reducible refine LeO.bind ?_ (fun _ => ?_))
   | exact spec_huDown.mono _ _ _
   | exact spec_huGood.mono _ _ _ _
   | exact LeO.none _
   | refine LeO.ite ?_ ?_
   | refine LeO.bind ?_ (fun _ => ?_)
set_option maxHeartbeats 8000000 in
set_option maxRecDepth 100000 in
theorem spec_WayDown.calls (k : Nat) (A0 : Option Addr) (c0 : Nat) (l0 : List Int) (a1 : Int) (a2 : Int) (r1 : List (List Int)) (r2 : Bool) (w : World) (hr0 : Kd.C (Kd.int .i64) w A0 l0.length l0) (hc0 : l0.length ≤ c0) (h : spec_WayDown.f k l0 a1 a2 = some (r1, r2)) :
  Calls Try.prog 35 #[.slice A0 l0.length c0, .int .i64 a1, .int .i64 a2] w fun e w' => ∃ v0_ : Value, e = .returned (.tuple #[v0_, .bool r2]) ∧ Kd.S (Kd.slice 3 (Kd.int .i64)) 22 w' w.heap.size (fun _ => True) v0_ r1 ∧ Below w.heap.size w w' := by
 have HR0 := Aside0.mk hr0
 have HC0 := Aside0.mk hc0
 clear hr0 hc0
 have HB := Aside0.mk (Below.refl w.heap.size w)
 have H : ((spec_huGiven.f a1 a2).bind fun t563 => (if t563 = true then ((spec_huGood.f k l0 a1 a2).bind fun t564 => (if t564 = true then ((spec_huDown.f k l0 a1).bind fun t565 => (some (t565, true))) else (some (([] : List (List Int)), false)))) else (some (([] : List (List Int)), false)))) = some (r1, r2) := h
 clear h
 replace H := Option.bind_eq_some_iff.mp H
 obtain ⟨t563, A40, H⟩ := H
 replace H : (if t563 = true then ((spec_huGood.f k l0 a1 a2).bind fun t564 => (if t564 = true then ((spec_huDown.f k l0 a1).bind fun t565 => (some (t565, true))) else (some (([] : List (List Int)), false)))) else (some (([] : List (List Int)), false))) = some (r1, r2) := H
 have A4 := Aside0.mk A40
 clear A40
 by_cases c5 : t563 = true
 ·subst c5
  have H1 : ((spec_huGood.f k l0 a1 a2).bind fun t564 => (if t564 = true then ((spec_huDown.f k l0 a1).bind fun t565 => (some (t565, true))) else (some (([] : List (List Int)), false)))) = some (r1, r2) := by rw [if_pos rfl] at H; exact H
  clear H
  have H := H1
  clear H1
  replace H := Option.bind_eq_some_iff.mp H
  obtain ⟨t564, A60, H⟩ := H
  replace H : (if t564 = true then ((spec_huDown.f k l0 a1).bind fun t565 => (some (t565, true))) else (some (([] : List (List Int)), false))) = some (r1, r2) := H
  have A6 := Aside0.mk A60
  clear A60
  by_cases c7 : t564 = true
  ·subst c7
   have H1 : ((spec_huDown.f k l0 a1).bind fun t565 => (some (t565, true))) = some (r1, r2) := by rw [if_pos rfl] at H; exact H
   clear H
   have H := H1
   clear H1
   replace H := Option.bind_eq_some_iff.mp H
   obtain ⟨t565, A80, H⟩ := H
   replace H : (some (t565, true)) = some (r1, r2) := H
   have A8 := Aside0.mk A80
   clear A80
   simp only [Option.some.injEq, Prod.mk.injEq] at H
   obtain ⟨rfl, rfl⟩ := H
   go_enter Try.func35, Try.ntmps35
   go_wp2_with (first | ((with_reducible refine gate_callee (f := 47) rfl ?_); refine goesL_ (some 10) rfl rfl Try.func47 (by kernel_rfl) rfl #[.int .i64 a1, .int .i64 a2] rfl (by (try simp only [List.map_toArray, List.map_cons, List.map_nil]); first | done | rfl | (simp only [List.length_drop, List.length_take]; rfl)) ?_; (with_reducible refine (spec_huGiven.calls a1 a2 true _ A4.out).mono ?_); rintro e w' ⟨rfl, ⟨nd, rfl⟩⟩; refine ⟨_, rfl, ?_⟩) | (go_at_call 48; (with_reducible refine (spec_huGood.calls k _ _ l0 a1 a2 true _ ?side1 ?side2 A6.out).mono ?_); (case side1 => repeat (first | exact HR0.out | (with_reducible refine Kd.C_alloc ?_ _) | (with_reducible refine Kd.C_drewN ?_ _) | (with_reducible refine Kd.C_drew ?_))); (case side2 => exact HC0.out); rintro e w' ⟨rfl, ⟨nd, rfl⟩⟩) | ((with_reducible refine gate_callee (f := 77) rfl ?_); refine goesL_ (some 21) rfl rfl Try.func77 (by kernel_rfl) rfl #[.slice A0 l0.length c0, .int .i64 a1] rfl (by (try simp only [List.map_toArray, List.map_cons, List.map_nil]); first | done | rfl | (simp only [List.length_drop, List.length_take]; rfl)) ?_; (with_reducible refine (spec_huDown.calls k _ _ l0 a1 t565 _ ?side1 ?side2 A8.out).mono ?_); (case side1 => repeat (first | exact HR0.out | (with_reducible refine Kd.C_alloc ?_ _) | (with_reducible refine Kd.C_drewN ?_ _) | (with_reducible refine Kd.C_drew ?_))); (case side2 => exact HC0.out); rintro e w9 ⟨v566, rfl, ho0, hb⟩; refine ⟨_, rfl, ?_⟩; have n0_ := Aside0.mk (Kd.S_lower ho0 (below_size (by repeat (first | (with_reducible first | exact HB.out | apply below_alloc | apply pw_below_drewN | apply below_drew1) | exact HB.out)))); have n1_ := Aside0.mk (below_step (by repeat (first | (with_reducible first | exact HB.out | apply below_alloc | apply pw_below_drewN | apply below_drew1) | exact HB.out)) hb); clear HB; have HO567 := n0_; have HB := n1_; clear n0_ n1_; (try clear hb); (try clear hb2); (try clear hk); (try clear hi); (try clear ho0)))
   go_ret2
   exact ⟨_, by first | rfl | (simp [errW_none, errW_some] <;> rfl) | (simp [*, errW_none, errW_some] <;> rfl), by (with_reducible repeat (first | apply Kd.S_alloc | apply Kd.S_drewN | apply Kd.S_drew)); exact HO567.out, by repeat (first | (with_reducible first | exact HB.out | apply below_alloc | apply pw_below_drewN | apply below_drew1) | exact HB.out)⟩
  ·replace c7 := Bool.eq_false_iff.mpr c7
   subst c7
   have H1 : (some (([] : List (List Int)), false)) = some (r1, r2) := by rw [if_neg (show ¬ (false = true) by decide)] at H; exact H
   clear H
   have H := H1
   clear H1
   simp only [Option.some.injEq, Prod.mk.injEq] at H
   obtain ⟨rfl, rfl⟩ := H
   go_enter Try.func35, Try.ntmps35
   go_wp2_with (first | ((with_reducible refine gate_callee (f := 47) rfl ?_); refine goesL_ (some 10) rfl rfl Try.func47 (by kernel_rfl) rfl #[.int .i64 a1, .int .i64 a2] rfl (by (try simp only [List.map_toArray, List.map_cons, List.map_nil]); first | done | rfl | (simp only [List.length_drop, List.length_take]; rfl)) ?_; (with_reducible refine (spec_huGiven.calls a1 a2 true _ A4.out).mono ?_); rintro e w' ⟨rfl, ⟨nd, rfl⟩⟩; refine ⟨_, rfl, ?_⟩) | (go_at_call 48; (with_reducible refine (spec_huGood.calls k _ _ l0 a1 a2 false _ ?side1 ?side2 A6.out).mono ?_); (case side1 => repeat (first | exact HR0.out | (with_reducible refine Kd.C_alloc ?_ _) | (with_reducible refine Kd.C_drewN ?_ _) | (with_reducible refine Kd.C_drew ?_))); (case side2 => exact HC0.out); rintro e w' ⟨rfl, ⟨nd, rfl⟩⟩))
   go_ret2
   exact ⟨_, by first | rfl | (simp [errW_none, errW_some] <;> rfl) | (simp [*, errW_none, errW_some] <;> rfl), by first | exact Kd.S_nil _ _ _ _ _ | exact Kd.N_nil _ _ _ _ _ | exact Kd.V_nil _ _ _ _ _ | exact Kd.Q_nil _ _ _ _ _ | exact Kd.R_nil _ _ _ _ _, by repeat (first | (with_reducible first | exact HB.out | apply below_alloc | apply pw_below_drewN | apply below_drew1) | exact HB.out)⟩
 ·replace c5 := Bool.eq_false_iff.mpr c5
  subst c5
  have H1 : (some (([] : List (List Int)), false)) = some (r1, r2) := by rw [if_neg (show ¬ (false = true) by decide)] at H; exact H
  clear H
  have H := H1
  clear H1
  simp only [Option.some.injEq, Prod.mk.injEq] at H
  obtain ⟨rfl, rfl⟩ := H
  go_enter Try.func35, Try.ntmps35
  go_wp2_with (first | ((with_reducible refine gate_callee (f := 47) rfl ?_); refine goesL_ (some 10) rfl rfl Try.func47 (by kernel_rfl) rfl #[.int .i64 a1, .int .i64 a2] rfl (by (try simp only [List.map_toArray, List.map_cons, List.map_nil]); first | done | rfl | (simp only [List.length_drop, List.length_take]; rfl)) ?_; (with_reducible refine (spec_huGiven.calls a1 a2 false _ A4.out).mono ?_); rintro e w' ⟨rfl, ⟨nd, rfl⟩⟩; refine ⟨_, rfl, ?_⟩))
  go_ret2
  exact ⟨_, by first | rfl | (simp [errW_none, errW_some] <;> rfl) | (simp [*, errW_none, errW_some] <;> rfl), by first | exact Kd.S_nil _ _ _ _ _ | exact Kd.N_nil _ _ _ _ _ | exact Kd.V_nil _ _ _ _ _ | exact Kd.Q_nil _ _ _ _ _ | exact Kd.R_nil _ _ _ _ _, by repeat (first | (with_reducible first | exact HB.out | apply below_alloc | apply pw_below_drewN | apply below_drew1) | exact HB.out)⟩

end Go.Proofs.Ytgpoljimomfbbaa.P

-- UhuFund
namespace Go.Proofs.Ytgpoljimomfbbaa.P
set_option linter.unusedVariables false
set_option linter.unusedSimpArgs false
open Go.RowKit Go.Proofs.YtgpoljimomfbbaaW.PrintWords Go.Proofs.YtgpoljimomfbbaaW.PrintLast Go.Proofs.YtgpoljimomfbbaaW.PrintMore
theorem spec_WayDown_ev (l : List Int) (a b : Int) (hn : l.length ≤ 4611686018427387904) : Ev (fun k => spec_WayDown.f k l a b) (wayAll l a b) := by
  unfold spec_WayDown.f wayAll huSol
  refine Ev.bind0 (huGiven_is a b) ?_
  cases hg : huGv a b with
  | false =>
    simp only [Bool.false_eq_true, if_false, Bool.false_and]
    exact Ev.is rfl
  | true =>
    simp only [if_true, Bool.true_and]
    refine Ev.bind (huGood_ev l a b hg hn) ?_
    cases hs : huIs l a b with
    | false =>
      simp only [Bool.false_eq_true, if_false]
      exact Ev.is rfl
    | true =>
      simp only [if_true]
      exact Ev.bind (huDown_ev hg hs) (Ev.is rfl)
def fundOf (l : List Int) (a b : Int) : List Int × Bool := if huSol l a b then (rd_L1 (wayOf l a) (((wayOf l a).length : Int) - 1), true) else ([], false)
theorem FundamentalOf_ev (l : List Int) (a b : Int) : Ev (fun k => impl_FundamentalOf.f k l a b) (fundOf l a b) := by
  have hl := way_length a 400000 l
  have hl2 : (wayOf l a).length = (way a 400000 l).length := rfl
  have hw : wrap64 (((wayOf l a).length : Int) - 1) = ((wayOf l a).length : Int) - 1 := w64 (by omega) (by omega)
  have c1 : 0 ≤ ((wayOf l a).length : Int) - 1 := by omega
  have c2 : ((wayOf l a).length : Int) - 1 < ((wayOf l a).length : Int) := by omega
  unfold impl_FundamentalOf.f fundOf
  refine Ev.bind (WayDown_ev l a b) ?_
  unfold wayAll
  cases hs : huSol l a b with
  | false =>
    simp only [Bool.false_eq_true, if_false]
    exact Ev.is rfl
  | true =>
    simp only [if_true, hw, c1, c2]
    exact Ev.is rfl
theorem fund_length (l : List Int) (a b : Int) : (fundOf l a b).1.length ≤ 4 := by
  unfold fundOf
  cases hs : huSol l a b with
  | false => simp
  | true =>
    obtain ⟨hg, h⟩ := huSol_iff.1 hs
    have hl := way_length a 400000 l
    have hl2 : (wayOf l a).length = (way a 400000 l).length := rfl
    simp only [if_true]
    unfold rd_L1
    have hi : (((wayOf l a).length : Int) - 1).toNat < (wayOf l a).length := by omega
    rw [List.getD_eq_getElem?_getD, List.getElem?_eq_getElem hi]
    have := (way_steps hg 400000 l h _ _ (List.getElem?_eq_getElem hi)).1
    exact (huIs_iff.1 this).1.2
end Go.Proofs.Ytgpoljimomfbbaa.P

-- UhuClimb
namespace Go.Proofs.Ytgpoljimomfbbaa.P
set_option linter.unusedVariables false
set_option linter.unusedSimpArgs false
open Go.RowKit Go.Proofs.YtgpoljimomfbbaaW.PrintWords Go.Proofs.YtgpoljimomfbbaaW.PrintLast Go.Proofs.YtgpoljimomfbbaaW.PrintMore
def climb (a : Int) : List Int → List Int → List Int × Bool
  | l, [] => (l, true)
  | l, i :: word => if (jumpOf l a i.toNat).2 then climb a (jumpOf l a i.toNat).1 word else ([], false)
def climbOf (l : List Int) (a b : Int) (word : List Int) : List Int × Bool :=
  if huSol l a b && (decide (word.length ≤ 40) && word.all (inB 0 ((l.length : Int) - 1))) then climb a l word else ([], false)
theorem jumpOf_is {l : List Int} {a b : Int} {i : Nat} (hi : i < l.length) (h : huIs l a b = true) (hj : (jumpOf l a i).2 = true) : huIs (jumpOf l a i).1 a b = true ∧ (jumpOf l a i).1.length = l.length := by
  unfold jumpOf at hj ⊢
  cases ho : inB 1 100000 (oth l a i) with
  | false => rw [ho] at hj; simp at hj
  | true =>
    simp only [if_true]
    exact ⟨jmp_is hi h ho, jmp_length l a i⟩
theorem climb_length {a b : Int} (word : List Int) : ∀ l : List Int, huIs l a b = true → (∀ i ∈ word, 0 ≤ i ∧ i ≤ (l.length : Int) - 1) → (climb a l word).1.length ≤ 4 := by
  induction word with
  | nil =>
    intro l h hw
    have := (huIs_iff.1 h).1
    simp only [climb]
    omega
  | cons i word ih =>
    intro l h hw
    have hi := hw i List.mem_cons_self
    rw [climb]
    cases hj : (jumpOf l a i.toNat).2 with
    | false => simp
    | true =>
      simp only [if_true]
      have hh := jumpOf_is (i := i.toNat) (by omega) h hj
      exact ih _ hh.1 (fun x hx => by rw [hh.2]; exact hw x (List.mem_cons_of_mem _ hx))
theorem climb_upto {a b : Int} (hg : huGv a b = true) (word : List Int) (hn : word.length ≤ 1000000) (d : Nat) : ∀ (i : Nat) (l : List Int), i + d = word.length → huIs l a b = true → (∀ x ∈ word, 0 ≤ x ∧ x ≤ (l.length : Int) - 1) →
    Ev (fun k => impl_ClimbHurwitz.l0 k a l word (word.length : Int) (i : Int)) (climb a l (word.drop i)) ∧ Ev (fun k => spec_ClimbHurwitz.l0 k a l word (word.length : Int) (i : Int)) (climb a l (word.drop i)) := by
  induction d with
  | zero =>
    intro i l hid h hw
    rw [List.drop_eq_nil_of_le (by omega), climb]
    exact ⟨Ev.step (f := fun _ => some (l, true)) (fun k => by simp only [impl_ClimbHurwitz.l0]; rw [if_neg (by omega)]) (Ev.is rfl),
      Ev.step (f := fun _ => some (l, true)) (fun k => by simp only [spec_ClimbHurwitz.l0]; rw [if_neg (by omega)]) (Ev.is rfl)⟩
  | succ d ih =>
    intro i l hid h hw
    have hx := hw _ (rd_mem (l := word) (i := i) (by omega))
    have hlt : (rd word (i : Int)).toNat < l.length := by omega
    obtain ⟨e1, e2⟩ := jump_both hg h (rd word (i : Int)).toNat hlt
    rw [Int.toNat_of_nonneg hx.1] at e1 e2
    rw [rd_drop word i (by omega), climb]
    have key : ∀ (g : Nat → Option (List Int × Bool)), ((jumpOf l a (rd word (i : Int)).toNat).2 = true → Ev g (climb a (jumpOf l a (rd word (i : Int)).toNat).1 (word.drop (i + 1)))) →
        Ev (fun k => if (jumpOf l a (rd word (i : Int)).toNat).2 = true then g k else some ([], false)) (if (jumpOf l a (rd word (i : Int)).toNat).2 then climb a (jumpOf l a (rd word (i : Int)).toNat).1 (word.drop (i + 1)) else ([], false)) := by
      intro g hgood
      cases hj : (jumpOf l a (rd word (i : Int)).toNat).2 with
      | false =>
        simp only [Bool.false_eq_true, if_false]
        exact Ev.is rfl
      | true =>
        simp only [if_true]
        exact hgood hj
    constructor
    · refine Ev.step (f := fun k => (impl_jump.f k l a (rd word (i : Int))).bind fun bt => if bt.2 = true then impl_ClimbHurwitz.l0 k a bt.1 word (word.length : Int) ((i + 1 : Nat) : Int) else some ([], false)) (fun k => ?_) (Ev.bind e1 (key _ (fun hj => ?_)))
      · simp only [impl_ClimbHurwitz.l0]
        rw [if_pos (by omega), if_pos (by omega), if_pos (by omega), w64_succ (n := word.length) (by omega) (by omega)]
      · have hh := jumpOf_is hlt h hj
        exact (ih (i + 1) _ (by omega) hh.1 (fun x hx => by rw [hh.2]; exact hw x hx)).1
    · refine Ev.step (f := fun k => (spec_huJump.f k l a (rd word (i : Int))).bind fun bt => if bt.2 = true then spec_ClimbHurwitz.l0 k a bt.1 word (word.length : Int) ((i + 1 : Nat) : Int) else some ([], false)) (fun k => ?_) (Ev.bind e2 (key _ (fun hj => ?_)))
      · simp only [spec_ClimbHurwitz.l0]
        rw [if_pos (by omega), if_pos (by omega), if_pos (by omega), w64_succ (n := word.length) (by omega) (by omega)]
      · have hh := jumpOf_is hlt h hj
        exact (ih (i + 1) _ (by omega) hh.1 (fun x hx => by rw [hh.2]; exact hw x hx)).2
theorem climb_both (l : List Int) (a b : Int) (word : List Int) (hl : l.length ≤ 4611686018427387904) (hn : word.length ≤ 4611686018427387904) :
    Ev (fun k => impl_ClimbHurwitz.f k l a b word) (climbOf l a b word) ∧ Ev (fun k => spec_ClimbHurwitz.f k l a b word) (climbOf l a b word) := by
  unfold impl_ClimbHurwitz.f spec_ClimbHurwitz.f climbOf
  have ni : Ev (fun k => impl_ClimbHurwitz.j0 k l a word true) ([], false) := Ev.step (f := fun _ => some ([], false)) (fun k => by simp only [impl_ClimbHurwitz.j0, if_true]) (Ev.is rfl)
  have ns : Ev (fun k => spec_ClimbHurwitz.j0 k l a word true) ([], false) := Ev.step (f := fun _ => some ([], false)) (fun k => by simp only [spec_ClimbHurwitz.j0, if_true]) (Ev.is rfl)
  have hboth : ∀ hs : huSol l a b = true, (Ev (fun k => if (word.length : Int) > 40 then impl_ClimbHurwitz.j0 k l a word true else (impl_allWithin.f word 0 (wrap64 ((l.length : Int) - 1))).bind fun t394 => impl_ClimbHurwitz.j0 k l a word (!t394)) (if decide (word.length ≤ 40) && word.all (inB 0 ((l.length : Int) - 1)) then climb a l word else ([], false))) ∧
      (Ev (fun k => if (word.length : Int) > 40 then spec_ClimbHurwitz.j0 k l a word true else (spec_l1All.f k word 0 (wrap64 ((l.length : Int) - 1))).bind fun t394 => spec_ClimbHurwitz.j0 k l a word (!t394)) (if decide (word.length ≤ 40) && word.all (inB 0 ((l.length : Int) - 1)) then climb a l word else ([], false))) := by
    intro hs
    have h1 := (huIs_iff.1 (huSol_iff.1 hs).2).1
    rw [w64 (x := (l.length : Int) - 1) (by omega) (by omega)]
    by_cases h40 : (word.length : Int) > 40
    · have h5 : decide (word.length ≤ 40) = false := decide_eq_false (by omega)
      simp only [h40, h5, if_true, Bool.false_and, Bool.false_eq_true, if_false]
      exact ⟨ni, ns⟩
    · have h5 : decide (word.length ≤ 40) = true := decide_eq_true (by omega)
      simp only [h40, h5, if_false, Bool.true_and]
      have hA : impl_allWithin.f word 0 ((l.length : Int) - 1) = some (word.all (inB 0 ((l.length : Int) - 1))) := rfl
      have hS := l1All_ev word 0 ((l.length : Int) - 1) hn
      cases hw : word.all (inB 0 ((l.length : Int) - 1)) with
      | false =>
        rw [hw] at hA hS
        simp only [Bool.false_eq_true, if_false]
        exact ⟨Ev.bind0 hA ni, Ev.bind hS ns⟩
      | true =>
        rw [hw] at hA hS
        simp only [if_true]
        have hc := climb_upto (huSol_iff.1 hs).1 word (by omega) word.length 0 l (by omega) (huSol_iff.1 hs).2 (all_iff.1 hw)
        rw [List.drop_zero] at hc
        refine ⟨Ev.bind0 hA (Ev.step (f := fun k => (slices_Clone_int_int.f l).bind fun t395 => impl_ClimbHurwitz.l0 k a t395 word (word.length : Int) 0) (fun k => by simp only [impl_ClimbHurwitz.j0, Bool.not_true, Bool.false_eq_true, if_false]) (Ev.bind0 (clone_is l (by omega)) hc.1)),
          Ev.bind hS (Ev.step (f := fun k => (spec_l1Own.f l).bind fun t395 => spec_ClimbHurwitz.l0 k a t395 word (word.length : Int) 0) (fun k => by simp only [spec_ClimbHurwitz.j0, Bool.not_true, Bool.false_eq_true, if_false]) (Ev.bind0 (own_is l (by omega)) hc.2))⟩
  constructor
  · refine Ev.bind (isSolution_ev l a b) ?_
    cases hs : huSol l a b with
    | false =>
      simp only [Bool.false_eq_true, if_false, Bool.false_and]
      exact ni
    | true =>
      simp only [if_true, Bool.true_and]
      exact (hboth hs).1
  · refine Ev.bind0 (huGiven_is a b) ?_
    unfold huSol
    cases hg : huGv a b with
    | false =>
      simp only [Bool.false_eq_true, if_false, Bool.false_and]
      exact ns
    | true =>
      simp only [if_true, Bool.true_and]
      refine Ev.bind (huGood_ev l a b hg hl) ?_
      cases hs : huIs l a b with
      | false =>
        simp only [Bool.false_eq_true, if_false, Bool.false_and]
        exact ns
      | true =>
        simp only [if_true, Bool.true_and]
        exact (hboth (by simp [huSol, hg, hs])).2
theorem climbOf_length (l : List Int) (a b : Int) (word : List Int) : (climbOf l a b word).1.length ≤ 4 := by
  unfold climbOf
  cases h : huSol l a b && (decide (word.length ≤ 40) && word.all (inB 0 ((l.length : Int) - 1))) with
  | false => simp
  | true =>
    simp only [Bool.and_eq_true] at h
    simp only [if_true]
    exact climb_length word l (huSol_iff.1 h.1).2 (all_iff.1 h.2.2)
end Go.Proofs.Ytgpoljimomfbbaa.P

-- UhuRoot
namespace Go.Proofs.Ytgpoljimomfbbaa.P
set_option linter.unusedVariables false
set_option linter.unusedSimpArgs false
open Go.RowKit Go.Proofs.YtgpoljimomfbbaaW.PrintWords Go.Proofs.YtgpoljimomfbbaaW.PrintLast Go.Proofs.YtgpoljimomfbbaaW.PrintMore
theorem way_fuel {a b : Int} (hg : huGv a b = true) (d : Nat) : ∀ (e : Nat) (l : List Int), huIs l a b = true → smm l ≤ d → smm l ≤ e → way a d l = way a e l := by
  induction d with
  | zero =>
    intro e l h h1 h2
    obtain ⟨g1, g2, g3, g4⟩ := huIs_iff.1 h
    have := smm_bd g2
    omega
  | succ d ih =>
    intro e l h h1 h2
    obtain ⟨g1, g2, g3, g4⟩ := huIs_iff.1 h
    have hb := smm_bd g2
    cases e with
    | zero => omega
    | succ e =>
      rw [way, way]
      cases hl : lastOf l a with
      | true => rfl
      | false =>
        obtain ⟨s1, s2, s3⟩ := step_down hg h hl
        simp only [Bool.false_eq_true, if_false]
        rw [ih e (jmp l a 0) s3 (by omega) (by omega)]
theorem last_cons (x : List Int) (W : List (List Int)) (h : 1 ≤ W.length) : rd_L1 (x :: W) (((x :: W).length : Int) - 1) = rd_L1 W ((W.length : Int) - 1) := by
  unfold rd_L1
  have e1 : (((x :: W).length : Int) - 1).toNat = (((W.length : Int) - 1).toNat) + 1 := by rw [List.length_cons]; omega
  rw [e1, List.getD_cons_succ]
theorem fund_step {l : List Int} {a b : Int} (hg : huGv a b = true) (h : huIs l a b = true) (hl : lastOf l a = false) : fundOf (jmp l a 0) a b = fundOf l a b := by
  obtain ⟨s1, s2, s3⟩ := step_down hg h hl
  obtain ⟨g1, g2, g3, g4⟩ := huIs_iff.1 h
  have hb := smm_bd g2
  have k1 : huSol l a b = true := huSol_iff.2 ⟨hg, h⟩
  have k2 : huSol (jmp l a 0) a b = true := huSol_iff.2 ⟨hg, s3⟩
  have hw : wayOf l a = l :: wayOf (jmp l a 0) a := by
    have e : way a (399999 + 1) l = l :: way a 399999 (jmp l a 0) := by rw [way, hl]; rfl
    have e2 := way_fuel hg 399999 400000 (jmp l a 0) s3 (by omega) (by omega)
    rw [e2] at e
    exact e
  have hwl := (way_length a 400000 (jmp l a 0)).1
  have hwl2 : (wayOf (jmp l a 0) a).length = (way a 400000 (jmp l a 0)).length := rfl
  unfold fundOf
  rw [k1, k2, if_pos rfl, if_pos rfl, hw, last_cons _ _ (by omega)]
theorem sqs_least {l : List Int} (h : ∀ x ∈ l, 1 ≤ x) : (l.length : Int) ≤ sqs l := by
  induction l with
  | nil => simp [sqs]
  | cons x l ih =>
    have h1 := h x List.mem_cons_self
    have h2 := ih (fun y hy => h y (List.mem_cons_of_mem _ hy))
    have h3 : 1 ≤ x * x := by
      have := Int.mul_le_mul h1 h1 (by omega) (by omega)
      omega
    simp only [sqs, List.length_cons]
    omega
theorem rd_first {l : List Int} (h : falls l = true) : ∀ x ∈ l, x ≤ rd l 0 := by
  intro x hx
  have hp := (falls_iff l).1 h
  cases l with
  | nil => simp at hx
  | cons y l =>
    rw [List.pairwise_cons] at hp
    have e : rd (y :: l) 0 = y := rfl
    rw [e]
    rcases List.mem_cons.1 hx with rfl | hx
    · exact Int.le_refl _
    · exact hp.1 x hx
theorem big_other {l : List Int} {a : Int} (h : huIs l a 0 = true) (i : Nat) (hi : i + 1 < l.length) : rd l 0 < oth l a (i + 1) := by
  obtain ⟨h1, h2, h3, h4⟩ := huIs_iff.1 h
  have hx := h2 _ (rd_mem hi)
  have hle := rd_first h3 _ (rd_mem hi)
  have q1 := sqs_mem l (i + 1) hi
  have q2 := prd_erase l (i + 1) hi
  have hs : rd l 0 * rd l 0 < sqs (l.eraseIdx (i + 1)) := by
    cases l with
    | nil => simp at hi
    | cons x l =>
      have e : rd (x :: l) 0 = x := rfl
      rw [e, List.eraseIdx_cons_succ, sqs]
      have := sqs_least (l := l.eraseIdx i) (fun y hy => (h2 y (List.mem_cons_of_mem _ (List.mem_of_mem_eraseIdx hy))).1)
      have hl : (l.eraseIdx i).length = l.length - 1 := by rw [List.length_eraseIdx_of_lt (by simpa using hi)]
      simp only [List.length_cons] at h1
      omega
  have hy : rd l ((i + 1 : Nat) : Int) * oth l a (i + 1) = sqs (l.eraseIdx (i + 1)) := by
    unfold oth
    rw [q1, q2] at h4
    generalize rd l ((i + 1 : Nat) : Int) = x at *
    generalize prd (l.eraseIdx (i + 1)) = p at *
    generalize sqs (l.eraseIdx (i + 1)) = s at *
    clear q1 q2 h1 h2 h3 hle hs hx h
    grind
  rcases Int.lt_or_le (rd l 0) (oth l a (i + 1)) with hc | hc
  · exact hc
  · exfalso
    have n1 : rd l ((i + 1 : Nat) : Int) * oth l a (i + 1) ≤ rd l ((i + 1 : Nat) : Int) * rd l 0 := Int.mul_le_mul_of_nonneg_left hc (by omega)
    have n2 : rd l ((i + 1 : Nat) : Int) * rd l 0 ≤ rd l 0 * rd l 0 := Int.mul_le_mul_of_nonneg_right hle (by omega)
    omega
theorem fund_up {l : List Int} {a b : Int} (hg : huGv a b = true) (h : huIs l a b = true) (i : Nat) (hi : i < l.length) (ho : inB 1 100000 (oth l a i) = true) (hup : rd l 0 < oth l a i) : fundOf (jmp l a i) a b = fundOf l a b := by
  obtain ⟨h1, h2, h3, h4⟩ := huIs_iff.1 h
  have hu := jmp_is hi h ho
  obtain ⟨u1, u2, u3, u4⟩ := huIs_iff.1 hu
  have hlen := jmp_length l a i
  have hmem : ∀ x ∈ jmp l a i, x ≤ oth l a i := by
    intro x hx
    have hx2 := (down_perm _).mem_iff.1 hx
    rcases List.mem_or_eq_of_mem_set hx2 with hm | rfl
    · have := rd_first h3 x hm
      omega
    · exact Int.le_refl _
  have hin : oth l a i ∈ jmp l a i := (down_perm _).mem_iff.2 (List.mem_set hi _)
  have hv : rd (jmp l a i) ((0 : Nat) : Int) = oth l a i := by
    have c1 := rd_first u3 _ hin
    have c2 := hmem _ (rd_mem (l := jmp l a i) (i := 0) (by omega))
    have e0 : rd (jmp l a i) ((0 : Nat) : Int) = rd (jmp l a i) 0 := rfl
    omega
  have hb := jump_back hg hi h ho 0 (by omega) hv
  have ks : huSol (jmp l a i) a b = true := huSol_iff.2 ⟨hg, hu⟩
  unfold jumpAt jumpOf at hb
  rw [ks, decide_eq_true (show (0 : Int) ≤ ((0 : Nat) : Int) ∧ ((0 : Nat) : Int) < ((jmp l a i).length : Int) from ⟨by omega, by omega⟩)] at hb
  simp only [Bool.and_self, if_true, Int.toNat_natCast] at hb
  cases hin0 : inB 1 100000 (oth (jmp l a i) a 0) with
  | false => rw [hin0] at hb; simp at hb
  | true =>
    rw [hin0] at hb
    simp only [if_true, Prod.mk.injEq, and_true] at hb
    -- the root that was left
    have hr := h2 _ (rd_mem hi)
    have hle := rd_first h3 _ (rd_mem hi)
    have h0 : oth (jmp l a i) a 0 < rd (jmp l a i) 0 := by
      have e0 : rd (jmp l a i) ((0 : Nat) : Int) = rd (jmp l a i) 0 := rfl
      have hs := smm_set (jmp l a i) (oth (jmp l a i) a 0) (by omega)
      have hp1 : smm (jmp (jmp l a i) a 0) = smm ((jmp l a i).set 0 (oth (jmp l a i) a 0)) := smm_perm (down_perm _)
      rw [hb] at hp1
      have hp2 : smm (jmp l a i) = smm (l.set i (oth l a i)) := smm_perm (down_perm _)
      have hs2 : smm (l.set i (oth l a i)) = smm l - rd l (i : Int) + oth l a i := by
        have p1 := smm_perm (perm_erase l i hi)
        have hi2 : i < (l.set i (oth l a i)).length := by rw [List.length_set]; exact hi
        have p2 := smm_perm (perm_erase (l.set i (oth l a i)) i hi2)
        rw [rd_set l i _ hi, erase_set] at p2
        simp only [smm] at p1 p2
        omega
      omega
    have hl : lastOf (jmp l a i) a = false := by
      unfold lastOf
      have := inB_iff.1 hin0
      rw [show inB 1 (rd (jmp l a i) 0 - 1) (oth (jmp l a i) a 0) = true from inB_iff.2 (by omega)]
      rfl
    have := fund_step hg hu hl
    rw [hb] at this
    exact this.symm
theorem fund_jump {l : List Int} {a : Int} (hg : huGv a 0 = true) (h : huIs l a 0 = true) (i : Nat) (hi : i < l.length) (ho : inB 1 100000 (oth l a i) = true) : fundOf (jmp l a i) a 0 = fundOf l a 0 := by
  cases i with
  | succ i => exact fund_up hg h (i + 1) hi ho (big_other h i hi)
  | zero =>
    have hb := inB_iff.1 ho
    have e0 : rd l ((0 : Nat) : Int) = rd l 0 := rfl
    rcases Int.lt_trichotomy (oth l a 0) (rd l 0) with hc | hc | hc
    · have hl : lastOf l a = false := by
        unfold lastOf
        rw [show inB 1 (rd l 0 - 1) (oth l a 0) = true from inB_iff.2 (by omega)]
        rfl
      exact fund_step hg h hl
    · have : jmp l a 0 = l := by
        obtain ⟨h1, h2, h3, h4⟩ := huIs_iff.1 h
        unfold jmp
        rw [hc]
        have he : l.set 0 (rd l 0) = l := by
          cases l with
          | nil => rfl
          | cons x l => rfl
        rw [he]
        exact (down_unique (List.Perm.refl l) ((falls_iff l).1 h3)).symm
      rw [this]
    · exact fund_up hg h 0 hi ho hc
theorem fund_climb {a : Int} (hg : huGv a 0 = true) (word : List Int) : ∀ (l e : List Int), huIs l a 0 = true → (∀ x ∈ word, 0 ≤ x ∧ x ≤ (l.length : Int) - 1) → climb a l word = (e, true) → fundOf e a 0 = fundOf l a 0 := by
  induction word with
  | nil =>
    intro l e h hw hc
    simp only [climb, Prod.mk.injEq, and_true] at hc
    rw [hc]
  | cons x word ih =>
    intro l e h hw hc
    have hx := hw x List.mem_cons_self
    have hi : x.toNat < l.length := by omega
    rw [climb] at hc
    cases hj : (jumpOf l a x.toNat).2 with
    | false => rw [hj] at hc; simp at hc
    | true =>
      rw [hj] at hc
      simp only [if_true] at hc
      have hh := jumpOf_is hi h hj
      rw [ih _ e hh.1 (fun y hy => by rw [hh.2]; exact hw y (List.mem_cons_of_mem _ hy)) hc]
      unfold jumpOf at hj ⊢
      cases ho : inB 1 100000 (oth l a x.toNat) with
      | false => rw [ho] at hj; simp at hj
      | true =>
        simp only [if_true]
        exact fund_jump hg h x.toNat hi ho
end Go.Proofs.Ytgpoljimomfbbaa.P
