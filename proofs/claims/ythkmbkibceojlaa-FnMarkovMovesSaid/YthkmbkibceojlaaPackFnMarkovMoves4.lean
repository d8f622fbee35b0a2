/- A move leads to a triple and leads back, and only from 1 1 1 no move leads down. No condition. -/
import Derived.Test.YthkmbkibceojlaaPackFnMarkovMoves3
import Derived.Sort.Grow
import Derived.Test.YthkmbkibceojlaaLib
-- UmkSort
namespace Go.Proofs.Ythkmbkibceojlaa.P
set_option linter.unusedVariables false
set_option linter.unusedSimpArgs false
open Go.RowKit Go.Proofs.YthkmbkibceojlaaW.PrintWords Go.Proofs.YthkmbkibceojlaaW.PrintLast Go.Proofs.YthkmbkibceojlaaW.PrintMore

def lo2 (a b : Int) : Int := if a < b then a else b
def hi2 (a b : Int) : Int := if a > b then a else b
theorem least_is (a b : Int) : spec_l1Least.f a b = some (lo2 a b) := by unfold spec_l1Least.f lo2; split <;> rfl
theorem most_is (a b : Int) : spec_l1Most.f a b = some (hi2 a b) := by unfold spec_l1Most.f hi2; split <;> rfl
/-- Three numbers in order. -/
def srt (x y z : Int) : List Int := [lo2 x (lo2 y z), x + y + z - lo2 x (lo2 y z) - hi2 x (hi2 y z), hi2 x (hi2 y z)]
theorem srt_cases (x y z : Int) : (x ≤ y ∧ y ≤ z ∧ srt x y z = [x, y, z]) ∨ (x ≤ z ∧ z ≤ y ∧ srt x y z = [x, z, y]) ∨ (y ≤ x ∧ x ≤ z ∧ srt x y z = [y, x, z]) ∨ (y ≤ z ∧ z ≤ x ∧ srt x y z = [y, z, x]) ∨ (z ≤ x ∧ x ≤ y ∧ srt x y z = [z, x, y]) ∨ (z ≤ y ∧ y ≤ x ∧ srt x y z = [z, y, x]) := by
  have e : ∀ a b c : Int, lo2 x (lo2 y z) = a → hi2 x (hi2 y z) = c → x + y + z = a + b + c → srt x y z = [a, b, c] := by
    intro a b c h1 h2 h3
    unfold srt
    rw [h1, h2]
    congr 2
    omega
  have l : ∀ a b : Int, a ≤ b → lo2 a b = a ∧ lo2 b a = a ∧ hi2 a b = b ∧ hi2 b a = b := by
    intro a b h
    unfold lo2 hi2
    refine ⟨?_, ?_, ?_, ?_⟩ <;> split <;> omega
  rcases Int.le_total x y with h1 | h1 <;> rcases Int.le_total y z with h2 | h2 <;> rcases Int.le_total x z with h3 | h3
  · exact .inl ⟨h1, h2, e _ _ _ (by rw [(l y z h2).1, (l x y h1).1]) (by rw [(l y z h2).2.2.1, (l x z h3).2.2.1]) (by omega)⟩
  · exact .inl ⟨h1, h2, e _ _ _ (by rw [(l y z h2).1, (l x y h1).1]) (by rw [(l y z h2).2.2.1, (l z x h3).2.2.2]; omega) (by omega)⟩
  · exact .inr (.inl ⟨h3, h2, e _ _ _ (by rw [(l z y h2).2.1, (l x z h3).1]) (by rw [(l z y h2).2.2.2, (l x y h1).2.2.1]) (by omega)⟩)
  · exact .inr (.inr (.inr (.inr (.inl ⟨h3, h1, e _ _ _ (by rw [(l z y h2).2.1, (l z x h3).2.1]) (by rw [(l z y h2).2.2.2, (l x y h1).2.2.1]) (by omega)⟩))))
  · exact .inr (.inr (.inl ⟨h1, h3, e _ _ _ (by rw [(l y z h2).1, (l y x h1).2.1]) (by rw [(l y z h2).2.2.1, (l x z h3).2.2.1]) (by omega)⟩))
  · exact .inr (.inr (.inr (.inl ⟨h2, h3, e _ _ _ (by rw [(l y z h2).1, (l y x h1).2.1]) (by rw [(l y z h2).2.2.1, (l z x h3).2.2.2]) (by omega)⟩)))
  · exact .inr (.inr (.inr (.inr (.inr ⟨h2, h1, e _ _ _ (by rw [(l z y h2).2.1, (l x z h3).1]; omega) (by rw [(l z y h2).2.2.2, (l y x h1).2.2.2]) (by omega)⟩))))
  · exact .inr (.inr (.inr (.inr (.inr ⟨h2, h1, e _ _ _ (by rw [(l z y h2).2.1, (l z x h3).2.1]) (by rw [(l z y h2).2.2.2, (l y x h1).2.2.2]) (by omega)⟩))))
theorem mkSort_srt (x y z : Int) (hx : 0 ≤ x ∧ x ≤ 1000000000000) (hy : 0 ≤ y ∧ y ≤ 1000000000000) (hz : 0 ≤ z ∧ z ≤ 1000000000000) : spec_mkSort.f x y z = some (srt x y z) := by
  have hlo : 0 ≤ lo2 x (lo2 y z) ∧ lo2 x (lo2 y z) ≤ 1000000000000 := by unfold lo2; split <;> split <;> omega
  have hhi : 0 ≤ hi2 x (hi2 y z) ∧ hi2 x (hi2 y z) ≤ 1000000000000 := by unfold hi2; split <;> split <;> omega
  have w1 : wrap64 (x + y) = x + y := w64 (by omega) (by omega)
  have w2 : wrap64 (x + y + z) = x + y + z := w64 (by omega) (by omega)
  have w3 : wrap64 (x + y + z - lo2 x (lo2 y z)) = x + y + z - lo2 x (lo2 y z) := w64 (by omega) (by omega)
  have w4 : wrap64 (x + y + z - lo2 x (lo2 y z) - hi2 x (hi2 y z)) = x + y + z - lo2 x (lo2 y z) - hi2 x (hi2 y z) := w64 (by omega) (by omega)
  unfold spec_mkSort.f srt
  simp only [least_is, most_is, Option.bind_some, w1, w2, w3, w4]
theorem mkEq_srt {x y z a b c : Int} (h : srt x y z = [a, b, c]) : mkEq a b c = mkEq x y z := by
  have g : ∀ p q r : Int, (mkEq p q r = mkEq p r q) ∧ (mkEq p q r = mkEq q p r) := by
    intro p q r
    unfold mkEq
    constructor
    · rw [Bool.eq_iff_iff]; simp only [beq_iff_eq]; constructor <;> intro h <;> grind
    · rw [Bool.eq_iff_iff]; simp only [beq_iff_eq]; constructor <;> intro h <;> grind
  rcases srt_cases x y z with ⟨_, _, e⟩ | ⟨_, _, e⟩ | ⟨_, _, e⟩ | ⟨_, _, e⟩ | ⟨_, _, e⟩ | ⟨_, _, e⟩ <;> (rw [e] at h; injection h with h1 h; injection h with h2 h; injection h with h3 _; subst h1 h2 h3)
  · rfl
  · exact (g _ _ _).1
  · exact (g _ _ _).2
  · rw [(g y z x).1, (g y x z).2]
  · rw [(g z x y).2, (g x z y).1]
  · rw [(g z y x).1, (g z x y).2, (g x z y).1]
theorem srt_three (x y z : Int) : ∃ a b c, srt x y z = [a, b, c] ∧ a ≤ b ∧ b ≤ c := by
  rcases srt_cases x y z with ⟨h1, h2, e⟩ | ⟨h1, h2, e⟩ | ⟨h1, h2, e⟩ | ⟨h1, h2, e⟩ | ⟨h1, h2, e⟩ | ⟨h1, h2, e⟩ <;> exact ⟨_, _, _, e, h1, h2⟩
theorem mkSort_is (x y z : Int) (hx : 1 ≤ x ∧ x ≤ 1000000000) (hy : 1 ≤ y ∧ y ≤ 1000000000) (hz : 1 ≤ z ∧ z ≤ 1000000000) : ∃ a b c, spec_mkSort.f x y z = some [a, b, c] ∧ a ≤ b ∧ b ≤ c ∧ 1 ≤ a ∧ c ≤ 1000000000 ∧ mkEq a b c = mkEq x y z := by
  have h := mkSort_srt x y z (by omega) (by omega) (by omega)
  rcases srt_cases x y z with ⟨h1, h2, e⟩ | ⟨h1, h2, e⟩ | ⟨h1, h2, e⟩ | ⟨h1, h2, e⟩ | ⟨h1, h2, e⟩ | ⟨h1, h2, e⟩ <;> exact ⟨_, _, _, by rw [h, e], h1, h2, by omega, by omega, mkEq_srt e⟩
end Go.Proofs.Ythkmbkibceojlaa.P

-- Uall
namespace Go.Proofs.Ythkmbkibceojlaa.P
set_option linter.unusedVariables false
set_option linter.unusedSimpArgs false
open Go.RowKit Go.Proofs.YthkmbkibceojlaaW.PrintWords Go.Proofs.YthkmbkibceojlaaW.PrintLast

theorem l1In_inB (x lo hi : Int) : spec_l1In.f x lo hi = some (inB lo hi x) := by
  unfold spec_l1In.f inB
  by_cases h : lo ≤ x <;> simp [h]
theorem l1All_upto (l : List Int) (lo hi : Int) (hn : l.length ≤ 4611686018427387904) (d : Nat) : ∀ i : Nat, i + d = l.length → Ev (fun k => spec_l1All.l0 k lo hi l (l.length : Int) (i : Int)) ((l.drop i).all (inB lo hi)) := by
  induction d with
  | zero =>
    intro i hid
    refine Ev.step (f := fun _ => some true) (fun k => by simp only [spec_l1All.l0]; rw [if_neg (by omega)]) ?_
    rw [List.drop_eq_nil_of_le (by omega)]
    exact Ev.is rfl
  | succ d ih =>
    intro i hid
    refine Ev.step (f := fun k => if inB lo hi (rd l (i : Int)) = true then spec_l1All.l0 k lo hi l (l.length : Int) ((i + 1 : Nat) : Int) else some false) (fun k => ?_) ?_
    · simp only [spec_l1All.l0]
      rw [if_pos (by omega), if_pos (by omega), if_pos (by omega), l1In_inB, w64_succ (n := l.length) (by omega) hn]
      rfl
    · rw [rd_drop l i (by omega), List.all_cons]
      cases hB : inB lo hi (rd l (i : Int)) with
      | true =>
        simp only [if_true, Bool.true_and]
        exact ih (i + 1) (by omega)
      | false =>
        simp only [Bool.false_eq_true, if_false, Bool.false_and]
        exact Ev.is rfl
theorem l1All_ev (l : List Int) (lo hi : Int) (hn : l.length ≤ 4611686018427387904) : Ev (fun k => spec_l1All.f k l lo hi) (l.all (inB lo hi)) := by
  unfold spec_l1All.f
  exact l1All_upto l lo hi hn l.length 0 (by omega)
end Go.Proofs.Ythkmbkibceojlaa.P

-- USolvesMarkov
namespace Go.Proofs.Ythkmbkibceojlaa.P
set_option linter.unusedVariables false
set_option linter.unusedSimpArgs false
open Go.RowKit Go.Proofs.YthkmbkibceojlaaW.PrintWords Go.Proofs.YthkmbkibceojlaaW.PrintLast Go.Proofs.YthkmbkibceojlaaW.PrintMore

def solvesOf (l : List Int) : Bool × Bool := match l with
  | [x, y, z] => if [x, y, z].all (inB 1 1000000000) = true then (mkEq x y z, true) else (false, false)
  | _ => (false, false)
theorem solvesOf_no (l : List Int) (h : ¬ l.length = 3) : solvesOf l = (false, false) := by
  match l with
  | [] => rfl
  | [_] => rfl
  | [_, _] => rfl
  | [_, _, _] => simp at h
  | _ :: _ :: _ :: _ :: _ => rfl
theorem SolvesMarkov_both (l : List Int) : Ev (fun k => spec_SolvesMarkov.f k l) (solvesOf l) ∧ impl_SolvesMarkov.f l = some (solvesOf l) := by
  unfold spec_SolvesMarkov.f impl_SolvesMarkov.f
  by_cases h3 : l.length = 3
  · obtain ⟨x, y, z, rfl⟩ : ∃ x y z, l = [x, y, z] := by
      match l, h3 with
      | [x, y, z], _ => exact ⟨x, y, z, rfl⟩
    have hl : (([x, y, z] : List Int).length : Int) = 3 := rfl
    have ha : impl_areThree.f [x, y, z] = some ([x, y, z].all (inB 1 1000000000)) := rfl
    have he : solvesOf [x, y, z] = if [x, y, z].all (inB 1 1000000000) = true then (mkEq x y z, true) else (false, false) := rfl
    rw [he, ha]
    cases h : [x, y, z].all (inB 1 1000000000) with
    | false =>
      refine ⟨?_, rfl⟩
      simp only [hl, if_true, Bool.false_eq_true, if_false]
      refine Ev.bind (l1All_ev _ _ _ (by simp)) ?_
      rw [h]
      exact Ev.step (f := fun _ => some (false, false)) (fun k => by simp only [spec_SolvesMarkov.j0, Bool.not_false, if_true]) (Ev.is rfl)
    | true =>
      obtain ⟨h1, h2, h4⟩ := three_all h
      constructor
      · simp only [hl, if_true]
        refine Ev.bind (l1All_ev _ _ _ (by simp)) ?_
        rw [h]
        obtain ⟨a, b, c, hs, hab, hbc, ha1, hc1, hp⟩ := mkSort_is x y z h1 h2 h4
        refine Ev.step (f := fun _ => some (mkEq x y z, true)) (fun k => ?_) (Ev.is rfl)
        have r0 : rd [x, y, z] 0 = x := rfl
        have r1 : rd [x, y, z] 1 = y := rfl
        have r2 : rd [x, y, z] 2 = z := rfl
        have s0 : rd [a, b, c] 0 = a := rfl
        have s1 : rd [a, b, c] 1 = b := rfl
        have s2 : rd [a, b, c] 2 = c := rfl
        have hl2 : (([a, b, c] : List Int).length : Int) = 3 := rfl
        simp only [spec_SolvesMarkov.j0, Bool.not_true, Bool.false_eq_true, if_false, hl, r0, r1, r2, hs, Option.bind_some, hl2, s0, s1, s2]
        rw [if_pos (by decide), if_pos (by decide), if_pos (by decide), if_pos (by decide), if_pos (by decide), if_pos (by decide), mkSolves_is a b c (by omega) (by omega) (by omega), hp]
        rfl
      · simp only [Option.bind_some, if_true]
        rw [solves_is x y z h1 h2 h4]
        rfl
  · have h' : ¬ (l.length : Int) = 3 := by omega
    rw [solvesOf_no l h3]
    have ha : impl_areThree.f l = some false := by unfold impl_areThree.f; rw [if_neg h']
    rw [ha]
    refine ⟨?_, rfl⟩
    simp only [h', if_false]
    exact Ev.step (f := fun _ => some (false, false)) (fun k => by simp only [spec_SolvesMarkov.j0, if_true]) (Ev.is rfl)
end Go.Proofs.Ythkmbkibceojlaa.P

-- Uscalar
namespace Go.Proofs.Ythkmbkibceojlaa.P
set_option linter.unusedVariables false
set_option linter.unusedSimpArgs false
open Go.RowKit Go.Proofs.YthkmbkibceojlaaW.PrintWords Go.Proofs.YthkmbkibceojlaaW.PrintLast

theorem scalar_reps {α : Type} {enc : α → Value} {R : α → List Value → Prop} (hR : ∀ x c, R x c ↔ c = [enc x]) (xs : List α) (cs : List Value) : Reps R 1 xs cs ↔ cs = xs.map enc := by
  constructor
  · rintro ⟨h1, h2⟩
    apply List.ext_getElem
    · simp [h1]
    · intro i hi1 hi2
      have hx : i < xs.length := by simpa using hi2
      have h3 := (hR _ _).1 (h2 i xs[i] (List.getElem?_eq_getElem hx))
      rw [Nat.mul_one] at h3
      have h4 : (cs.drop i).take 1 = [cs[i]] := by rw [List.drop_eq_getElem_cons hi1]; rfl
      rw [h4] at h3
      simpa using h3
  · rintro rfl
    refine ⟨by simp, fun j p hp => (hR _ _).2 ?_⟩
    obtain ⟨hj, rfl⟩ := List.getElem?_eq_some_iff.1 hp
    rw [Nat.mul_one, List.drop_eq_getElem_cons (by simpa using hj)]
    simp
theorem scalar_R {α : Type} {enc : α → Value} {h1 : ∀ x, (enc x).oneCell' = true} {e : Nat} {w : World} {base : Nat} {ok : Nat → Prop} {v : Value} {xs : List α} :
    (Kd.scalar enc h1).R e w base ok v xs ↔ (∀ k, v.ownBlock = some k → ok k) ∧ w.ownsRow base e 1 v xs.length (xs.map enc) := by
  constructor
  · rintro ⟨h2, inner, h3, h4⟩
    exact ⟨h2, by rw [← (scalar_reps (enc := enc) (fun x c => Iff.rfl) xs inner).1 h4]; exact h3⟩
  · rintro ⟨h2, h3⟩
    exact ⟨h2, _, h3, (scalar_reps (enc := enc) (fun x c => Iff.rfl) xs _).2 rfl⟩
/-- A row of scalars, opened: nil, or the head of a block of the call's own. -/
theorem scalar_open {α : Type} {enc : α → Value} {h1 : ∀ x, (enc x).oneCell' = true} {e : Nat} {w : World} {base : Nat} {ok : Nat → Prop} {v : Value} {xs : List α} (h : (Kd.scalar enc h1).R e w base ok v xs) :
    (v = .slice none 0 0 ∧ xs = []) ∨ ∃ g cap cur, v = .slice (some ⟨g, 0, none⟩) xs.length cap ∧ ok g ∧ base ≤ g ∧ w.heap[g]? = some (.cells cur e (0, 0)) ∧ xs.length ≤ cap ∧ cap ≤ maxLen ∧ cur.size = cap ∧ cur.toList.take xs.length = xs.map enc := by
  obtain ⟨h2, h3, h4⟩ := scalar_R.1 h
  rcases h4 with ⟨rfl, h5⟩ | ⟨g, cap, cur, rfl, hg, hb, hc, hm, hs, ht⟩
  · exact .inl ⟨rfl, List.eq_nil_of_length_eq_zero h5⟩
  · exact .inr ⟨g, cap, cur, rfl, h2 g (by simp [Value.ownBlock]), hg, hb, hc, hm, by omega, by rw [← ht, Nat.mul_one]⟩
theorem scalar_close {α : Type} {enc : α → Value} {h1 : ∀ x, (enc x).oneCell' = true} {e : Nat} {w : World} {base : Nat} {ok : Nat → Prop} {g cap : Nat} {cur : Array Value} {xs : List α} (hok : ok g) (hg : base ≤ g) (hb : w.heap[g]? = some (.cells cur e (0, 0))) (hc : xs.length ≤ cap) (hm : cap ≤ maxLen) (hs : cur.size = cap) (ht : cur.toList.take xs.length = xs.map enc) :
    (Kd.scalar enc h1).R e w base ok (.slice (some ⟨g, 0, none⟩) xs.length cap) xs :=
  scalar_R.2 ⟨fun k hk => by simp [Value.ownBlock] at hk; exact hk ▸ hok, by simp, .inr ⟨g, cap, cur, rfl, hg, hb, hc, hm, by omega, by rw [Nat.mul_one]; exact ht⟩⟩
/-- The cells of an opened row. -/
theorem scalar_cell {α : Type} {enc : α → Value} {e : Nat} {w : World} {g : Nat} {cur : Array Value} {xs : List α} (hb : w.heap[g]? = some (.cells cur e (0, 0))) (ht : cur.toList.take xs.length = xs.map enc) (j : Nat) (hj : j < xs.length) : w.cell? ⟨g, j, none⟩ = some (enc xs[j]) := by
  have h1 : j < (cur.toList.take xs.length).length := by rw [ht]; simpa using hj
  have h2 : j < cur.size := by simp at h1; omega
  rw [cell_of_row w g j cur e _ hb]
  have h3 : (cur.toList.take xs.length)[j] = enc xs[j] := by simp [ht]
  rw [List.getElem_take] at h3
  rw [Array.getElem?_eq_getElem h2, ← h3]
  simp
theorem own_free {e : Nat} {w : World} {g : Nat} {cur : Array Value} (hb : w.heap[g]? = some (.cells cur e (0, 0))) (j : Nat) : w.frozen? ⟨g, j, none⟩ = false := by simp [World.frozen?, hb]
theorem scalar_holds {α : Type} [Inhabited α] {enc : α → Value} {e : Nat} {w : World} {g : Nat} {cur : Array Value} {xs : List α} (hb : w.heap[g]? = some (.cells cur e (0, 0))) (ht : cur.toList.take xs.length = xs.map enc) : Go.Sort.Holds enc w g 0 xs.toArray := by
  intro j hj
  have hj' : j < xs.length := by simpa using hj
  refine ⟨?_, own_free hb _⟩
  rw [Nat.zero_add, scalar_cell hb ht j hj']
  simp [hj']
/-- Behind the sort: the row holds ys, all else stays. -/
theorem scalar_sorted {α : Type} [Inhabited α] {enc : α → Value} {h1 : ∀ x, (enc x).oneCell' = true} {e : Nat} {w0 w : World} {ok : Nat → Prop} {g cap : Nat} {cur : Array Value} {xs ys : List α} (hB : Below w0.heap.size w0 w) (hok : ok g) (hg : w0.heap.size ≤ g) (hb : w.heap[g]? = some (.cells cur e (0, 0))) (hc : xs.length ≤ cap) (hm : cap ≤ maxLen) (hs : cur.size = cap) (hl : ys.length = xs.length) (n : Nat) (os : Array Obj) (w' : World) (hw : w' = Go.Sort.grow (Go.Sort.putRow enc (Go.Sort.ahead w n) g 0 ys.toArray) os) :
    (Kd.scalar enc h1).R e w' w0.heap.size (fun k_ => (ok k_ ∨ w.heap.size ≤ k_)) (.slice (some ⟨g, 0, none⟩) xs.length cap) ys ∧ Below w0.heap.size w0 w' ∧ Kept w w' (fun k_ => ok k_) := by
  have hlt : g < w.heap.size := by
    have := (Array.getElem?_eq_some_iff.1 hb).1
    exact this
  have hsz : (Go.Sort.putRow enc (Go.Sort.ahead w n) g 0 ys.toArray).heap.size = w.heap.size := by simp
  have hold : ∀ k, k < w.heap.size → w'.heap[k]? = (Go.Sort.putRow enc (Go.Sort.ahead w n) g 0 ys.toArray).heap[k]? := fun k hk => by
    rw [hw, Go.Sort.heap_grow_old _ _ (by rw [hsz]; exact hk)]
  have hne : ∀ k, k < w.heap.size → k ≠ g → w'.heap[k]? = w.heap[k]? := fun k hk hkg => by
    rw [hold k hk]
    simp only [Go.Sort.putRow, Go.Sort.mapBlock, Array.getElem?_modify]
    rw [if_neg (by omega)]
    rfl
  have hrow : w'.heap[g]? = some (.cells (Go.Sort.putCells enc 0 ys.toArray cur) e (0, 0)) := by
    rw [hold g hlt]
    simp only [Go.Sort.putRow, Go.Sort.mapBlock, Array.getElem?_modify]
    rw [if_pos trivial]
    show (w.heap[g]?).map _ = _
    rw [hb]
    rfl
  have hsize : w.heap.size ≤ w'.heap.size := by rw [hw, Go.Sort.size_grow, hsz]; omega
  refine ⟨?_, hB.trans ⟨?_, ?_, ?_, hsize, fun k hk => hne k (by have := hB.size; omega) (by omega)⟩, hsize, fun i hi hn => hne i hi (fun h => hn (h ▸ hok))⟩
  · rw [← hl]
    refine scalar_close (.inl hok) hg hrow (by omega) hm (by simp [Go.Sort.putCells, hs]) ?_
    apply List.ext_getElem
    · simp [Go.Sort.putCells, hs]; omega
    · intro i hi1 hi2
      have hi3 : i < ys.length := by simpa using hi2
      simp [Go.Sort.putCells, hi3]
  · rw [hw]; rfl
  · rw [hw]; rfl
  · rw [hw]; rfl
/-- A row cut. -/
theorem scalar_take {α : Type} {enc : α → Value} {h1 : ∀ x, (enc x).oneCell' = true} {e : Nat} {w : World} {base : Nat} {ok : Nat → Prop} {ad : Addr} {n cap : Nat} {xs : List α} (h : (Kd.scalar enc h1).R e w base ok (.slice (some ad) n cap) xs) (k : Nat) (hk : k ≤ xs.length) :
    (Kd.scalar enc h1).R e w base ok (.slice (some ad) k cap) (xs.take k) := by
  rcases scalar_open h with ⟨h2, _⟩ | ⟨g, cap', cur, hv, hok, hg, hb, hc, hm, hs, ht⟩
  · simp at h2
  · injection hv with e1 e2 e3
    injection e1 with e1
    subst e1 e3
    have hl : (xs.take k).length = k := by rw [List.length_take]; omega
    have h3 := scalar_close (h1 := h1) (ok := ok) (base := base) (xs := xs.take k) (cap := cap) hok hg hb (by omega) hm hs (by rw [hl, List.map_take, ← ht, List.take_take, Nat.min_eq_left hk])
    rw [hl] at h3
    exact h3
/-- Another name of the same cells. -/
theorem scalar_map {α β : Type} {enc : α → Value} {h1 : ∀ x, (enc x).oneCell' = true} {enc' : β → Value} {h1' : ∀ x, (enc' x).oneCell' = true} {e : Nat} {w : World} {base : Nat} {ok : Nat → Prop} {v : Value} {xs : List α} {ys : List β} (h : (Kd.scalar enc h1).R e w base ok v xs) (he : xs.map enc = ys.map enc') : (Kd.scalar enc' h1').R e w base ok v ys := by
  obtain ⟨h2, h3⟩ := scalar_R.1 h
  have hl : xs.length = ys.length := by simpa using congrArg List.length he
  exact scalar_R.2 ⟨h2, by rw [← hl, ← he]; exact h3⟩
end Go.Proofs.Ythkmbkibceojlaa.P

-- GcloneInts
namespace Go.Proofs.Ythkmbkibceojlaa.P
open Go.RowKit Go.Proofs.YthkmbkibceojlaaW.PrintWords Go.Proofs.YthkmbkibceojlaaW.PrintLast
set_option linter.unusedVariables false
set_option linter.unusedSimpArgs false

def slices_Clone_int_int.f (l0 : List Int) : Option (List Int) := if l0.length < 17592186044416 then some l0 else none
theorem slices_Clone_int_int.calls (A0 : Option Addr) (c0 : Nat) (l0 : List Int) (r : List Int) (w : World) (hr0 : Kd.C (Kd.int .i64) w A0 l0.length l0) (hc0 : l0.length ≤ c0) (h : slices_Clone_int_int.f l0 = some r) :
  Calls Try.prog 75 #[.slice A0 l0.length c0] w fun e w' => ∃ v0_ : Value, e = .returned (v0_) ∧ Kd.R (Kd.int .i64) 3 w' w.heap.size (fun _ => True) v0_ r ∧ Below w.heap.size w w' := by
  have hr : l0 = r ∧ l0.length < 17592186044416 := by
    unfold slices_Clone_int_int.f at h
    split at h
    · exact ⟨by simpa using h, by assumption⟩
    · simp at h
  obtain ⟨rfl, hlen⟩ := hr
  cases A0 with
  | none =>
    have h0 : l0 = [] := by
      rcases Nat.eq_zero_or_pos l0.length with h1 | h1
      · exact List.eq_nil_of_length_eq_zero h1
      · obtain ⟨ad, h2, _⟩ := hr0.2.2 h1
        simp at h2
    subst h0
    refine (Go.Proofs.Try.slices_Clone_int_nil 0 c0 w).mono ?_
    rintro e w' ⟨rfl, rfl⟩
    exact ⟨_, rfl, Kd.R_nil _ _ _ _ _, Below.refl _ _⟩
  | some a =>
    by_cases h0 : l0.length = 0
    · have h1 : l0 = [] := List.eq_nil_of_length_eq_zero h0
      subst h1
      refine (Go.Proofs.Try.slices_Clone_int_zero a c0 w).mono ?_
      rintro e w' ⟨v', rfl, hown, _, hb⟩
      exact ⟨v', rfl, scalar_R.2 ⟨fun _ _ => trivial, hown⟩, hb⟩
    · obtain ⟨ad, he, hc⟩ := hr0.2.2 (by omega)
      injection he with he
      subst he
      have hcell : ∀ j, j < l0.length → w.cell? (a.add j) = some (.int .i64 (l0.getD j 0)) := fun j hj => by
        obtain ⟨c, hcl, hp, hcell⟩ := hc j l0[j] (List.getElem?_eq_getElem hj)
        have hc1 : c = [Value.int .i64 l0[j]] := hp
        subst hc1
        have h2 := hcell 0 _ rfl
        rw [Nat.add_zero, show j * (Kd.int .i64).sz = j from Nat.mul_one j] at h2
        rw [h2]
        simp [List.getD_eq_getElem?_getD, hj]
      obtain ⟨b, off, spot⟩ := a
      have hspot : spot = none := by
        have h2 := hcell 0 (by omega)
        cases spot with
        | none => rfl
        | some k =>
          simp only [Addr.add, if_true, World.cell?] at h2
          split at h2 <;> simp at h2
      subst hspot
      refine (Go.Proofs.Try.slices_Clone_int b off l0.length c0 l0 w (Nat.le_refl _) (by omega) (fun j hj => ?_)).mono ?_
      · rw [← hcell j hj]
        congr 1
        by_cases h1 : j = 0
        · subst h1
          simp [Addr.add]
        · simp [Addr.add, h1]
      · rintro e w' ⟨v', rfl, hown, _, hb⟩
        exact ⟨v', rfl, scalar_R.2 ⟨fun _ _ => trivial, by rw [List.take_length] at hown; exact hown⟩, hb⟩
end Go.Proofs.Ythkmbkibceojlaa.P

-- GsortInts
namespace Go.Proofs.Ythkmbkibceojlaa.P
open Go.RowKit Go.Proofs.YthkmbkibceojlaaW.PrintWords Go.Proofs.YthkmbkibceojlaaW.PrintLast
set_option linter.unusedVariables false
set_option linter.unusedSimpArgs false

def slices_Sort_int_int.f (l0 : List Int) : Option (List Int) := if l0.length < 4611686018427387904 then some (l0.mergeSort fun x y => decide (x ≤ y)) else none
theorem slices_Sort_int_int.calls (P0_ : Nat → Prop) (u9000_ : Value) (l0 : List Int) (r : List Int) (w0 w : World) (hB : Below w0.heap.size w0 w) (ho0 : Kd.R (Kd.int .i64) 3 w w0.heap.size P0_ u9000_ l0) (h : slices_Sort_int_int.f l0 = some r) :
  Calls Try.prog 97 #[u9000_] w fun e w' => e = .returned (.tuple #[]) ∧ Kd.R (Kd.int .i64) 3 w' w0.heap.size (fun k_ => (P0_ k_ ∨ w.heap.size ≤ k_)) u9000_ r ∧ Below w0.heap.size w0 w' ∧ Kept w w' (fun k_ => P0_ k_) := by
  have hr : l0.mergeSort (fun x y => decide (x ≤ y)) = r ∧ l0.length < 4611686018427387904 := by
    unfold slices_Sort_int_int.f at h
    split at h
    · exact ⟨by simpa using h, by assumption⟩
    · simp at h
  obtain ⟨rfl, hz⟩ := hr
  rcases scalar_open ho0 with ⟨rfl, rfl⟩ | ⟨g, cap, cur, rfl, hok, hg, hb, hc, hm, hs, ht⟩
  · refine (Go.Proofs.Try.slices_Sort_int_none none 0 w).mono ?_
    rintro e w' ⟨rfl, rfl⟩
    refine ⟨rfl, ?_, hB, Kept.refl _ _⟩
    rw [show (([] : List Int).mergeSort fun x y => decide (x ≤ y)) = [] by simp]
    exact Kd.R_nil _ _ _ _ _
  · have hlt : g < w.heap.size := (Array.getElem?_eq_some_iff.1 hb).1
    refine (Go.Proofs.Try.slices_Sort_int g 0 cap l0 w (scalar_holds hb ht) hlt hz).mono ?_
    rintro e w' ⟨rfl, n, os, hw⟩
    exact ⟨rfl, scalar_sorted hB hok hg hb hc hm hs (List.length_mergeSort _) n os w' hw⟩
end Go.Proofs.Ythkmbkibceojlaa.P

-- PFimplmoved
namespace Go.Proofs.Ythkmbkibceojlaa.P
open Go.RowKit Go.Proofs.YthkmbkibceojlaaW.PrintWords Go.Proofs.YthkmbkibceojlaaW.PrintLast
set_option linter.unusedVariables false
set_option linter.unusedSimpArgs false

/-! ### impl_moved: function 69 -/
def impl_moved.f (l0 : List Int) (a1 : Int) : Option (List Int) := (slices_Clone_int_int.f l0).bind fun t260 => (if 0 ≤ (Int.tmod (wrap64 (a1 + 1)) 3) then (if (Int.tmod (wrap64 (a1 + 1)) 3) < (l0.length : Int) then (if 0 ≤ (Int.tmod (wrap64 (a1 + 2)) 3) then (if (Int.tmod (wrap64 (a1 + 2)) 3) < (l0.length : Int) then (if 0 ≤ a1 then (if a1 < (l0.length : Int) then (if a1 < (t260.length : Int) then ((slices_Sort_int_int.f (t260.set (a1 : Int).toNat (wrap64 ((wrap64 ((wrap64 (3 * (rd l0 (Int.tmod (wrap64 (a1 + 1)) 3)))) * (rd l0 (Int.tmod (wrap64 (a1 + 2)) 3)))) - (rd l0 a1))))).bind fun t267 => (some t267)) else (none)) else (none)) else (none)) else (none)) else (none)) else (none)) else (none))
def impl_moved.T2 : Bool × List (List Nat × List Nat) := (true, [([], []), ([], []), ([], []), ([], []), ([3], [3]), ([4], [4]), ([2, 5], [2, 5]), ([6], [6]), ([7], [7]), ([], []), ([], []), ([10], [10]), ([11], [11]), ([9, 12], [9, 12]), ([13], [13]), ([8, 14], [8, 14]), ([], []), ([], []), ([16, 17], [16, 17]), ([18], [18]), ([15, 19], [15, 19]), ([0, 1, 0, 1, 2, 3, 4, 5, 6, 7, 8, 9, 10, 11, 12, 13, 14, 15, 16, 17, 18, 19, 20], [0, 1]), ([21, 20, 0, 1, 2, 3, 4, 5, 6, 7, 8, 9, 10, 11, 12, 13, 14, 15, 16, 17, 18, 19, 20], [20, 21])])
def impl_moved.B2 : List Nat := [0, 0, 0, 0, 8, 24, 60, 124, 252, 0, 0, 1024, 3072, 7680, 15872, 32764, 0, 0, 196608, 458752, 1048572, 2097151, 4194303]
theorem impl_moved.tab2 : rtab .any (opsOf Try.f69 2) = impl_moved.T2 := by kernel_rfl
theorem impl_moved.bits2 : waitsOk impl_moved.T2.2 impl_moved.B2 = true := by kernel_rfl
set_option maxHeartbeats 8000000 in
set_option maxRecDepth 100000 in
theorem impl_moved.calls (A0 : Option Addr) (c0 : Nat) (l0 : List Int) (a1 : Int) (r : List Int) (w : World) (hr0 : Kd.C (Kd.int .i64) w A0 l0.length l0) (hc0 : l0.length ≤ c0) (h : impl_moved.f l0 a1 = some r) :
  Calls Try.prog 69 #[.slice A0 l0.length c0, .int .i64 a1] w fun e w' => ∃ v0_ : Value, e = .returned (v0_) ∧ Kd.R (Kd.int .i64) 3 w' w.heap.size (fun _ => True) v0_ r ∧ Below w.heap.size w w' := by
 have HR0 := Aside0.mk hr0
 have HC0 := Aside0.mk hc0
 clear hr0 hc0
 have HB := Aside0.mk (Below.refl w.heap.size w)
 have H : ((slices_Clone_int_int.f l0).bind fun t260 => (if 0 ≤ (Int.tmod (wrap64 (a1 + 1)) 3) then (if (Int.tmod (wrap64 (a1 + 1)) 3) < (l0.length : Int) then (if 0 ≤ (Int.tmod (wrap64 (a1 + 2)) 3) then (if (Int.tmod (wrap64 (a1 + 2)) 3) < (l0.length : Int) then (if 0 ≤ a1 then (if a1 < (l0.length : Int) then (if a1 < (t260.length : Int) then ((slices_Sort_int_int.f (t260.set (a1 : Int).toNat (wrap64 ((wrap64 ((wrap64 (3 * (rd l0 (Int.tmod (wrap64 (a1 + 1)) 3)))) * (rd l0 (Int.tmod (wrap64 (a1 + 2)) 3)))) - (rd l0 a1))))).bind fun t267 => (some t267)) else (none)) else (none)) else (none)) else (none)) else (none)) else (none)) else (none))) = some r := h
 clear h
 replace H := Option.bind_eq_some_iff.mp H
 obtain ⟨t260, A30, H⟩ := H
 replace H : (if 0 ≤ (Int.tmod (wrap64 (a1 + 1)) 3) then (if (Int.tmod (wrap64 (a1 + 1)) 3) < (l0.length : Int) then (if 0 ≤ (Int.tmod (wrap64 (a1 + 2)) 3) then (if (Int.tmod (wrap64 (a1 + 2)) 3) < (l0.length : Int) then (if 0 ≤ a1 then (if a1 < (l0.length : Int) then (if a1 < (t260.length : Int) then ((slices_Sort_int_int.f (t260.set (a1 : Int).toNat (wrap64 ((wrap64 ((wrap64 (3 * (rd l0 (Int.tmod (wrap64 (a1 + 1)) 3)))) * (rd l0 (Int.tmod (wrap64 (a1 + 2)) 3)))) - (rd l0 a1))))).bind fun t267 => (some t267)) else (none)) else (none)) else (none)) else (none)) else (none)) else (none)) else (none)) = some r := H
 have A3 := Aside0.mk A30
 clear A30
 obtain ⟨ji4, hji4⟩ : ∃ j_ : Int, (Int.tmod (wrap64 (a1 + 1)) 3) = j_ := ⟨_, rfl⟩
 replace H : (if 0 ≤ (ji4) then (if (ji4) < (l0.length : Int) then (if 0 ≤ (Int.tmod (wrap64 (a1 + 2)) 3) then (if (Int.tmod (wrap64 (a1 + 2)) 3) < (l0.length : Int) then (if 0 ≤ a1 then (if a1 < (l0.length : Int) then (if a1 < (t260.length : Int) then ((slices_Sort_int_int.f (t260.set (a1 : Int).toNat (wrap64 ((wrap64 ((wrap64 (3 * (rd l0 (ji4)))) * (rd l0 (Int.tmod (wrap64 (a1 + 2)) 3)))) - (rd l0 a1))))).bind fun t267 => (some t267)) else (none)) else (none)) else (none)) else (none)) else (none)) else (none)) else (none)) = some r := by first | (rw [hji4] at H; exact H) | (simp only [hji4] at H ⊢; exact H)
 (try rw [hji4] at A3)
 by_cases c5 : 0 ≤ (ji4)
 ·rw [if_pos c5] at H
  have c5b0 : decide (0 ≤ (ji4)) = true := decide_eq_true c5
  clear c5
  by_cases c6 : (ji4) < (l0.length : Int)
  ·rw [if_pos c6] at H
   have c6b0 : decide ((ji4) < (l0.length : Int)) = true := decide_eq_true c6
   clear c6
   obtain ⟨ji7, hji7⟩ : ∃ j_ : Int, (Int.tmod (wrap64 (a1 + 2)) 3) = j_ := ⟨_, rfl⟩
   replace H : (if 0 ≤ (ji7) then (if (ji7) < (l0.length : Int) then (if 0 ≤ a1 then (if a1 < (l0.length : Int) then (if a1 < (t260.length : Int) then ((slices_Sort_int_int.f (t260.set (a1 : Int).toNat (wrap64 ((wrap64 ((wrap64 (3 * (rd l0 (ji4)))) * (rd l0 (ji7)))) - (rd l0 a1))))).bind fun t267 => (some t267)) else (none)) else (none)) else (none)) else (none)) else (none)) = some r := by first | (rw [hji7] at H; exact H) | (simp only [hji7] at H ⊢; exact H)
   (try rw [hji7] at A3)
   by_cases c8 : 0 ≤ (ji7)
   ·rw [if_pos c8] at H
    have c8b0 : decide (0 ≤ (ji7)) = true := decide_eq_true c8
    clear c8
    by_cases c9 : (ji7) < (l0.length : Int)
    ·rw [if_pos c9] at H
     have c9b0 : decide ((ji7) < (l0.length : Int)) = true := decide_eq_true c9
     clear c9
     by_cases c10 : 0 ≤ a1
     ·rw [if_pos c10] at H
      have c10b0 : decide (0 ≤ a1) = true := decide_eq_true c10
      clear c10
      by_cases c11 : a1 < (l0.length : Int)
      ·rw [if_pos c11] at H
       have c11b0 : decide (a1 < (l0.length : Int)) = true := decide_eq_true c11
       clear c11
       by_cases c12 : a1 < (t260.length : Int)
       ·rw [if_pos c12] at H
        have c12b0 : decide (a1 < (t260.length : Int)) = true := decide_eq_true c12
        clear c12
        obtain ⟨y266, hy266⟩ : ∃ y_ : List Int, y_ = (t260.set (a1 : Int).toNat (wrap64 ((wrap64 ((wrap64 (3 * (rd l0 (ji4)))) * (rd l0 (ji7)))) - (rd l0 a1)))) := ⟨_, rfl⟩
        replace H : ((slices_Sort_int_int.f y266).bind fun t267 => (some t267)) = some r := by first | (rw [hy266]; with_reducible exact H) | (have H2_ := (Option.bind_some _ _).symm.trans H; rw [hy266]; with_reducible exact H2_) | (have H2_ := (Option.bind_some _ _).symm.trans H; with_reducible exact H2_) | with_reducible exact H | (rw [hy266]; exact H) | exact H
        have Ny266 := Aside0.mk hy266
        clear hy266
        replace H := Option.bind_eq_some_iff.mp H
        obtain ⟨t267, A140, H⟩ := H
        replace H : (some t267) = some r := H
        have A14 := Aside0.mk A140
        clear A140
        obtain rfl := Option.some.inj H
        go_enter Try.func69, Try.ntmps69
        try go_wp2_with (first | ((with_reducible refine gate_callee (f := 75) rfl ?_); refine goesL_ (some 7) rfl rfl Try.func75 (by kernel_rfl) rfl #[.slice A0 l0.length c0] rfl (by (try simp only [List.map_toArray, List.map_cons, List.map_nil]); first | done | rfl | (simp only [List.length_drop, List.length_take]; rfl)) ?_; (with_reducible refine (slices_Clone_int_int.calls _ _ l0 t260 _ ?side1 ?side2 A3.out).mono ?_); (case side1 => repeat (first | exact HR0.out | (with_reducible refine Kd.C_alloc ?_ _) | (with_reducible refine Kd.C_drewN ?_ _) | (with_reducible refine Kd.C_drew ?_))); (case side2 => exact HC0.out); rintro e w15 ⟨v261, rfl, ho0, hb⟩; refine ⟨_, rfl, ?_⟩; have n0_ := Aside0.mk (Kd.R_lower ho0 (below_size (by repeat (first | (with_reducible first | exact HB.out | apply below_alloc | apply pw_below_drewN | apply below_drew1) | exact HB.out)))); have n1_ := Aside0.mk (below_step (by repeat (first | (with_reducible first | exact HB.out | apply below_alloc | apply pw_below_drewN | apply below_drew1) | exact HB.out)) hb); clear HB; have HO262 := n0_; have HB := n1_; clear n0_ n1_; (try clear hb); (try clear hb2); (try clear hk); (try clear hi); (try clear ho0)))
        have n0_ := Aside0.mk (Kd.R_drew HO262.out)
        have n1_ := Aside0.mk (below_drew1 HB.out)
        clear HO262
        clear HB
        have HO262 := n0_
        have HB := n1_
        clear n0_ n1_
        have p263 : 0 ≤ ((ji4) : Int) := of_decide_eq_true (by first | (with_reducible assumption) | assumption)
        have q263 : (ji4) < (l0.length : Int) := of_decide_eq_true (by first | (with_reducible assumption) | assumption)
        obtain ⟨ad263, e263, hx263_0⟩ := Kd.at_int HR0.out (ji4) p263 q263
        have hw263_0 := hx263_0
        cases e263
        replace hx263_0 := (HB.out.cell (World.block_lt_of_cell? w _ hx263_0)).trans hx263_0
        replace p263 := eq_true p263
        replace q263 := eq_true q263
        have p264 : 0 ≤ ((ji7) : Int) := of_decide_eq_true (by first | (with_reducible assumption) | assumption)
        have q264 : (ji7) < (l0.length : Int) := of_decide_eq_true (by first | (with_reducible assumption) | assumption)
        obtain ⟨ad264, e264, hx264_0⟩ := Kd.at_int HR0.out (ji7) p264 q264
        have hw264_0 := hx264_0
        obtain rfl : ad263 = ad264 := (by injection e264)
        replace hx264_0 := (HB.out.cell (World.block_lt_of_cell? w _ hx264_0)).trans hx264_0
        replace p264 := eq_true p264
        replace q264 := eq_true q264
        have p265 : 0 ≤ (a1 : Int) := of_decide_eq_true (by first | (with_reducible assumption) | assumption)
        have q265 : a1 < (l0.length : Int) := of_decide_eq_true (by first | (with_reducible assumption) | assumption)
        obtain ⟨ad265, e265, hx265_0⟩ := Kd.at_int HR0.out a1 p265 q265
        have hw265_0 := hx265_0
        obtain rfl : ad263 = ad265 := (by injection e265)
        replace hx265_0 := (HB.out.cell (World.block_lt_of_cell? w _ hx265_0)).trans hx265_0
        replace p265 := eq_true p265
        replace q265 := eq_true q265
        have p13 : 0 ≤ (a1 : Int) := of_decide_eq_true (by first | (with_reducible assumption) | assumption)
        have q13 : (a1 : Int) < ((t260.length : Int) : Int) := of_decide_eq_true (by first | (with_reducible assumption) | assumption)
        obtain ⟨go13, co13, eo13, gb13, gl13, cl13, HG13⟩ := Kd.R_form HO262.out (by omega)
        (first | cases eo13 | (injection eo13 with ea_ en_ ec_; (first | subst ea_ | (injection ea_ with ea_; subst ea_)); subst ec_; clear en_))
        have GB13 := Aside0.mk gb13
        have GG13 := Aside0.mk HG13
        clear gb13 gl13 HG13
        obtain ⟨hx13_0, hf13_0⟩ := Kd.R_celln 0 HO262.out (a1 : Int) p13 q13
        replace p13 := eq_true p13
        replace q13 := eq_true q13
        have HP17 := Kd.R_putn HO262.out (a1 : Int) (wrap64 ((wrap64 ((wrap64 (3 * (rd l0 (ji4)))) * (rd l0 (ji7)))) - (rd l0 a1)))
        rw [← Ny266.out] at HP17
        have HQ17 := Aside0.mk HP17
        clear HP17
        refine start_ (n := 23) (S := fun w' => w'.cell? (ad263.add ((ji4)).toNat) = some (.int .i64 (rd l0 (ji4))) ∧ w'.cell? (ad263.add ((ji7)).toNat) = some (.int .i64 (rd l0 (ji7))) ∧ w'.cell? (ad263.add (a1).toNat) = some (.int .i64 (rd l0 a1))) (ds := [22]) #[false, false, false, false, false, false, false, false, false, false, false, false, false, false, false, false, false, false, false, false, false, false, false] (by kernel_rfl) rfl rfl ⟨((HB.out.cell (World.block_lt_of_cell? w _ hw263_0)).trans hw263_0), ((HB.out.cell (World.block_lt_of_cell? w _ hw264_0)).trans hw264_0), ((HB.out.cell (World.block_lt_of_cell? w _ hw265_0)).trans hw265_0)⟩ (fun hHeld => ?_); refine with_tabW impl_moved.tab2 impl_moved.bits2 (fun HT_ HW_ => ?_)
        generalize w15.drew = w16 at HO262 HB GG13 HQ17 hf13_0 hx13_0 hx263_0 hx264_0 hx265_0 hHeld ⊢
        refine pure_ (i := 0) (N := some 8) (v := ?_) (a' := ?_) #[true, false, false, false, false, false, false, false, false, false, false, false, false, false, false, false, false, false, false, false, false, false, false] rfl rfl (any_of HT_.out (by kernel_rfl)) (fun _ _ _ h => h) (Or.inl ⟨by rfl, ?_⟩) ?_ ?_
        rotate_left
        ·intro w'
         go_simp
         with_reducible rfl
        rotate_left
        ·simp only [Act.put, List.setIfInBounds_toArray, List.set_cons_zero, List.set_cons_succ, i64_w, i32_w]
         rfl
        refine pure_ (i := 1) (N := some 9) (v := ?_) (a' := ?_) #[true, true, false, false, false, false, false, false, false, false, false, false, false, false, false, false, false, false, false, false, false, false, false] rfl rfl (any_of HT_.out (by kernel_rfl)) (fun _ _ _ h => h) (Or.inl ⟨by rfl, ?_⟩) ?_ ?_
        rotate_left
        ·intro w'
         go_simp
         with_reducible rfl
        rotate_left
        ·simp only [Act.put, List.setIfInBounds_toArray, List.set_cons_zero, List.set_cons_succ, i64_w, i32_w]
         rfl
        refine pure_ (i := 2) (N := some 10) (v := ?_) (a' := ?_) #[true, true, true, false, false, false, false, false, false, false, false, false, false, false, false, false, false, false, false, false, false, false, false] rfl rfl (any_of HT_.out (by kernel_rfl)) (fun _ _ _ h => h) (Or.inl ⟨by rfl, ?_⟩) ?_ ?_
        rotate_left
        ·intro w'
         go_simp
         with_reducible rfl
        rotate_left
        ·simp only [Act.put, List.setIfInBounds_toArray, List.set_cons_zero, List.set_cons_succ, i64_w, i32_w]
         rfl
        refine pure_ (i := 3) (N := some 11) (v := ?_) (a' := ?_) #[true, true, true, true, false, false, false, false, false, false, false, false, false, false, false, false, false, false, false, false, false, false, false] rfl rfl (any_of HT_.out (by kernel_rfl)) (fun _ _ _ h => h) (Or.inl ⟨by rfl, ?_⟩) ?_ ?_
        rotate_left
        ·intro w'
         go_simp
         with_reducible rfl
        rotate_left
        ·simp only [Act.put, List.setIfInBounds_toArray, List.set_cons_zero, List.set_cons_succ, i64_w, i32_w]
         rfl
        refine pure_ (i := 4) (N := some 12) (v := ?_) (a' := ?_) #[true, true, true, true, true, false, false, false, false, false, false, false, false, false, false, false, false, false, false, false, false, false, false] rfl rfl (any_of HT_.out (by kernel_rfl)) (fun _ _ _ h => h) (Or.inl ⟨by rfl, ?_⟩) ?_ ?_
        rotate_left
        ·intro w'
         go_simp
         with_reducible rfl
        rotate_left
        ·simp only [Act.put, List.setIfInBounds_toArray, List.set_cons_zero, List.set_cons_succ, i64_w, i32_w]
         rfl
        refine pure_ (i := 5) (N := some 13) (v := ?_) (a' := ?_) #[true, true, true, true, true, true, false, false, false, false, false, false, false, false, false, false, false, false, false, false, false, false, false] rfl rfl (any_of HT_.out (by kernel_rfl)) (fun _ _ _ h => h) (Or.inl ⟨by rfl, ?_⟩) ?_ ?_
        rotate_left
        ·intro w'
         go_simp
         with_reducible rfl
        rotate_left
        ·simp only [Act.put, List.setIfInBounds_toArray, List.set_cons_zero, List.set_cons_succ, i64_w, i32_w]
         rfl
        refine pure_ (i := 6) (N := some 14) (v := ?_) (a' := ?_) #[true, true, true, true, true, true, true, false, false, false, false, false, false, false, false, false, false, false, false, false, false, false, false] rfl rfl (any_of HT_.out (by kernel_rfl)) (fun _ _ _ h => h) (Or.inl ⟨by rfl, ?_⟩) ?_ ?_
        rotate_left
        ·intro w'
         go_simp
         with_reducible rfl
        rotate_left
        ·simp only [Act.put, List.setIfInBounds_toArray, List.set_cons_zero, List.set_cons_succ, i64_w, i32_w]
         rfl
        refine pure_ (i := 9) (N := some 17) (v := ?_) (a' := ?_) #[true, true, true, true, true, true, true, false, false, true, false, false, false, false, false, false, false, false, false, false, false, false, false] rfl rfl (any_of HT_.out (by kernel_rfl)) (fun _ _ _ h => h) (Or.inl ⟨by rfl, ?_⟩) ?_ ?_
        rotate_left
        ·intro w'
         go_simp
         with_reducible rfl
        rotate_left
        ·simp only [Act.put, List.setIfInBounds_toArray, List.set_cons_zero, List.set_cons_succ, i64_w, i32_w]
         rfl
        refine pure_ (i := 10) (N := some 18) (v := ?_) (a' := ?_) #[true, true, true, true, true, true, true, false, false, true, true, false, false, false, false, false, false, false, false, false, false, false, false] rfl rfl (any_of HT_.out (by kernel_rfl)) (fun _ _ _ h => h) (Or.inl ⟨by rfl, ?_⟩) ?_ ?_
        rotate_left
        ·intro w'
         go_simp
         with_reducible rfl
        rotate_left
        ·simp only [Act.put, List.setIfInBounds_toArray, List.set_cons_zero, List.set_cons_succ, i64_w, i32_w]
         rfl
        refine pure_ (i := 11) (N := some 19) (v := ?_) (a' := ?_) #[true, true, true, true, true, true, true, false, false, true, true, true, false, false, false, false, false, false, false, false, false, false, false] rfl rfl (any_of HT_.out (by kernel_rfl)) (fun _ _ _ h => h) (Or.inl ⟨by rfl, ?_⟩) ?_ ?_
        rotate_left
        ·intro w'
         go_simp
         with_reducible rfl
        rotate_left
        ·simp only [Act.put, List.setIfInBounds_toArray, List.set_cons_zero, List.set_cons_succ, i64_w, i32_w]
         rfl
        refine pure_ (i := 12) (N := some 20) (v := ?_) (a' := ?_) #[true, true, true, true, true, true, true, false, false, true, true, true, true, false, false, false, false, false, false, false, false, false, false] rfl rfl (any_of HT_.out (by kernel_rfl)) (fun _ _ _ h => h) (Or.inl ⟨by rfl, ?_⟩) ?_ ?_
        rotate_left
        ·intro w'
         go_simp
         with_reducible rfl
        rotate_left
        ·simp only [Act.put, List.setIfInBounds_toArray, List.set_cons_zero, List.set_cons_succ, i64_w, i32_w]
         rfl
        refine pure_ (i := 13) (N := some 21) (v := ?_) (a' := ?_) #[true, true, true, true, true, true, true, false, false, true, true, true, true, true, false, false, false, false, false, false, false, false, false] rfl rfl (any_of HT_.out (by kernel_rfl)) (fun _ _ _ h => h) (Or.inl ⟨by rfl, ?_⟩) ?_ ?_
        rotate_left
        ·intro w'
         go_simp
         with_reducible rfl
        rotate_left
        ·simp only [Act.put, List.setIfInBounds_toArray, List.set_cons_zero, List.set_cons_succ, i64_w, i32_w]
         rfl
        refine pure_ (i := 16) (N := some 24) (v := ?_) (a' := ?_) #[true, true, true, true, true, true, true, false, false, true, true, true, true, true, false, false, true, false, false, false, false, false, false] rfl rfl (any_of HT_.out (by kernel_rfl)) (fun _ _ _ h => h) (Or.inl ⟨by rfl, ?_⟩) ?_ ?_
        rotate_left
        ·intro w'
         go_simp
         with_reducible rfl
        rotate_left
        ·simp only [Act.put, List.setIfInBounds_toArray, List.set_cons_zero, List.set_cons_succ, i64_w, i32_w]
         rfl
        refine pure_ (i := 17) (N := some 25) (v := ?_) (a' := ?_) #[true, true, true, true, true, true, true, false, false, true, true, true, true, true, false, false, true, true, false, false, false, false, false] rfl rfl (any_of HT_.out (by kernel_rfl)) (fun _ _ _ h => h) (Or.inl ⟨by rfl, ?_⟩) ?_ ?_
        rotate_left
        ·intro w'
         go_simp
         with_reducible rfl
        rotate_left
        ·simp only [Act.put, List.setIfInBounds_toArray, List.set_cons_zero, List.set_cons_succ, i64_w, i32_w]
         rfl
        refine pure_ (i := 18) (N := some 26) (v := ?_) (a' := ?_) #[true, true, true, true, true, true, true, false, false, true, true, true, true, true, false, false, true, true, true, false, false, false, false] rfl rfl (any_of HT_.out (by kernel_rfl)) (fun _ _ _ h => h) (Or.inl ⟨by rfl, ?_⟩) ?_ ?_
        rotate_left
        ·intro w'
         go_simp
         with_reducible rfl
        rotate_left
        ·simp only [Act.put, List.setIfInBounds_toArray, List.set_cons_zero, List.set_cons_succ, i64_w, i32_w]
         rfl
        refine take_ (i := 7) (N := some 15) (v := ?_) (a' := ?_) #[true, true, true, true, true, true, true, true, false, true, true, true, true, true, false, false, true, true, true, false, false, false, false] rfl rfl (take_ofW HT_.out HW_.out (by kernel_rfl)) (fun _ _ _ h => h) (Or.inl ⟨by rfl, ?_⟩) hHeld ?_ ?_
        rotate_left
        ·rintro w' ⟨s0, s1, s2⟩
         go_simp
         with_reducible rfl
        rotate_left
        ·simp only [Act.put, List.setIfInBounds_toArray, List.set_cons_zero, List.set_cons_succ, i64_w, i32_w]
         rfl
        refine pure_ (i := 8) (N := some 16) (v := ?_) (a' := ?_) #[true, true, true, true, true, true, true, true, true, true, true, true, true, true, false, false, true, true, true, false, false, false, false] rfl rfl (any_of HT_.out (by kernel_rfl)) (fun _ _ _ h => h) (Or.inl ⟨by rfl, ?_⟩) ?_ ?_
        rotate_left
        ·intro w'
         go_simp
         with_reducible rfl
        rotate_left
        ·simp only [Act.put, List.setIfInBounds_toArray, List.set_cons_zero, List.set_cons_succ, i64_w, i32_w]
         rfl
        refine take_ (i := 14) (N := some 22) (v := ?_) (a' := ?_) #[true, true, true, true, true, true, true, true, true, true, true, true, true, true, true, false, true, true, true, false, false, false, false] rfl rfl (take_ofW HT_.out HW_.out (by kernel_rfl)) (fun _ _ _ h => h) (Or.inl ⟨by rfl, ?_⟩) hHeld ?_ ?_
        rotate_left
        ·rintro w' ⟨s0, s1, s2⟩
         go_simp
         with_reducible rfl
        rotate_left
        ·simp only [Act.put, List.setIfInBounds_toArray, List.set_cons_zero, List.set_cons_succ, i64_w, i32_w]
         rfl
        refine pure_ (i := 15) (N := some 23) (v := ?_) (a' := ?_) #[true, true, true, true, true, true, true, true, true, true, true, true, true, true, true, true, true, true, true, false, false, false, false] rfl rfl (any_of HT_.out (by kernel_rfl)) (fun _ _ _ h => h) (Or.inl ⟨by rfl, ?_⟩) ?_ ?_
        rotate_left
        ·intro w'
         go_simp
         with_reducible rfl
        rotate_left
        ·simp only [Act.put, List.setIfInBounds_toArray, List.set_cons_zero, List.set_cons_succ, i64_w, i32_w]
         rfl
        refine take_ (i := 19) (N := some 27) (v := ?_) (a' := ?_) #[true, true, true, true, true, true, true, true, true, true, true, true, true, true, true, true, true, true, true, true, false, false, false] rfl rfl (take_ofW HT_.out HW_.out (by kernel_rfl)) (fun _ _ _ h => h) (Or.inl ⟨by rfl, ?_⟩) hHeld ?_ ?_
        rotate_left
        ·rintro w' ⟨s0, s1, s2⟩
         go_simp
         with_reducible rfl
        rotate_left
        ·simp only [Act.put, List.setIfInBounds_toArray, List.set_cons_zero, List.set_cons_succ, i64_w, i32_w]
         rfl
        refine pure_ (i := 20) (N := some 28) (v := ?_) (a' := ?_) #[true, true, true, true, true, true, true, true, true, true, true, true, true, true, true, true, true, true, true, true, true, false, false] rfl rfl (any_of HT_.out (by kernel_rfl)) (fun _ _ _ h => h) (Or.inl ⟨by rfl, ?_⟩) ?_ ?_
        rotate_left
        ·intro w'
         go_simp
         with_reducible rfl
        rotate_left
        ·simp only [Act.put, List.setIfInBounds_toArray, List.set_cons_zero, List.set_cons_succ, i64_w, i32_w]
         rfl
        refine pure_ (i := 21) (N := some 29) (v := ?_) (a' := ?_) #[true, true, true, true, true, true, true, true, true, true, true, true, true, true, true, true, true, true, true, true, true, true, false] rfl rfl (any_of HT_.out (by kernel_rfl)) (fun _ _ _ h => h) (Or.inl ⟨by rfl, ?_⟩) ?_ ?_
        rotate_left
        ·intro w'
         go_simp
         with_reducible rfl
        rotate_left
        ·simp only [Act.put, List.setIfInBounds_toArray, List.set_cons_zero, List.set_cons_succ, i64_w, i32_w]
         rfl
        refine last_ (i := 22) (N := none) #[true, true, true, true, true, true, true, true, true, true, true, true, true, true, true, true, true, true, true, true, true, true, true] rfl rfl (one_of HT_.out (by kernel_rfl)) (by decide) (fun K hK => ?_)
        refine skip_ (w1 := ?_) (by rfl) rfl ?_ ?_
        rotate_left
        ·go_simp
         rfl
        refine hK.out _ _ ?_
        clear hK K
        refine done_ (done_of HT_.out (by kernel_rfl)) ?_
        have n0_ : Aside0 (Kd.R (Kd.int .i64) 3 (w16.setCell ⟨go13, (a1 : Int).toNat, none⟩ (.int .i64 (wrap64 ((wrap64 ((wrap64 (3 * (rd l0 (ji4)))) * (rd l0 (ji7)))) - (rd l0 a1))))) w.heap.size (fun _ => True) (.slice (some ⟨go13, 0, none⟩) t260.length co13) y266) := ⟨by (with_reducible repeat (first | apply Kd.R_alloc | apply Kd.R_drewN | apply Kd.R_drew)); exact HQ17.out⟩
        have n1_ : Aside0 (Below w.heap.size w (w16.setCell ⟨go13, (a1 : Int).toNat, none⟩ (.int .i64 (wrap64 ((wrap64 ((wrap64 (3 * (rd l0 (ji4)))) * (rd l0 (ji7)))) - (rd l0 a1)))))) := ⟨by repeat (first | (with_reducible first | exact HB.out | apply below_alloc | apply pw_below_drewN | apply below_drew1 | refine below_set ?_ GB13.out) | exact HB.out)⟩
        (try clear HO262)
        (try clear HB)
        generalize (w16.setCell ⟨go13, (a1 : Int).toNat, none⟩ (.int .i64 (wrap64 ((wrap64 ((wrap64 (3 * (rd l0 (ji4)))) * (rd l0 (ji7)))) - (rd l0 a1))))) = w18 at n0_ n1_ ⊢
        have HO262 := n0_
        have HB := n1_
        clear n0_ n1_
        try go_wp2_with (first | ((with_reducible refine gate_callee (f := 97) rfl ?_); refine goesL_ (some 31) rfl rfl Try.func97 (by kernel_rfl) rfl #[.slice (some ⟨go13, 0, none⟩) t260.length co13] rfl (by (try simp only [List.map_toArray, List.map_cons, List.map_nil]); first | done | rfl | (simp only [List.length_drop, List.length_take]; rfl)) ?_; (with_reducible refine (slices_Sort_int_int.calls (fun k_ => some k_ = (.slice (some ⟨go13, 0, none⟩) t260.length co13 : Value).ownBlock) (.slice (some ⟨go13, 0, none⟩) t260.length co13) y266 t267 w _ ?side1 ?side2 A14.out).mono ?_); (case side1 => repeat (first | (with_reducible first | exact HB.out | apply below_alloc | apply pw_below_drewN | apply below_drew1) | exact HB.out)); (case side2 => exact Kd.R_tight rfl HO262.out); rintro e w19 ⟨rfl, hy0, hb, hkp⟩; refine ⟨_, rfl, ?_⟩; have n0_ := Aside0.mk (Kd.R_reok rfl hy0 (fun k_ e_ => HO262.out.1 k_ e_)); have n1_ := Aside0.mk (hb); clear HO262; clear HB; have HO262 := n0_; have HB := n1_; clear n0_ n1_; (try clear hb); (try clear hkp); (try clear hy0)))
        go_ret
        exact ⟨_, by first | rfl | (simp [errW_none, errW_some] <;> rfl) | (simp only [← hji4, ← hji7]; first | rfl | (simp [errW_none, errW_some] <;> rfl)) | (simp [*, errW_none, errW_some] <;> rfl), by (with_reducible repeat (first | apply Kd.R_alloc | apply Kd.R_drewN | apply Kd.R_drew)); exact HO262.out, by repeat (first | (with_reducible first | exact HB.out | apply below_alloc | apply pw_below_drewN | apply below_drew1) | exact HB.out)⟩
       ·rw [if_neg c12] at H
        exact absurd H (by simp)
      ·rw [if_neg c11] at H
       exact absurd H (by simp)
     ·rw [if_neg c10] at H
      exact absurd H (by simp)
    ·rw [if_neg c9] at H
     exact absurd H (by simp)
   ·rw [if_neg c8] at H
    exact absurd H (by simp)
  ·rw [if_neg c6] at H
   exact absurd H (by simp)
 ·rw [if_neg c5] at H
  exact absurd H (by simp)

end Go.Proofs.Ythkmbkibceojlaa.P

-- PFimplMarkovDown
namespace Go.Proofs.Ythkmbkibceojlaa.P
open Go.RowKit Go.Proofs.YthkmbkibceojlaaW.PrintWords Go.Proofs.YthkmbkibceojlaaW.PrintLast
set_option linter.unusedVariables false
set_option linter.unusedSimpArgs false

/-! ### impl_MarkovDown: function 24 -/
def impl_MarkovDown.f (k : Nat) (l0 : List Int) : Option (List Int × Bool) := (impl_IsMarkov.f k l0).bind fun t268 => (if t268 = true then (if 2 < (l0.length : Int) then (if (rd l0 2) = 1 then (some (([] : List Int), false)) else ((impl_moved.f l0 2).bind fun t270 => (some (t270, true)))) else (none)) else (some (([] : List Int), false)))
theorem impl_MarkovDown.mono : ∀ a0 k, LeO (impl_MarkovDown.f k a0) (impl_MarkovDown.f (k + 1) a0) := by
 intro a0 k
 unfold impl_MarkovDown.f
 repeat' first
   | (with_reducible exact impl_IsMarkov.mono _ _)
   | (with_reducible exact LeO.refl _)
   | (with_reducible exact LeO.none _)
   | (with_reducible refine LeO.ite ?_ ?_)
   | (with_reducible refine LeO.bind ?_ (fun _ => ?_))
   | exact impl_IsMarkov.mono _ _
   | exact LeO.none _
   | refine LeO.ite ?_ ?_
   | refine LeO.bind ?_ (fun _ => ?_)
set_option maxHeartbeats 8000000 in
set_option maxRecDepth 100000 in
theorem impl_MarkovDown.calls (k : Nat) (A0 : Option Addr) (c0 : Nat) (l0 : List Int) (r1 : List Int) (r2 : Bool) (w : World) (hr0 : Kd.C (Kd.int .i64) w A0 l0.length l0) (hc0 : l0.length ≤ c0) (h : impl_MarkovDown.f k l0 = some (r1, r2)) :
  Calls Try.prog 24 #[.slice A0 l0.length c0] w fun e w' => ∃ v0_ : Value, e = .returned (.tuple #[v0_, .bool r2]) ∧ Kd.R (Kd.int .i64) 3 w' w.heap.size (fun _ => True) v0_ r1 ∧ Below w.heap.size w w' := by
 have HR0 := Aside0.mk hr0
 have HC0 := Aside0.mk hc0
 clear hr0 hc0
 have HB := Aside0.mk (Below.refl w.heap.size w)
 have H : ((impl_IsMarkov.f k l0).bind fun t268 => (if t268 = true then (if 2 < (l0.length : Int) then (if (rd l0 2) = 1 then (some (([] : List Int), false)) else ((impl_moved.f l0 2).bind fun t270 => (some (t270, true)))) else (none)) else (some (([] : List Int), false)))) = some (r1, r2) := h
 clear h
 replace H := Option.bind_eq_some_iff.mp H
 obtain ⟨t268, A20, H⟩ := H
 replace H : (if t268 = true then (if 2 < (l0.length : Int) then (if (rd l0 2) = 1 then (some (([] : List Int), false)) else ((impl_moved.f l0 2).bind fun t270 => (some (t270, true)))) else (none)) else (some (([] : List Int), false))) = some (r1, r2) := H
 have A2 := Aside0.mk A20
 clear A20
 by_cases c3 : t268 = true
 ·subst c3
  have H1 : (if 2 < (l0.length : Int) then (if (rd l0 2) = 1 then (some (([] : List Int), false)) else ((impl_moved.f l0 2).bind fun t270 => (some (t270, true)))) else (none)) = some (r1, r2) := by rw [if_pos rfl] at H; exact H
  clear H
  have H := H1
  clear H1
  by_cases c4 : 2 < (l0.length : Int)
  ·rw [if_pos c4] at H
   have c4b0 : decide (2 < (l0.length : Int)) = true := decide_eq_true c4
   have c4b1 : decide (2 < l0.length) = true := decide_eq_true (by omega)
   clear c4
   by_cases c5 : (rd l0 2) = 1
   ·rw [if_pos c5] at H
    have c5b0 : ((rd l0 2) == 1) = true := beq_iff_eq.mpr c5
    have c5b1 : ((rd l0 2) != 1) = false := bne_eq_false_iff_eq.mpr c5
    clear c5
    simp only [Option.some.injEq, Prod.mk.injEq] at H
    obtain ⟨rfl, rfl⟩ := H
    go_enter Try.func24, Try.ntmps24
    go_wp2_with (first | ((with_reducible refine gate_callee (f := 48) rfl ?_); refine goesL_ (some 5) rfl rfl Try.func48 (by kernel_rfl) rfl #[.slice A0 l0.length c0] rfl (by (try simp only [List.map_toArray, List.map_cons, List.map_nil]); first | done | rfl | (simp only [List.length_drop, List.length_take]; rfl)) ?_; (with_reducible refine (impl_IsMarkov.calls k _ _ l0 true _ ?side1 ?side2 A2.out).mono ?_); (case side1 => repeat (first | exact HR0.out | (with_reducible refine Kd.C_alloc ?_ _) | (with_reducible refine Kd.C_drewN ?_ _) | (with_reducible refine Kd.C_drew ?_))); (case side2 => exact HC0.out); rintro e w6 ⟨rfl, hb⟩; refine ⟨_, rfl, ?_⟩; have n0_ := Aside0.mk (below_step (by repeat (first | (with_reducible first | exact HB.out | apply below_alloc | apply pw_below_drewN | apply below_drew1) | exact HB.out)) hb); clear HB; have HB := n0_; clear n0_; (try clear hb); (try clear hb2); (try clear hk); (try clear hi); have p269 : 0 ≤ (2 : Int) := (by omega); have q269 : 2 < (l0.length : Int) := of_decide_eq_true (by first | (with_reducible assumption) | assumption); obtain ⟨ad269, e269, hx269_0⟩ := Kd.at_int HR0.out 2 p269 q269; cases e269; (try simp only [show (2 : Int).toNat = 2 from rfl, Nat.reduceMul, Nat.reduceEqDiff, Go.Addr.add, ↓reduceIte] at hx269_0); have qi269 : (2 < l0.length) = True := eq_true (by omega); (try rw [show ((2 : Int)).toNat = 2 from rfl] at hx269_0); replace hx269_0 := (HB.out.cell (World.block_lt_of_cell? w _ hx269_0)).trans hx269_0; replace p269 := eq_true p269; replace q269 := eq_true q269))
    go_ret2
    exact ⟨_, by first | rfl | (simp [errW_none, errW_some] <;> rfl) | (simp [*, errW_none, errW_some] <;> rfl), by first | exact Kd.R_nil _ _ _ _ _ | exact Kd.N_nil _ _ _ _ _ | exact Kd.V_nil _ _ _ _ _ | exact Kd.Q_nil _ _ _ _ _ | exact Kd.S_nil _ _ _ _ _, by repeat (first | (with_reducible first | exact HB.out | apply below_alloc | apply pw_below_drewN | apply below_drew1) | exact HB.out)⟩
   ·rw [if_neg c5] at H
    have c5b0 : ((rd l0 2) == 1) = false := beq_eq_false_iff_ne.mpr c5
    have c5b1 : ((rd l0 2) != 1) = true := bne_iff_ne.mpr c5
    replace H := Option.bind_eq_some_iff.mp H
    obtain ⟨t270, A70, H⟩ := H
    replace H : (some (t270, true)) = some (r1, r2) := H
    have A7 := Aside0.mk A70
    clear A70
    simp only [Option.some.injEq, Prod.mk.injEq] at H
    obtain ⟨rfl, rfl⟩ := H
    go_enter Try.func24, Try.ntmps24
    go_wp2_with (first | ((with_reducible refine gate_callee (f := 48) rfl ?_); refine goesL_ (some 5) rfl rfl Try.func48 (by kernel_rfl) rfl #[.slice A0 l0.length c0] rfl (by (try simp only [List.map_toArray, List.map_cons, List.map_nil]); first | done | rfl | (simp only [List.length_drop, List.length_take]; rfl)) ?_; (with_reducible refine (impl_IsMarkov.calls k _ _ l0 true _ ?side1 ?side2 A2.out).mono ?_); (case side1 => repeat (first | exact HR0.out | (with_reducible refine Kd.C_alloc ?_ _) | (with_reducible refine Kd.C_drewN ?_ _) | (with_reducible refine Kd.C_drew ?_))); (case side2 => exact HC0.out); rintro e w8 ⟨rfl, hb⟩; refine ⟨_, rfl, ?_⟩; have n0_ := Aside0.mk (below_step (by repeat (first | (with_reducible first | exact HB.out | apply below_alloc | apply pw_below_drewN | apply below_drew1) | exact HB.out)) hb); clear HB; have HB := n0_; clear n0_; (try clear hb); (try clear hb2); (try clear hk); (try clear hi); have p269 : 0 ≤ (2 : Int) := (by omega); have q269 : 2 < (l0.length : Int) := of_decide_eq_true (by first | (with_reducible assumption) | assumption); obtain ⟨ad269, e269, hx269_0⟩ := Kd.at_int HR0.out 2 p269 q269; cases e269; (try simp only [show (2 : Int).toNat = 2 from rfl, Nat.reduceMul, Nat.reduceEqDiff, Go.Addr.add, ↓reduceIte] at hx269_0); have qi269 : (2 < l0.length) = True := eq_true (by omega); (try rw [show ((2 : Int)).toNat = 2 from rfl] at hx269_0); replace hx269_0 := (HB.out.cell (World.block_lt_of_cell? w _ hx269_0)).trans hx269_0; replace p269 := eq_true p269; replace q269 := eq_true q269) | ((with_reducible refine gate_callee (f := 69) rfl ?_); refine goesL_ (some 14) rfl rfl Try.func69 (by kernel_rfl) rfl #[.slice (some ad269) l0.length c0, .int .i64 2] rfl (by (try simp only [List.map_toArray, List.map_cons, List.map_nil]); first | done | rfl | (simp only [List.length_drop, List.length_take]; rfl)) ?_; (with_reducible refine (impl_moved.calls _ _ l0 2 t270 _ ?side1 ?side2 A7.out).mono ?_); (case side1 => repeat (first | exact (Kd.C_below HR0.out HB.out) | (with_reducible refine Kd.C_alloc ?_ _) | (with_reducible refine Kd.C_drewN ?_ _) | (with_reducible refine Kd.C_drew ?_))); (case side2 => exact HC0.out); rintro e w9 ⟨v271, rfl, ho0, hb⟩; refine ⟨_, rfl, ?_⟩; have n0_ := Aside0.mk (Kd.R_lower ho0 (below_size (by repeat (first | (with_reducible first | exact HB.out | apply below_alloc | apply pw_below_drewN | apply below_drew1) | exact HB.out)))); have n1_ := Aside0.mk (below_step (by repeat (first | (with_reducible first | exact HB.out | apply below_alloc | apply pw_below_drewN | apply below_drew1) | exact HB.out)) hb); clear HB; have HO272 := n0_; have HB := n1_; clear n0_ n1_; (try clear hb); (try clear hb2); (try clear hk); (try clear hi); (try clear ho0)))
    go_ret2
    exact ⟨_, by first | rfl | (simp [errW_none, errW_some] <;> rfl) | (simp [*, errW_none, errW_some] <;> rfl), by (with_reducible repeat (first | apply Kd.R_alloc | apply Kd.R_drewN | apply Kd.R_drew)); exact HO272.out, by repeat (first | (with_reducible first | exact HB.out | apply below_alloc | apply pw_below_drewN | apply below_drew1) | exact HB.out)⟩
  ·rw [if_neg c4] at H
   exact absurd H (by simp)
 ·replace c3 := Bool.eq_false_iff.mpr c3
  subst c3
  have H1 : (some (([] : List Int), false)) = some (r1, r2) := by rw [if_neg (show ¬ (false = true) by decide)] at H; exact H
  clear H
  have H := H1
  clear H1
  simp only [Option.some.injEq, Prod.mk.injEq] at H
  obtain ⟨rfl, rfl⟩ := H
  go_enter Try.func24, Try.ntmps24
  go_wp2_with (first | ((with_reducible refine gate_callee (f := 48) rfl ?_); refine goesL_ (some 5) rfl rfl Try.func48 (by kernel_rfl) rfl #[.slice A0 l0.length c0] rfl (by (try simp only [List.map_toArray, List.map_cons, List.map_nil]); first | done | rfl | (simp only [List.length_drop, List.length_take]; rfl)) ?_; (with_reducible refine (impl_IsMarkov.calls k _ _ l0 false _ ?side1 ?side2 A2.out).mono ?_); (case side1 => repeat (first | exact HR0.out | (with_reducible refine Kd.C_alloc ?_ _) | (with_reducible refine Kd.C_drewN ?_ _) | (with_reducible refine Kd.C_drew ?_))); (case side2 => exact HC0.out); rintro e w10 ⟨rfl, hb⟩; refine ⟨_, rfl, ?_⟩; have n0_ := Aside0.mk (below_step (by repeat (first | (with_reducible first | exact HB.out | apply below_alloc | apply pw_below_drewN | apply below_drew1) | exact HB.out)) hb); clear HB; have HB := n0_; clear n0_; (try clear hb); (try clear hb2); (try clear hk); (try clear hi)))
  go_ret2
  exact ⟨_, by first | rfl | (simp [errW_none, errW_some] <;> rfl) | (simp [*, errW_none, errW_some] <;> rfl), by first | exact Kd.R_nil _ _ _ _ _ | exact Kd.N_nil _ _ _ _ _ | exact Kd.V_nil _ _ _ _ _ | exact Kd.Q_nil _ _ _ _ _ | exact Kd.S_nil _ _ _ _ _, by repeat (first | (with_reducible first | exact HB.out | apply below_alloc | apply pw_below_drewN | apply below_drew1) | exact HB.out)⟩

end Go.Proofs.Ythkmbkibceojlaa.P

-- PFimplMarkovMove
namespace Go.Proofs.Ythkmbkibceojlaa.P
open Go.RowKit Go.Proofs.YthkmbkibceojlaaW.PrintWords Go.Proofs.YthkmbkibceojlaaW.PrintLast
set_option linter.unusedVariables false
set_option linter.unusedSimpArgs false

/-! ### impl_MarkovMove: function 28 -/
def impl_MarkovMove.j0 : Nat → List Int → Int → Bool → Option (List Int × Bool)
 | 0, _, _, _ => none
 | k + 1, x0, x1, x14 => if x14 = true then (some (([] : List Int), false)) else ((impl_moved.f x0 x1).bind fun t363 => (if 2 < (t363.length : Int) then (if (rd t363 2) > 1000000000 then (some (([] : List Int), false)) else (some (t363, true))) else (none)))
def impl_MarkovMove.f (k : Nat) (l0 : List Int) (a1 : Int) : Option (List Int × Bool) := (impl_IsMarkov.f k l0).bind fun t361 => (if t361 = true then ((impl_within.f a1 0 2).bind fun t362 => (impl_MarkovMove.j0 k l0 a1 (!t362))) else (impl_MarkovMove.j0 k l0 a1 true))
theorem impl_MarkovMove.mono_l : ∀ k, (∀ y0 y1 y2, LeO (impl_MarkovMove.j0 k y0 y1 y2) (impl_MarkovMove.j0 (k + 1) y0 y1 y2))
 | 0 => fun _ _ _ r h => by simp [impl_MarkovMove.j0] at h
 | k + 1 => by
  have ih0 := impl_MarkovMove.mono_l k
  ·intro y0 y1 y2
   unfold impl_MarkovMove.j0
   repeat' first
   | (with_reducible exact ih0 _ _ _)
   | (with_reducible exact impl_IsMarkov.mono _ _)
   | (with_reducible exact LeO.refl _)
   | (with_reducible exact LeO.none _)
   | (with_reducible refine LeO.ite ?_ ?_)
   | (with_reducible refine LeO.bind ?_ (fun _ => ?_))
   | exact ih0 _ _ _
   | exact impl_IsMarkov.mono _ _
   | exact LeO.none _
   | refine LeO.ite ?_ ?_
   | refine LeO.bind ?_ (fun _ => ?_)
theorem impl_MarkovMove.mono : ∀ a0 a1 k, LeO (impl_MarkovMove.f k a0 a1) (impl_MarkovMove.f (k + 1) a0 a1) := by
 intro a0 a1 k
 have ih0 := impl_MarkovMove.mono_l k
 unfold impl_MarkovMove.f
 repeat' first
   | (with_reducible exact ih0 _ _ _)
   | (with_reducible exact impl_IsMarkov.mono _ _)
   | (with_reducible exact LeO.refl _)
   | (with_reducible exact LeO.none _)
   | (with_reducible refine LeO.ite ?_ ?_)
   | (with_reducible refine LeO.bind ?_ (fun _ => ?_))
   | exact ih0 _ _ _
   | exact impl_IsMarkov.mono _ _
   | exact LeO.none _
   | refine LeO.ite ?_ ?_
   | refine LeO.bind ?_ (fun _ => ?_)
set_option maxHeartbeats 8000000 in
set_option maxRecDepth 100000 in
theorem impl_MarkovMove.calls (k : Nat) (A0 : Option Addr) (c0 : Nat) (l0 : List Int) (a1 : Int) (r1 : List Int) (r2 : Bool) (w : World) (hr0 : Kd.C (Kd.int .i64) w A0 l0.length l0) (hc0 : l0.length ≤ c0) (h : impl_MarkovMove.f k l0 a1 = some (r1, r2)) :
  Calls Try.prog 28 #[.slice A0 l0.length c0, .int .i64 a1] w fun e w' => ∃ v0_ : Value, e = .returned (.tuple #[v0_, .bool r2]) ∧ Kd.R (Kd.int .i64) 3 w' w.heap.size (fun _ => True) v0_ r1 ∧ Below w.heap.size w w' := by
 have HR0 := Aside0.mk hr0
 have HC0 := Aside0.mk hc0
 clear hr0 hc0
 have HB := Aside0.mk (Below.refl w.heap.size w)
 have H : ((impl_IsMarkov.f k l0).bind fun t361 => (if t361 = true then ((impl_within.f a1 0 2).bind fun t362 => (impl_MarkovMove.j0 k l0 a1 (!t362))) else (impl_MarkovMove.j0 k l0 a1 true))) = some (r1, r2) := h
 clear h
 have HC3 := Aside0.mk H
 clear H
 go_enter Try.func28, Try.ntmps28
 go_upto_region 1 with (fail)
 go_cut [14] (fun v14 wc => ∃ (kq : Nat) (x14_2 : Bool), v14 = .bool x14_2 ∧ Aside0 (impl_MarkovMove.j0 kq l0 a1 x14_2 = some (r1, r2)) ∧ Aside0 (kq ≤ k) ∧ Aside0 (Below w.heap.size w wc))
 case first =>
  have H := HC3.out
  clear HC3
  replace H := Option.bind_eq_some_iff.mp H
  obtain ⟨t361, A40, H⟩ := H
  replace H : (if t361 = true then ((impl_within.f a1 0 2).bind fun t362 => (impl_MarkovMove.j0 k l0 a1 (!t362))) else (impl_MarkovMove.j0 k l0 a1 true)) = some (r1, r2) := H
  have A4 := Aside0.mk A40
  clear A40
  by_cases c5 : t361 = true
  ·subst c5
   have H1 : ((impl_within.f a1 0 2).bind fun t362 => (impl_MarkovMove.j0 k l0 a1 (!t362))) = some (r1, r2) := by rw [if_pos rfl] at H; exact H
   clear H
   have H := H1
   clear H1
   replace H := Option.bind_eq_some_iff.mp H
   obtain ⟨t362, A60, H⟩ := H
   replace H : (impl_MarkovMove.j0 k l0 a1 (!t362)) = some (r1, r2) := H
   have A6 := Aside0.mk A60
   clear A60
   have H' := Aside0.mk H
   clear H
   go_wp2_with (first | ((with_reducible refine gate_callee (f := 48) rfl ?_); refine goesL_ (some 8) rfl rfl Try.func48 (by kernel_rfl) rfl #[.slice A0 l0.length c0] rfl (by (try simp only [List.map_toArray, List.map_cons, List.map_nil]); first | done | rfl | (simp only [List.length_drop, List.length_take]; rfl)) ?_; (with_reducible refine (impl_IsMarkov.calls k _ _ l0 true _ ?side1 ?side2 A4.out).mono ?_); (case side1 => repeat (first | exact (Kd.C_below HR0.out HB.out) | (with_reducible refine Kd.C_alloc ?_ _) | (with_reducible refine Kd.C_drewN ?_ _) | (with_reducible refine Kd.C_drew ?_))); (case side2 => exact HC0.out); rintro e w7 ⟨rfl, hb⟩; refine ⟨_, rfl, ?_⟩; have n0_ := Aside0.mk (below_step (by repeat (first | (with_reducible first | exact HB.out | apply below_alloc | apply pw_below_drewN | apply below_drew1) | exact HB.out)) hb); clear HB; have HB := n0_; clear n0_; (try clear hb); (try clear hb2); (try clear hk); (try clear hi)) | (go_at_call 66; (with_reducible refine (impl_within.calls a1 0 2 t362 _ A6.out).mono ?_); rintro e w' ⟨rfl, ⟨nd, rfl⟩⟩))
   go_meet
   case rel => exact ⟨_, (!t362), (by first | rfl | (simp; done) | (simp [*]; done)), H', ⟨by first | omega | exact Nat.le_refl _⟩, ⟨by repeat (first | (with_reducible first | exact HB.out | apply below_alloc | apply pw_below_drewN | apply below_drew1) | exact HB.out)⟩⟩
  ·replace c5 := Bool.eq_false_iff.mpr c5
   subst c5
   have H1 : (impl_MarkovMove.j0 k l0 a1 true) = some (r1, r2) := by rw [if_neg (show ¬ (false = true) by decide)] at H; exact H
   clear H
   have H := H1
   clear H1
   have H' := Aside0.mk H
   clear H
   go_wp2_with (first | ((with_reducible refine gate_callee (f := 48) rfl ?_); refine goesL_ (some 8) rfl rfl Try.func48 (by kernel_rfl) rfl #[.slice A0 l0.length c0] rfl (by (try simp only [List.map_toArray, List.map_cons, List.map_nil]); first | done | rfl | (simp only [List.length_drop, List.length_take]; rfl)) ?_; (with_reducible refine (impl_IsMarkov.calls k _ _ l0 false _ ?side1 ?side2 A4.out).mono ?_); (case side1 => repeat (first | exact (Kd.C_below HR0.out HB.out) | (with_reducible refine Kd.C_alloc ?_ _) | (with_reducible refine Kd.C_drewN ?_ _) | (with_reducible refine Kd.C_drew ?_))); (case side2 => exact HC0.out); rintro e w8 ⟨rfl, hb⟩; refine ⟨_, rfl, ?_⟩; have n0_ := Aside0.mk (below_step (by repeat (first | (with_reducible first | exact HB.out | apply below_alloc | apply pw_below_drewN | apply below_drew1) | exact HB.out)) hb); clear HB; have HB := n0_; clear n0_; (try clear hb); (try clear hb2); (try clear hk); (try clear hi)))
   go_meet
   case rel => exact ⟨_, (true), (by first | rfl | (simp; done) | (simp [*]; done)), H', ⟨by first | omega | exact Nat.le_refl _⟩, ⟨by repeat (first | (with_reducible first | exact HB.out | apply below_alloc | apply pw_below_drewN | apply below_drew1) | exact HB.out)⟩⟩
 case rest =>
  clear HC3
  try clear c2
  try clear p2
  try clear c4
  try clear c5
  obtain ⟨kq, x14_2, rfl, HA, HJ2, HB⟩ := hcut
  cases kq with
  | zero => exact absurd HA.out (by simp [impl_MarkovMove.j0])
  | succ kj2 =>
   have H := HA.out
   clear HA
   simp only [impl_MarkovMove.j0] at H
   by_cases c9 : x14_2 = true
   ·subst c9
    have H1 : (some (([] : List Int), false)) = some (r1, r2) := by rw [if_pos rfl] at H; exact H
    clear H
    have H := H1
    clear H1
    simp only [Option.some.injEq, Prod.mk.injEq] at H
    obtain ⟨rfl, rfl⟩ := H
    go_wp2
    go_ret2
    exact ⟨_, by first | rfl | (simp [errW_none, errW_some] <;> rfl) | (simp [*, errW_none, errW_some] <;> rfl), by first | exact Kd.R_nil _ _ _ _ _ | exact Kd.N_nil _ _ _ _ _ | exact Kd.V_nil _ _ _ _ _ | exact Kd.Q_nil _ _ _ _ _ | exact Kd.S_nil _ _ _ _ _, by repeat (first | (with_reducible first | exact HB.out | apply below_alloc | apply pw_below_drewN | apply below_drew1) | exact HB.out)⟩
   ·replace c9 := Bool.eq_false_iff.mpr c9
    subst c9
    have H1 : ((impl_moved.f l0 a1).bind fun t363 => (if 2 < (t363.length : Int) then (if (rd t363 2) > 1000000000 then (some (([] : List Int), false)) else (some (t363, true))) else (none))) = some (r1, r2) := by rw [if_neg (show ¬ (false = true) by decide)] at H; exact H
    clear H
    have H := H1
    clear H1
    replace H := Option.bind_eq_some_iff.mp H
    obtain ⟨t363, A100, H⟩ := H
    replace H : (if 2 < (t363.length : Int) then (if (rd t363 2) > 1000000000 then (some (([] : List Int), false)) else (some (t363, true))) else (none)) = some (r1, r2) := H
    have A10 := Aside0.mk A100
    clear A100
    by_cases c11 : 2 < (t363.length : Int)
    ·rw [if_pos c11] at H
     have c11b0 : decide (2 < (t363.length : Int)) = true := decide_eq_true c11
     have c11b1 : decide (2 < t363.length) = true := decide_eq_true (by omega)
     clear c11
     by_cases c12 : (rd t363 2) > 1000000000
     ·rw [if_pos c12] at H
      have c12b0 : decide (1000000000 < (rd t363 2)) = true := decide_eq_true c12
      clear c12
      simp only [Option.some.injEq, Prod.mk.injEq] at H
      obtain ⟨rfl, rfl⟩ := H
      go_wp2_with (first | ((with_reducible refine gate_callee (f := 69) rfl ?_); refine goesL_ (some 17) rfl rfl Try.func69 (by kernel_rfl) rfl #[.slice A0 l0.length c0, .int .i64 a1] rfl (by (try simp only [List.map_toArray, List.map_cons, List.map_nil]); first | done | rfl | (simp only [List.length_drop, List.length_take]; rfl)) ?_; (with_reducible refine (impl_moved.calls _ _ l0 a1 t363 _ ?side1 ?side2 A10.out).mono ?_); (case side1 => repeat (first | exact (Kd.C_below HR0.out HB.out) | (with_reducible refine Kd.C_alloc ?_ _) | (with_reducible refine Kd.C_drewN ?_ _) | (with_reducible refine Kd.C_drew ?_))); (case side2 => exact HC0.out); rintro e w13 ⟨v364, rfl, ho0, hb⟩; refine ⟨_, rfl, ?_⟩; have n0_ := Aside0.mk (Kd.R_lower ho0 (below_size (by repeat (first | (with_reducible first | exact HB.out | apply below_alloc | apply pw_below_drewN | apply below_drew1) | exact HB.out)))); have n1_ := Aside0.mk (below_step (by repeat (first | (with_reducible first | exact HB.out | apply below_alloc | apply pw_below_drewN | apply below_drew1) | exact HB.out)) hb); clear HB; have HO365 := n0_; have HB := n1_; clear n0_ n1_; (try clear hb); (try clear hb2); (try clear hk); (try clear hi); (try clear ho0); obtain ⟨Ao14, co14, eo14⟩ := Kd.R_slice HO365.out; subst eo14; have p366 : 0 ≤ (2 : Int) := (by omega); have q366 : 2 < (t363.length : Int) := of_decide_eq_true (by first | (with_reducible assumption) | assumption); obtain ⟨ad366, e366, hx366_0⟩ := Kd.at_int (Kd.R_reads' HO365.out).2.2 2 p366 q366; cases e366; (try simp only [show (2 : Int).toNat = 2 from rfl, Nat.reduceMul, Nat.reduceEqDiff, Go.Addr.add, ↓reduceIte] at hx366_0); have qi366 : (2 < t363.length) = True := eq_true (by omega); (try rw [show ((2 : Int)).toNat = 2 from rfl] at hx366_0); replace p366 := eq_true p366; replace q366 := eq_true q366))
      go_ret2
      exact ⟨_, by first | rfl | (simp [errW_none, errW_some] <;> rfl) | (simp [*, errW_none, errW_some] <;> rfl), by first | exact Kd.R_nil _ _ _ _ _ | exact Kd.N_nil _ _ _ _ _ | exact Kd.V_nil _ _ _ _ _ | exact Kd.Q_nil _ _ _ _ _ | exact Kd.S_nil _ _ _ _ _, by repeat (first | (with_reducible first | exact HB.out | apply below_alloc | apply pw_below_drewN | apply below_drew1) | exact HB.out)⟩
     ·rw [if_neg c12] at H
      have c12b0 : decide (1000000000 < (rd t363 2)) = false := decide_eq_false c12
      clear c12
      simp only [Option.some.injEq, Prod.mk.injEq] at H
      obtain ⟨rfl, rfl⟩ := H
      go_wp2_with (first | ((with_reducible refine gate_callee (f := 69) rfl ?_); refine goesL_ (some 17) rfl rfl Try.func69 (by kernel_rfl) rfl #[.slice A0 l0.length c0, .int .i64 a1] rfl (by (try simp only [List.map_toArray, List.map_cons, List.map_nil]); first | done | rfl | (simp only [List.length_drop, List.length_take]; rfl)) ?_; (with_reducible refine (impl_moved.calls _ _ l0 a1 t363 _ ?side1 ?side2 A10.out).mono ?_); (case side1 => repeat (first | exact (Kd.C_below HR0.out HB.out) | (with_reducible refine Kd.C_alloc ?_ _) | (with_reducible refine Kd.C_drewN ?_ _) | (with_reducible refine Kd.C_drew ?_))); (case side2 => exact HC0.out); rintro e w15 ⟨v364, rfl, ho0, hb⟩; refine ⟨_, rfl, ?_⟩; have n0_ := Aside0.mk (Kd.R_lower ho0 (below_size (by repeat (first | (with_reducible first | exact HB.out | apply below_alloc | apply pw_below_drewN | apply below_drew1) | exact HB.out)))); have n1_ := Aside0.mk (below_step (by repeat (first | (with_reducible first | exact HB.out | apply below_alloc | apply pw_below_drewN | apply below_drew1) | exact HB.out)) hb); clear HB; have HO365 := n0_; have HB := n1_; clear n0_ n1_; (try clear hb); (try clear hb2); (try clear hk); (try clear hi); (try clear ho0); obtain ⟨Ao16, co16, eo16⟩ := Kd.R_slice HO365.out; subst eo16; have p366 : 0 ≤ (2 : Int) := (by omega); have q366 : 2 < (t363.length : Int) := of_decide_eq_true (by first | (with_reducible assumption) | assumption); obtain ⟨ad366, e366, hx366_0⟩ := Kd.at_int (Kd.R_reads' HO365.out).2.2 2 p366 q366; cases e366; (try simp only [show (2 : Int).toNat = 2 from rfl, Nat.reduceMul, Nat.reduceEqDiff, Go.Addr.add, ↓reduceIte] at hx366_0); have qi366 : (2 < t363.length) = True := eq_true (by omega); (try rw [show ((2 : Int)).toNat = 2 from rfl] at hx366_0); replace p366 := eq_true p366; replace q366 := eq_true q366))
      go_ret2
      exact ⟨_, by first | rfl | (simp [errW_none, errW_some] <;> rfl) | (simp [*, errW_none, errW_some] <;> rfl), by (with_reducible repeat (first | apply Kd.R_alloc | apply Kd.R_drewN | apply Kd.R_drew)); exact HO365.out, by repeat (first | (with_reducible first | exact HB.out | apply below_alloc | apply pw_below_drewN | apply below_drew1) | exact HB.out)⟩
    ·rw [if_neg c11] at H
     exact absurd H (by simp)

end Go.Proofs.Ythkmbkibceojlaa.P

-- Usorted
namespace Go.Proofs.Ythkmbkibceojlaa.P
set_option linter.unusedVariables false
set_option linter.unusedSimpArgs false
open Go.RowKit Go.Proofs.YthkmbkibceojlaaW.PrintWords Go.Proofs.YthkmbkibceojlaaW.PrintLast

def up (l : List Int) : List Int := l.mergeSort fun x y => decide (x ≤ y)
theorem up_perm (l : List Int) : (up l).Perm l := List.mergeSort_perm _ _
theorem up_pairwise (l : List Int) : (up l).Pairwise (· ≤ ·) := by
  have h := List.pairwise_mergeSort (le := fun x y : Int => decide (x ≤ y)) (by intro a b c h1 h2; simp at *; omega) (by intro a b; simp; omega) l
  exact h.imp (by intro a b h; simpa using h)
theorem up_unique {l m : List Int} (hp : m.Perm l) (hs : m.Pairwise (· ≤ ·)) : m = up l :=
  List.Perm.eq_of_pairwise (le := (· ≤ ·)) (fun a b _ _ h1 h2 => by omega) hs (up_pairwise l) (hp.trans (up_perm l).symm)
theorem up_length (l : List Int) : (up l).length = l.length := (up_perm l).length_eq
theorem sort_is (l : List Int) (h : l.length < 4611686018427387904) : slices_Sort_int_int.f l = some (up l) := by
  unfold slices_Sort_int_int.f
  rw [if_pos h]
  rfl
end Go.Proofs.Ythkmbkibceojlaa.P

-- UmkMove
namespace Go.Proofs.Ythkmbkibceojlaa.P
set_option linter.unusedVariables false
set_option linter.unusedSimpArgs false
open Go.RowKit Go.Proofs.YthkmbkibceojlaaW.PrintWords Go.Proofs.YthkmbkibceojlaaW.PrintLast Go.Proofs.YthkmbkibceojlaaW.PrintMore

theorem clone_is (l : List Int) (h : l.length < 17592186044416) : slices_Clone_int_int.f l = some l := by
  unfold slices_Clone_int_int.f
  rw [if_pos h]
theorem srt_up (x y z : Int) : srt x y z = up [x, y, z] := by
  have sw : ∀ a b c : Int, ([a, b, c] : List Int).Perm [a, c, b] := fun a b c => List.Perm.cons a (List.Perm.swap c b [])
  have ex : ∀ a b c : Int, ([a, b, c] : List Int).Perm [b, a, c] := fun a b c => List.Perm.swap b a [c]
  have hs : ∀ a b c : Int, a ≤ b → b ≤ c → ([a, b, c] : List Int).Pairwise (· ≤ ·) := by
    intro a b c h1 h2
    simp
    omega
  rcases srt_cases x y z with ⟨h1, h2, e⟩ | ⟨h1, h2, e⟩ | ⟨h1, h2, e⟩ | ⟨h1, h2, e⟩ | ⟨h1, h2, e⟩ | ⟨h1, h2, e⟩ <;> rw [e]
  · exact up_unique (List.Perm.refl _) (hs _ _ _ h1 h2)
  · exact up_unique (sw _ _ _) (hs _ _ _ h1 h2)
  · exact up_unique (ex _ _ _) (hs _ _ _ h1 h2)
  · exact up_unique ((sw _ _ _).trans (ex _ _ _)) (hs _ _ _ h1 h2)
  · exact up_unique ((ex _ _ _).trans (sw _ _ _)) (hs _ _ _ h1 h2)
  · exact up_unique ((ex _ _ _).trans ((sw _ _ _).trans (ex _ _ _))) (hs _ _ _ h1 h2)
theorem up_same {l m : List Int} (h : l.Perm m) : up l = up m := up_unique ((up_perm l).trans h) (up_pairwise l)
theorem srt_rot (x y z : Int) : srt x y z = srt y z x := by
  rw [srt_up, srt_up]
  exact up_same ((List.Perm.swap y x [z]).trans (List.Perm.cons y (List.Perm.swap z x [])))
theorem srt_ex (x y z : Int) : srt x y z = srt y x z := by
  rw [srt_up, srt_up]
  exact up_same (List.Perm.swap y x [z])
theorem mkEq_rot (x y z : Int) : mkEq x y z = mkEq y z x := by
  unfold mkEq
  rw [Bool.eq_iff_iff]; simp only [beq_iff_eq]; constructor <;> intro h <;> grind
theorem mkEq_ex (x y z : Int) : mkEq x y z = mkEq y x z := by
  unfold mkEq
  rw [Bool.eq_iff_iff]; simp only [beq_iff_eq]; constructor <;> intro h <;> grind

/-- What a Markov triple's numbers are. -/
theorem isMk_iff {x y z : Int} : isMk [x, y, z] = true ↔ (1 ≤ x ∧ x ≤ 1000000000) ∧ (1 ≤ y ∧ y ≤ 1000000000) ∧ (1 ≤ z ∧ z ≤ 1000000000) ∧ x ≤ y ∧ y ≤ z ∧ mkEq x y z = true := by
  have he : isMk [x, y, z] = ([x, y, z].all (inB 1 1000000000) && (decide (x ≤ y) && (decide (y ≤ z) && mkEq x y z))) := rfl
  rw [he]
  simp only [List.all_cons, List.all_nil, Bool.and_true, Bool.and_eq_true, inB, decide_eq_true_eq]
  constructor
  · rintro ⟨⟨h1, h2, h3⟩, h4, h5, h6⟩
    exact ⟨h1, h2, h3, h4, h5, h6⟩
  · rintro ⟨h1, h2, h3, h4, h5, h6⟩
    exact ⟨⟨h1, h2, h3⟩, h4, h5, h6⟩
theorem isMk_srt {x y z : Int} (hx : 1 ≤ x ∧ x ≤ 1000000000) (hy : 1 ≤ y ∧ y ≤ 1000000000) (hz : 1 ≤ z ∧ z ≤ 1000000000) (h : mkEq x y z = true) : isMk (srt x y z) = true := by
  rcases srt_cases x y z with ⟨h1, h2, e⟩ | ⟨h1, h2, e⟩ | ⟨h1, h2, e⟩ | ⟨h1, h2, e⟩ | ⟨h1, h2, e⟩ | ⟨h1, h2, e⟩ <;> (have h6 := mkEq_srt e; rw [e, isMk_iff]; exact ⟨by omega, by omega, by omega, h1, h2, by rw [h6]; exact h⟩)
/-- The other root. -/
theorem other_root {a b c : Int} (ha : 1 ≤ a ∧ a ≤ 1000000000) (hb : 1 ≤ b ∧ b ≤ 1000000000) (hc : 1 ≤ c ∧ c ≤ 1000000000) (h : mkEq a b c = true) :
    1 ≤ 3 * a * b - c ∧ 3 * a * b - c ≤ 3000000000000000000 ∧ c * (3 * a * b - c) = a * a + b * b ∧ mkEq a b (3 * a * b - c) = true ∧ wrap64 (wrap64 (wrap64 (3 * a) * b) - c) = 3 * a * b - c := by
  rw [mkEq_iff] at h
  have h1 : c * (3 * a * b - c) = a * a + b * b := by grind
  have p1 := mul_bd (a := a) (b := b) (A := 1000000000) (B := 1000000000) (by omega) (by omega) (by omega) (by omega)
  have p2 : 1 ≤ a * a := by have := mul_one_le (a := a) (b := a) (by omega) (by omega); omega
  have p3 : 1 ≤ b * b := by have := mul_one_le (a := b) (b := b) (by omega) (by omega); omega
  have e : 3 * a * b = 3 * (a * b) := Int.mul_assoc _ _ _
  have hpos : 1 ≤ 3 * a * b - c := by
    rcases Int.lt_or_le 0 (3 * a * b - c) with h2 | h2
    · omega
    · have h3 := Int.mul_nonneg (show 0 ≤ c by omega) (show 0 ≤ -(3 * a * b - c) by omega)
      rw [Int.mul_neg] at h3
      omega
  refine ⟨hpos, by omega, h1, ?_, ?_⟩
  · rw [mkEq_iff]; grind
  · rw [w64 (x := 3 * a) (by omega) (by omega), w64 (x := 3 * a * b) (by omega) (by omega), w64 (by omega) (by omega)]

/-- The triple behind a move. -/
def mv (x y z : Int) : Nat → List Int
  | 0 => srt y z (3 * y * z - x)
  | 1 => srt z x (3 * z * x - y)
  | _ => srt x y (3 * x * y - z)
def mvN (x y z : Int) : Nat → Int
  | 0 => 3 * y * z - x
  | 1 => 3 * z * x - y
  | _ => 3 * x * y - z
theorem moved_raw (x y z : Int) : impl_moved.f [x, y, z] 0 = some (up [wrap64 (wrap64 (wrap64 (3 * y) * z) - x), y, z]) ∧ impl_moved.f [x, y, z] 1 = some (up [x, wrap64 (wrap64 (wrap64 (3 * z) * x) - y), z]) ∧ impl_moved.f [x, y, z] 2 = some (up [x, y, wrap64 (wrap64 (wrap64 (3 * x) * y) - z)]) := by
  have c : slices_Clone_int_int.f [x, y, z] = some [x, y, z] := clone_is _ (show 3 < 17592186044416 by decide)
  have s : ∀ a b c : Int, slices_Sort_int_int.f [a, b, c] = some (up [a, b, c]) := fun a b c => sort_is _ (show 3 < 4611686018427387904 by decide)
  have hl : (([x, y, z] : List Int).length : Int) = 3 := rfl
  have t1 : Int.tmod (wrap64 (0 + 1)) 3 = 1 := by decide +kernel
  have t2 : Int.tmod (wrap64 (0 + 2)) 3 = 2 := by decide +kernel
  have t3 : Int.tmod (wrap64 (1 + 1)) 3 = 2 := by decide +kernel
  have t4 : Int.tmod (wrap64 (1 + 2)) 3 = 0 := by decide +kernel
  have t5 : Int.tmod (wrap64 (2 + 1)) 3 = 0 := by decide +kernel
  have t6 : Int.tmod (wrap64 (2 + 2)) 3 = 1 := by decide +kernel
  have r0 : rd [x, y, z] 0 = x := rfl
  have r1 : rd [x, y, z] 1 = y := rfl
  have r2 : rd [x, y, z] 2 = z := rfl
  unfold impl_moved.f
  rw [c, t1, t2, t3, t4, t5, t6]
  simp only [Option.bind_some, hl, r0, r1, r2]
  refine ⟨?_, ?_, ?_⟩
  · rw [if_pos (by decide), if_pos (by decide), if_pos (by decide), if_pos (by decide), if_pos (by decide), if_pos (by decide), if_pos (by decide), show (0 : Int).toNat = 0 from rfl, List.set_cons_zero, s]
    rfl
  · rw [if_pos (by decide), if_pos (by decide), if_pos (by decide), if_pos (by decide), if_pos (by decide), if_pos (by decide), if_pos (by decide), show (1 : Int).toNat = 1 from rfl, List.set_cons_succ, List.set_cons_zero, s]
    rfl
  · rw [if_pos (by decide), if_pos (by decide), if_pos (by decide), if_pos (by decide), if_pos (by decide), if_pos (by decide), if_pos (by decide), show (2 : Int).toNat = 2 from rfl, List.set_cons_succ, List.set_cons_succ, List.set_cons_zero, s]
    rfl
/-- The numbers of a move at an index: the two that stay and the one that goes. -/
structure Roots (x y z : Int) (i : Nat) (a b c : Int) : Prop where
  ha : 1 ≤ a ∧ a ≤ 1000000000
  hb : 1 ≤ b ∧ b ≤ 1000000000
  hc : 1 ≤ c ∧ c ≤ 1000000000
  eq : mkEq a b c = true
  mv : mv x y z i = srt a b (3 * a * b - c)
  n : mvN x y z i = 3 * a * b - c
theorem roots_of {x y z : Int} (h : isMk [x, y, z] = true) (i : Nat) (hi : i ≤ 2) : ∃ a b c, Roots x y z i a b c ∧ ((i = 0 ∧ a = y ∧ b = z ∧ c = x) ∨ (i = 1 ∧ a = z ∧ b = x ∧ c = y) ∨ (i = 2 ∧ a = x ∧ b = y ∧ c = z)) := by
  obtain ⟨h1, h2, h3, h4, h5, h6⟩ := isMk_iff.1 h
  have hc : i = 0 ∨ i = 1 ∨ i = 2 := by omega
  rcases hc with rfl | rfl | rfl
  · exact ⟨y, z, x, ⟨h2, h3, h1, by rw [← mkEq_rot]; exact h6, rfl, rfl⟩, .inl ⟨rfl, rfl, rfl, rfl⟩⟩
  · exact ⟨z, x, y, ⟨h3, h1, h2, by rw [mkEq_rot]; exact h6, rfl, rfl⟩, .inr (.inl ⟨rfl, rfl, rfl, rfl⟩)⟩
  · exact ⟨x, y, z, ⟨h1, h2, h3, h6, rfl, rfl⟩, .inr (.inr ⟨rfl, rfl, rfl, rfl⟩)⟩
theorem moved_is {x y z : Int} (h : isMk [x, y, z] = true) (i : Nat) (hi : i ≤ 2) : impl_moved.f [x, y, z] (i : Int) = some (mv x y z i) := by
  obtain ⟨h1, h2, h3, h4, h5, h6⟩ := isMk_iff.1 h
  obtain ⟨m0, m1, m2⟩ := moved_raw x y z
  obtain ⟨a, b, c, hR, hcase⟩ := roots_of h i hi
  have ho := other_root hR.ha hR.hb hR.hc hR.eq
  rw [hR.mv]
  rcases hcase with ⟨rfl, rfl, rfl, rfl⟩ | ⟨rfl, rfl, rfl, rfl⟩ | ⟨rfl, rfl, rfl, rfl⟩
  · rw [ho.2.2.2.2] at m0
    rw [show ((0 : Nat) : Int) = 0 from rfl, m0, ← srt_up, srt_rot]
  · rw [ho.2.2.2.2] at m1
    rw [show ((1 : Nat) : Int) = 1 from rfl, m1, ← srt_up, ← srt_rot]
  · rw [ho.2.2.2.2] at m2
    rw [show ((2 : Nat) : Int) = 2 from rfl, m2, ← srt_up]
theorem srt_two (a b c : Int) : rd (srt a b c) 2 = hi2 a (hi2 b c) := rfl
theorem mv_two {x y z : Int} (h : isMk [x, y, z] = true) (i : Nat) (hi : i ≤ 2) : rd (mv x y z i) 2 > 1000000000 ↔ mvN x y z i > 1000000000 := by
  obtain ⟨a, b, c, hR, _⟩ := roots_of h i hi
  have := hR.ha
  have := hR.hb
  rw [hR.mv, hR.n, srt_two]
  unfold hi2
  split <;> split <;> omega
theorem mv_is {x y z : Int} (h : isMk [x, y, z] = true) (i : Nat) (hi : i ≤ 2) (hn : mvN x y z i ≤ 1000000000) : isMk (mv x y z i) = true := by
  obtain ⟨a, b, c, hR, _⟩ := roots_of h i hi
  have ho := other_root hR.ha hR.hb hR.hc hR.eq
  rw [hR.n] at hn
  rw [hR.mv]
  exact isMk_srt hR.ha hR.hb ⟨ho.1, hn⟩ ho.2.2.2.1
theorem mv_three (x y z : Int) (i : Nat) : ∃ a b c, mv x y z i = [a, b, c] := by
  match i with
  | 0 => exact ⟨_, _, _, rfl⟩
  | 1 => exact ⟨_, _, _, rfl⟩
  | _ + 2 => exact ⟨_, _, _, rfl⟩
def mvOf (x y z : Int) (i : Nat) : List Int × Bool := if mvN x y z i > 1000000000 then ([], false) else (mv x y z i, true)
theorem big_product {a b c : Int} (ha : 1 ≤ a ∧ a ≤ 1000000000) (hb : 1 ≤ b ∧ b ≤ 1000000000) (hc : 1 ≤ c ∧ c ≤ 1000000000) (h : a > 1000000000 / b) : 3 * a * b - c > 1000000000 := by
  have h1 : 1000000000 < a * b := (Int.ediv_lt_iff_lt_mul (by omega)).1 h
  have e : 3 * a * b = 3 * (a * b) := Int.mul_assoc _ _ _
  omega
theorem mkMove_is {x y z : Int} (h : isMk [x, y, z] = true) (i : Nat) (hi : i ≤ 2) : spec_mkMove.f [x, y, z] (i : Int) = some (mvOf x y z i) := by
  obtain ⟨a, b, c, hR, hcase⟩ := roots_of h i hi
  have ho := other_root hR.ha hR.hb hR.hc hR.eq
  have ha := hR.ha
  have hb := hR.hb
  have hc := hR.hc
  have hb0 : ¬ b = 0 := by clear ho; omega
  have hi0 : (0 : Int) ≤ (i : Int) := by clear ho hcase; omega
  have hi3 : (i : Int) < 3 := by clear ho hcase; omega
  have hl : (([x, y, z] : List Int).length : Int) = 3 := rfl
  have q1 : 0 ≤ 1000000000 / b := Int.ediv_nonneg (by omega) (by omega)
  have q2 : 1000000000 / b ≤ 1000000000 := Int.ediv_le_self _ (by omega)
  have wq : wrap64 (1000000000 / b) = 1000000000 / b := w64 (by omega) (by omega)
  have e1 : rd [x, y, z] (Int.tmod (wrap64 ((i : Int) + 1)) 3) = a ∧ rd [x, y, z] (Int.tmod (wrap64 ((i : Int) + 2)) 3) = b ∧ rd [x, y, z] (i : Int) = c ∧ 0 ≤ Int.tmod (wrap64 ((i : Int) + 1)) 3 ∧ Int.tmod (wrap64 ((i : Int) + 1)) 3 < 3 ∧ 0 ≤ Int.tmod (wrap64 ((i : Int) + 2)) 3 ∧ Int.tmod (wrap64 ((i : Int) + 2)) 3 < 3 := by
    rcases hcase with ⟨rfl, rfl, rfl, rfl⟩ | ⟨rfl, rfl, rfl, rfl⟩ | ⟨rfl, rfl, rfl, rfl⟩
    · have t1 : Int.tmod (wrap64 (((0 : Nat) : Int) + 1)) 3 = 1 := by decide +kernel
      have t2 : Int.tmod (wrap64 (((0 : Nat) : Int) + 2)) 3 = 2 := by decide +kernel
      rw [t1, t2]
      exact ⟨rfl, rfl, rfl, by decide, by decide, by decide, by decide⟩
    · have t1 : Int.tmod (wrap64 (((1 : Nat) : Int) + 1)) 3 = 2 := by decide +kernel
      have t2 : Int.tmod (wrap64 (((1 : Nat) : Int) + 2)) 3 = 0 := by decide +kernel
      rw [t1, t2]
      exact ⟨rfl, rfl, rfl, by decide, by decide, by decide, by decide⟩
    · have t1 : Int.tmod (wrap64 (((2 : Nat) : Int) + 1)) 3 = 0 := by decide +kernel
      have t2 : Int.tmod (wrap64 (((2 : Nat) : Int) + 2)) 3 = 1 := by decide +kernel
      rw [t1, t2]
      exact ⟨rfl, rfl, rfl, by decide, by decide, by decide, by decide⟩
  obtain ⟨e1, e2, e3, e4, e5, e6, e7⟩ := e1
  have ho5 := ho.2.2.2.2
  have hbig := big_product ha hb hc
  have hsort : ¬ 3 * a * b - c > 1000000000 → spec_mkSort.f a b (3 * a * b - c) = some (srt a b (3 * a * b - c)) := fun h2 => mkSort_srt a b _ (by clear e1 e2 e3 e4 e5 e6 e7 wq q1 q2 hcase ho5; omega) (by clear e1 e2 e3 e4 e5 e6 e7 wq q1 q2 hcase ho5; omega) (by clear e1 e2 e3 e4 e5 e6 e7 wq q1 q2 hcase ho5; omega)
  have hres : mvOf x y z i = if 3 * a * b - c > 1000000000 then ([], false) else (srt a b (3 * a * b - c), true) := by unfold mvOf; rw [hR.n, hR.mv]
  rw [hres]
  unfold spec_mkMove.f
  simp only [hl, e1, e2, e3, e4, e5, e6, e7, hb0, hi0, hi3, ho5, wq, if_true, if_false]
  by_cases h1 : a > 1000000000 / b
  · have h2 := hbig h1
    simp only [h1, h2, if_true]
  · by_cases h2 : 3 * a * b - c > 1000000000
    · simp only [h1, h2, if_true, if_false]
    · simp only [h1, h2, if_false, hsort h2, Option.bind_some]
theorem mkDown_is {x y z : Int} (h : isMk [x, y, z] = true) : spec_mkDown.f [x, y, z] = some (mv x y z 2) := by
  obtain ⟨h1, h2, h3, h4, h5, h6⟩ := isMk_iff.1 h
  have ho := other_root h1 h2 h3 h6
  have r0 : rd [x, y, z] 0 = x := rfl
  have r1 : rd [x, y, z] 1 = y := rfl
  have r2 : rd [x, y, z] 2 = z := rfl
  have hl : (([x, y, z] : List Int).length : Int) = 3 := rfl
  have bx := mul_bd (a := x) (b := x) (A := 1000000000) (B := z) (by omega) (by omega) (by omega) (by omega)
  have by_ := mul_bd (a := y) (b := y) (A := 1000000000) (B := z) (by omega) (by omega) (by omega) (by omega)
  have w1 : wrap64 (x * x) = x * x := w64 (by omega) (by omega)
  have w2 : wrap64 (y * y) = y * y := w64 (by omega) (by omega)
  have w3 : wrap64 (x * x + y * y) = x * x + y * y := w64 (by omega) (by omega)
  have d1 : Int.tdiv (x * x + y * y) z = 3 * x * y - z := by
    rw [← ho.2.2.1, Int.tdiv_eq_ediv_of_nonneg (by rw [ho.2.2.1]; omega), Int.mul_ediv_cancel_left _ (by omega)]
  have hle : 3 * x * y - z ≤ 2000000000 := by
    rcases Int.lt_or_le 2000000000 (3 * x * y - z) with h7 | h7
    · have h8 := Int.mul_le_mul (Int.le_refl z) (show 2000000001 ≤ 3 * x * y - z by omega) (by omega) (by omega)
      rw [ho.2.2.1] at h8
      omega
    · exact h7
  unfold spec_mkDown.f
  rw [hl, r0, r1, r2, w1, w2, w3, d1, w64 (x := 3 * x * y - z) (by omega) (by omega), if_pos (by decide), if_pos (by decide), if_pos (by decide), if_neg (by omega), mkSort_srt x y _ (by omega) (by omega) (by omega)]
  rfl
end Go.Proofs.Ythkmbkibceojlaa.P

-- UmkBelow
namespace Go.Proofs.Ythkmbkibceojlaa.P
set_option linter.unusedVariables false
set_option linter.unusedSimpArgs false
open Go.RowKit Go.Proofs.YthkmbkibceojlaaW.PrintWords Go.Proofs.YthkmbkibceojlaaW.PrintLast Go.Proofs.YthkmbkibceojlaaW.PrintMore

theorem mk_three {l : List Int} (h : isMk l = true) : ∃ x y z, l = [x, y, z] := by
  match l, h with
  | [x, y, z], _ => exact ⟨x, y, z, rfl⟩
/-- Above 1 1 1 the greatest number stands alone, and the other root is at most the middle one. -/
theorem below {x y z : Int} (h : isMk [x, y, z] = true) (hz : 1 < z) : y < z ∧ 3 * x * y - z ≤ y := by
  obtain ⟨h1, h2, h3, h4, h5, h6⟩ := isMk_iff.1 h
  have ho := other_root h1 h2 h3 h6
  have h7 := mkEq_iff.1 h6
  have hyz : y < z := by
    rcases Int.lt_or_le y z with h8 | h8
    · exact h8
    · obtain rfl : y = z := by omega
      -- x x + 2 y y = 3 x y y
      have e1 : x * x + 2 * (y * y) = 3 * (x * (y * y)) := by grind
      have e2 : x * x ≤ y * y := Int.mul_le_mul h4 h4 (by omega) (by omega)
      rcases Int.lt_or_le 1 x with h9 | h9
      · have e3 : 2 * (y * y) ≤ x * (y * y) := Int.mul_le_mul_of_nonneg_right (by omega) (by have := mul_one_le (a := y) (b := y) (by omega) (by omega); omega)
        have e4 := mul_one_le (a := y) (b := y) (by omega) (by omega)
        omega
      · obtain rfl : x = 1 := by omega
        have e4 : y * y = 1 := by omega
        have e5 : 2 * y ≤ y * y := Int.mul_le_mul_of_nonneg_right (show (2 : Int) ≤ y by omega) (by omega)
        omega
  refine ⟨hyz, ?_⟩
  rcases Int.lt_or_le y (3 * x * y - z) with h8 | h8
  · have e1 : (z - y) * (3 * x * y - z - y) = x * x + 2 * (y * y) - 3 * (x * (y * y)) := by grind
    have e2 : 0 < (z - y) * (3 * x * y - z - y) := Int.mul_pos (by omega) (by omega)
    have e3 : x * x ≤ y * y := Int.mul_le_mul h4 h4 (by omega) (by omega)
    have e4 : y * y ≤ x * (y * y) := by
      have := Int.mul_le_mul_of_nonneg_right (show 1 ≤ x by omega) (show 0 ≤ y * y by have := mul_one_le (a := y) (b := y) (by omega) (by omega); omega)
      omega
    omega
  · exact h8
end Go.Proofs.Ythkmbkibceojlaa.P

-- UmkOf
namespace Go.Proofs.Ythkmbkibceojlaa.P
set_option linter.unusedVariables false
set_option linter.unusedSimpArgs false
open Go.RowKit Go.Proofs.YthkmbkibceojlaaW.PrintWords Go.Proofs.YthkmbkibceojlaaW.PrintLast Go.Proofs.YthkmbkibceojlaaW.PrintMore
theorem isMk_three {l : List Int} (h : isMk l = true) : ∃ x y z, l = [x, y, z] := by
  rcases Nat.decEq l.length 3 with h4 | h4
  · rw [isMk_no l h4] at h; simp at h
  · exact three_of l h4
theorem within_in (x lo hi : Int) : impl_within.f x lo hi = some (inB lo hi x) := by
  unfold impl_within.f inB
  by_cases h : lo ≤ x <;> simp [h]
theorem l1In_in (x lo hi : Int) : spec_l1In.f x lo hi = some (inB lo hi x) := by
  unfold spec_l1In.f inB
  by_cases h : lo ≤ x <;> simp [h]
theorem index_in {i : Int} (h : inB 0 2 i = true) : ∃ n : Nat, i = (n : Int) ∧ n ≤ 2 := by
  simp [inB] at h
  exact ⟨i.toNat, by omega, by omega⟩
theorem mv_length (x y z : Int) (i : Nat) : (mv x y z i).length = 3 := by
  obtain ⟨a, b, c, e⟩ := mv_three x y z i
  rw [e]
  rfl
/-- What a call tells of a move: no triple, no index, too great, or the triple. -/
theorem Move_both (l : List Int) (i : Int) : ∃ r : List Int × Bool, r.1.length ≤ 3 ∧ Ev (fun _ => spec_MarkovMove.f l i) r ∧ Ev (fun k => impl_MarkovMove.f k l i) r := by
  have hI := IsMarkov_ev l
  have no : Ev (fun k => impl_MarkovMove.j0 k l i true) ([], false) := Ev.step (f := fun _ => some ([], false)) (fun k => by simp only [impl_MarkovMove.j0, if_true]) (Ev.is rfl)
  unfold spec_MarkovMove.f impl_MarkovMove.f
  rw [mkGood_is l]
  cases h : isMk l with
  | false =>
    rw [h] at hI
    refine ⟨([], false), by simp, ?_, Ev.bind hI ?_⟩
    · simp only [Option.bind_some, Bool.false_eq_true, if_false]
      exact Ev.is rfl
    · simp only [Bool.false_eq_true, if_false]
      exact no
  | true =>
    rw [h] at hI
    obtain ⟨x, y, z, rfl⟩ := isMk_three h
    rw [l1In_in, within_in]
    cases hi : inB 0 2 i with
    | false =>
      refine ⟨([], false), by simp, ?_, Ev.bind hI ?_⟩
      · simp only [Option.bind_some, if_true, Bool.false_eq_true, if_false]
        exact Ev.is rfl
      · simp only [Option.bind_some, if_true, Bool.not_false]
        exact no
    | true =>
      obtain ⟨n, rfl, hn⟩ := index_in hi
      have hm := mkMove_is h n hn
      have hv := moved_is h n hn
      have h2 := mv_two h n hn
      have hlen := mv_length x y z n
      refine ⟨mvOf x y z n, ?_, ?_, Ev.bind hI ?_⟩
      · unfold mvOf
        split
        · simp
        · rw [hlen]; exact Nat.le_refl _
      · simp only [Option.bind_some, if_true, hm]
        exact Ev.is rfl
      · simp only [Option.bind_some, if_true, Bool.not_true]
        refine Ev.step (f := fun _ => some (mvOf x y z n)) (fun k => ?_) (Ev.is rfl)
        have c : (2 : Int) < ((mv x y z n).length : Int) := by rw [hlen]; decide
        simp only [impl_MarkovMove.j0, Bool.false_eq_true, if_false, hv, Option.bind_some, c, if_true]
        unfold mvOf
        by_cases h3 : mvN x y z n > 1000000000
        · rw [if_pos (h2.2 h3), if_pos h3]
        · rw [if_neg (fun h4 => h3 (h2.1 h4)), if_neg h3]
theorem Down_both (l : List Int) : ∃ r : List Int × Bool, r.1.length ≤ 3 ∧ Ev (fun _ => spec_MarkovDown.f l) r ∧ Ev (fun k => impl_MarkovDown.f k l) r := by
  have hI := IsMarkov_ev l
  unfold spec_MarkovDown.f impl_MarkovDown.f
  rw [mkGood_is l]
  cases h : isMk l with
  | false =>
    rw [h] at hI
    refine ⟨([], false), by simp, ?_, Ev.bind hI ?_⟩
    · simp only [Option.bind_some, Bool.false_eq_true, if_false]
      exact Ev.is rfl
    · simp only [Bool.false_eq_true, if_false]
      exact Ev.is rfl
  | true =>
    rw [h] at hI
    obtain ⟨x, y, z, rfl⟩ := isMk_three h
    have hl : (([x, y, z] : List Int).length : Int) = 3 := rfl
    have r2 : rd [x, y, z] 2 = z := rfl
    have c : (2 : Int) < 3 := by decide
    have hv := moved_is h 2 (Nat.le_refl 2)
    have hd := mkDown_is h
    rw [show ((2 : Nat) : Int) = 2 from rfl] at hv
    by_cases h1 : z = 1
    · refine ⟨([], false), by simp, ?_, Ev.bind hI ?_⟩
      · simp only [Option.bind_some, if_true, hl, r2, c, h1]
        exact Ev.is rfl
      · simp only [if_true, hl, r2, c, h1]
        exact Ev.is rfl
    · refine ⟨(mv x y z 2, true), by rw [mv_length]; exact Nat.le_refl _, ?_, Ev.bind hI ?_⟩
      · simp only [Option.bind_some, if_true, hl, r2, c, h1, if_false, hd]
        exact Ev.is rfl
      · simp only [if_true, hl, r2, c, h1, if_false, hv]
        exact Ev.is rfl
end Go.Proofs.Ythkmbkibceojlaa.P
