/- IsMarkovNumber answers what the reference answers, for every number. No condition. -/
import Derived.Test.YtkdgpbcecnmdhaaPackFnExactIsMarkovNumber2
import Derived.Sort.Grow
import Derived.Shelf.RegionOpenPlain
import Derived.WalkKit
import Derived.Deep.LoopGhost
import Derived.Deep.Draws
import Derived.Lib.Walk
import Derived.Sort.WalkB12
import Derived.Lib.SliceRun
import Derived.Lib.SlKept
import Derived.Shelf.SlicesE.Kit
import Derived.Sort.WalkA
import Derived.Test.YtkdgpbcecnmdhaaLib
import Derived.Shelf.SlSortCmp.NoneTotal
import Derived.Shelf.SlicesE.DeleteFunc
-- Uscalar
namespace Go.Proofs.Ytkdgpbcecnmdhaa.P
set_option linter.unusedVariables false
set_option linter.unusedSimpArgs false
open Go.RowKit Go.Proofs.YtkdgpbcecnmdhaaW.PrintWords Go.Proofs.YtkdgpbcecnmdhaaW.PrintLast

theorem scalar_reps {α : Type} {enc : α → Value} {R : α → List Value → Prop} (hR : ∀ x c, R x c ↔ c = [enc x]) (xs : List α) (cs : List Value) : Reps R 1 xs cs ↔ cs = xs.map enc := by
  constructor
  · rintro ⟨h1, h2⟩
    apply List.ext_getElem
    · simp [h1]
    · intro i hi1 hi2
      have hx : i < xs.length := by simpa using hi2
      have h3 := (hR _ _).1 (h2 i xs[i] (List.getElem?_eq_getElem hx))
      rw [Nat.mul_one] at h3
      have h4 : (cs.drop i).take 1 = [cs[i]] := by rw [List.drop_eq_getElem_cons hi1]; rfl
      rw [h4] at h3
      simpa using h3
  · rintro rfl
    refine ⟨by simp, fun j p hp => (hR _ _).2 ?_⟩
    obtain ⟨hj, rfl⟩ := List.getElem?_eq_some_iff.1 hp
    rw [Nat.mul_one, List.drop_eq_getElem_cons (by simpa using hj)]
    simp
theorem scalar_R {α : Type} {enc : α → Value} {h1 : ∀ x, (enc x).oneCell' = true} {e : Nat} {w : World} {base : Nat} {ok : Nat → Prop} {v : Value} {xs : List α} :
    (Kd.scalar enc h1).R e w base ok v xs ↔ (∀ k, v.ownBlock = some k → ok k) ∧ w.ownsRow base e 1 v xs.length (xs.map enc) := by
  constructor
  · rintro ⟨h2, inner, h3, h4⟩
    exact ⟨h2, by rw [← (scalar_reps (enc := enc) (fun x c => Iff.rfl) xs inner).1 h4]; exact h3⟩
  · rintro ⟨h2, h3⟩
    exact ⟨h2, _, h3, (scalar_reps (enc := enc) (fun x c => Iff.rfl) xs _).2 rfl⟩
/-- A row of scalars, opened: nil, or the head of a block of the call's own. -/
theorem scalar_open {α : Type} {enc : α → Value} {h1 : ∀ x, (enc x).oneCell' = true} {e : Nat} {w : World} {base : Nat} {ok : Nat → Prop} {v : Value} {xs : List α} (h : (Kd.scalar enc h1).R e w base ok v xs) :
    (v = .slice none 0 0 ∧ xs = []) ∨ ∃ g cap cur, v = .slice (some ⟨g, 0, none⟩) xs.length cap ∧ ok g ∧ base ≤ g ∧ w.heap[g]? = some (.cells cur e (0, 0)) ∧ xs.length ≤ cap ∧ cap ≤ maxLen ∧ cur.size = cap ∧ cur.toList.take xs.length = xs.map enc := by
  obtain ⟨h2, h3, h4⟩ := scalar_R.1 h
  rcases h4 with ⟨rfl, h5⟩ | ⟨g, cap, cur, rfl, hg, hb, hc, hm, hs, ht⟩
  · exact .inl ⟨rfl, List.eq_nil_of_length_eq_zero h5⟩
  · exact .inr ⟨g, cap, cur, rfl, h2 g (by simp [Value.ownBlock]), hg, hb, hc, hm, by omega, by rw [← ht, Nat.mul_one]⟩
theorem scalar_close {α : Type} {enc : α → Value} {h1 : ∀ x, (enc x).oneCell' = true} {e : Nat} {w : World} {base : Nat} {ok : Nat → Prop} {g cap : Nat} {cur : Array Value} {xs : List α} (hok : ok g) (hg : base ≤ g) (hb : w.heap[g]? = some (.cells cur e (0, 0))) (hc : xs.length ≤ cap) (hm : cap ≤ maxLen) (hs : cur.size = cap) (ht : cur.toList.take xs.length = xs.map enc) :
    (Kd.scalar enc h1).R e w base ok (.slice (some ⟨g, 0, none⟩) xs.length cap) xs :=
  scalar_R.2 ⟨fun k hk => by simp [Value.ownBlock] at hk; exact hk ▸ hok, by simp, .inr ⟨g, cap, cur, rfl, hg, hb, hc, hm, by omega, by rw [Nat.mul_one]; exact ht⟩⟩
/-- The cells of an opened row. -/
theorem scalar_cell {α : Type} {enc : α → Value} {e : Nat} {w : World} {g : Nat} {cur : Array Value} {xs : List α} (hb : w.heap[g]? = some (.cells cur e (0, 0))) (ht : cur.toList.take xs.length = xs.map enc) (j : Nat) (hj : j < xs.length) : w.cell? ⟨g, j, none⟩ = some (enc xs[j]) := by
  have h1 : j < (cur.toList.take xs.length).length := by rw [ht]; simpa using hj
  have h2 : j < cur.size := by simp at h1; omega
  rw [cell_of_row w g j cur e _ hb]
  have h3 : (cur.toList.take xs.length)[j] = enc xs[j] := by simp [ht]
  rw [List.getElem_take] at h3
  rw [Array.getElem?_eq_getElem h2, ← h3]
  simp
theorem own_free {e : Nat} {w : World} {g : Nat} {cur : Array Value} (hb : w.heap[g]? = some (.cells cur e (0, 0))) (j : Nat) : w.frozen? ⟨g, j, none⟩ = false := by simp [World.frozen?, hb]
theorem scalar_holds {α : Type} [Inhabited α] {enc : α → Value} {e : Nat} {w : World} {g : Nat} {cur : Array Value} {xs : List α} (hb : w.heap[g]? = some (.cells cur e (0, 0))) (ht : cur.toList.take xs.length = xs.map enc) : Go.Sort.Holds enc w g 0 xs.toArray := by
  intro j hj
  have hj' : j < xs.length := by simpa using hj
  refine ⟨?_, own_free hb _⟩
  rw [Nat.zero_add, scalar_cell hb ht j hj']
  simp [hj']
/-- Behind the sort: the row holds ys, all else stays. -/
theorem scalar_sorted {α : Type} [Inhabited α] {enc : α → Value} {h1 : ∀ x, (enc x).oneCell' = true} {e : Nat} {w0 w : World} {ok : Nat → Prop} {g cap : Nat} {cur : Array Value} {xs ys : List α} (hB : Below w0.heap.size w0 w) (hok : ok g) (hg : w0.heap.size ≤ g) (hb : w.heap[g]? = some (.cells cur e (0, 0))) (hc : xs.length ≤ cap) (hm : cap ≤ maxLen) (hs : cur.size = cap) (hl : ys.length = xs.length) (n : Nat) (os : Array Obj) (w' : World) (hw : w' = Go.Sort.grow (Go.Sort.putRow enc (Go.Sort.ahead w n) g 0 ys.toArray) os) :
    (Kd.scalar enc h1).R e w' w0.heap.size (fun k_ => (ok k_ ∨ w.heap.size ≤ k_)) (.slice (some ⟨g, 0, none⟩) xs.length cap) ys ∧ Below w0.heap.size w0 w' ∧ Kept w w' (fun k_ => ok k_) := by
  have hlt : g < w.heap.size := by
    have := (Array.getElem?_eq_some_iff.1 hb).1
    exact this
  have hsz : (Go.Sort.putRow enc (Go.Sort.ahead w n) g 0 ys.toArray).heap.size = w.heap.size := by simp
  have hold : ∀ k, k < w.heap.size → w'.heap[k]? = (Go.Sort.putRow enc (Go.Sort.ahead w n) g 0 ys.toArray).heap[k]? := fun k hk => by
    rw [hw, Go.Sort.heap_grow_old _ _ (by rw [hsz]; exact hk)]
  have hne : ∀ k, k < w.heap.size → k ≠ g → w'.heap[k]? = w.heap[k]? := fun k hk hkg => by
    rw [hold k hk]
    simp only [Go.Sort.putRow, Go.Sort.mapBlock, Array.getElem?_modify]
    rw [if_neg (by omega)]
    rfl
  have hrow : w'.heap[g]? = some (.cells (Go.Sort.putCells enc 0 ys.toArray cur) e (0, 0)) := by
    rw [hold g hlt]
    simp only [Go.Sort.putRow, Go.Sort.mapBlock, Array.getElem?_modify]
    rw [if_pos trivial]
    show (w.heap[g]?).map _ = _
    rw [hb]
    rfl
  have hsize : w.heap.size ≤ w'.heap.size := by rw [hw, Go.Sort.size_grow, hsz]; omega
  refine ⟨?_, hB.trans ⟨?_, ?_, ?_, hsize, fun k hk => hne k (by have := hB.size; omega) (by omega)⟩, hsize, fun i hi hn => hne i hi (fun h => hn (h ▸ hok))⟩
  · rw [← hl]
    refine scalar_close (.inl hok) hg hrow (by omega) hm (by simp [Go.Sort.putCells, hs]) ?_
    apply List.ext_getElem
    · simp [Go.Sort.putCells, hs]; omega
    · intro i hi1 hi2
      have hi3 : i < ys.length := by simpa using hi2
      simp [Go.Sort.putCells, hi3]
  · rw [hw]; rfl
  · rw [hw]; rfl
  · rw [hw]; rfl
/-- A row cut. -/
theorem scalar_take {α : Type} {enc : α → Value} {h1 : ∀ x, (enc x).oneCell' = true} {e : Nat} {w : World} {base : Nat} {ok : Nat → Prop} {ad : Addr} {n cap : Nat} {xs : List α} (h : (Kd.scalar enc h1).R e w base ok (.slice (some ad) n cap) xs) (k : Nat) (hk : k ≤ xs.length) :
    (Kd.scalar enc h1).R e w base ok (.slice (some ad) k cap) (xs.take k) := by
  rcases scalar_open h with ⟨h2, _⟩ | ⟨g, cap', cur, hv, hok, hg, hb, hc, hm, hs, ht⟩
  · simp at h2
  · injection hv with e1 e2 e3
    injection e1 with e1
    subst e1 e3
    have hl : (xs.take k).length = k := by rw [List.length_take]; omega
    have h3 := scalar_close (h1 := h1) (ok := ok) (base := base) (xs := xs.take k) (cap := cap) hok hg hb (by omega) hm hs (by rw [hl, List.map_take, ← ht, List.take_take, Nat.min_eq_left hk])
    rw [hl] at h3
    exact h3
/-- Another name of the same cells. -/
theorem scalar_map {α β : Type} {enc : α → Value} {h1 : ∀ x, (enc x).oneCell' = true} {enc' : β → Value} {h1' : ∀ x, (enc' x).oneCell' = true} {e : Nat} {w : World} {base : Nat} {ok : Nat → Prop} {v : Value} {xs : List α} {ys : List β} (h : (Kd.scalar enc h1).R e w base ok v xs) (he : xs.map enc = ys.map enc') : (Kd.scalar enc' h1').R e w base ok v ys := by
  obtain ⟨h2, h3⟩ := scalar_R.1 h
  have hl : xs.length = ys.length := by simpa using congrArg List.length he
  exact scalar_R.2 ⟨h2, by rw [← hl, ← he]; exact h3⟩
end Go.Proofs.Ytkdgpbcecnmdhaa.P

-- UrowsCompact
namespace Go.Proofs.Ytkdgpbcecnmdhaa.P
set_option linter.unusedVariables false
set_option linter.unusedSimpArgs false
open Go.Shelf Go.Lib Go.Sort Go.RowKit Go.Proofs.YtkdgpbcecnmdhaaW.PrintWords Go.Proofs.YtkdgpbcecnmdhaaW.PrintLast

/-- Which places are kept. -/
def kpOf {α : Type} [Inhabited α] (p : α → α → Bool) (d : Array α) (j : Nat) : Bool := j == 0 || !p d[j]! d[j - 1]!

set_option maxHeartbeats 4000000 in
set_option maxRecDepth 1000000 in
theorem compact_walk {α : Type} [Inhabited α] (enc : α → Value) (hO : OneCell enc) (p : α → α → Bool) (zr : α) (hz : enc zr = .slice none 0 0) (blk off cap : Nat) (d : Array α) (w : World)
    (hp : ∀ (dk : Array α) (u v : α) (q : Nat), dk.size = d.size → Calls Try.prog 64 #[enc u, enc v] (putRow enc (Sort.ahead w q) blk off dk) fun e w' => e = .returned (.bool (p u v)) ∧ ∃ qq, w' = (putRow enc (Sort.ahead w q) blk off dk).drewN qq)
    (hH : Holds enc w blk off d) (hsz : d.size ≤ 9223372036854775807) (hcap : d.size ≤ cap) :
    Calls Try.prog 63 #[.slice (some ⟨blk, off, none⟩) d.size cap, .func (.func 64) #[] #[]] w fun e w' => e = .returned (.slice (some ⟨blk, off, none⟩) (keptUpTo (kpOf p d) d d.size).length cap) ∧ ∃ q, w' = putRow enc (Sort.ahead w q) blk off (keptUpTo (kpOf p d) d d.size ++ List.replicate (d.size - (keptUpTo (kpOf p d) d d.size).length) zr).toArray := by
  have eg : ∀ args w, (callFunc 64 args).run Try.prog w = .ok (.enter 64 args) w := fun args w => enters_of Try.func64 (by kernel_rfl) rfl args w
  have t39 := Try.underlying25
  have t22 := Try.underlying30
  have hcl0 := hO.cells
  simp only [Value.cells] at hcl0
  have hst := hO.store Try.prog
  obtain ⟨kp, HK⟩ : ∃ kp : Nat → Bool, Hid (kp = kpOf p d) := ⟨_, rfl⟩
  rw [← HK.out]
  have hk0 : kp 0 = true := by rw [HK.out]; rfl
  have same : ∀ q, (∀ j, j < d.size → kp j = true) → (keptUpTo kp d d.size).length = d.size ∧ putRow enc (Sort.ahead w q) blk off d = putRow enc (Sort.ahead w q) blk off (keptUpTo kp d d.size ++ List.replicate (d.size - (keptUpTo kp d d.size).length) zr).toArray := by
    intro q hall
    have e : keptUpTo kp d d.size = d.toList := by rw [keptUpTo_all kp d _ hall, range_map_get]
    rw [e]
    refine ⟨by simp, ?_⟩
    simp only [Array.length_toList, Nat.sub_self, List.replicate_zero, List.append_nil, Array.toArray_toList]
  have HS : Aside (∀ q, (∀ j, j < d.size → kp j = true) → (keptUpTo kp d d.size).length = d.size ∧ putRow enc (Sort.ahead w q) blk off d = putRow enc (Sort.ahead w q) blk off (keptUpTo kp d d.size ++ List.replicate (d.size - (keptUpTo kp d d.size).length) zr).toArray) := same
  have HP : Aside (∀ (dk : Array α) (u v : α) (q : Nat), dk.size = d.size → Calls Try.prog 64 #[enc u, enc v] (putRow enc (Sort.ahead w q) blk off dk) fun e w' => e = .returned (.bool (p u v)) ∧ ∃ qq, w' = (putRow enc (Sort.ahead w q) blk off dk).drewN qq) := hp
  have HH : Aside (Holds enc w blk off d) := hH
  have ZR : Aside (enc zr = .slice none 0 0) := hz
  have HCL : Aside (OneCell enc) := hO
  clear same hp hH hz hO
  by_cases h2 : d.size < 2
  · have hsm : Aside (∀ j, j < d.size → kp j = true) := fun j hj => by
      obtain rfl : j = 0 := by omega
      exact hk0
    go_enter Try.func63, Try.ntmps63
    go_wp2
    go_ret
    obtain ⟨e1, e2⟩ := HS.out 0 hsm.out
    refine ⟨by rw [e1]; rfl, 0, ?_⟩
    rw [← e2]
    exact (putRow_self enc (Sort.ahead w 0) blk off d (holds_ahead enc w 0 blk off d HH.out)).symm
  · go_enter Try.func63, Try.ntmps63
    go_wp2
    go_loopg [5] d.size (fun g s3 wr => ∃ k q : Nat, 1 ≤ k ∧ k ≤ d.size ∧ d.size - k ≤ g ∧ s3 = .int .i64 k ∧ wr = putRow enc (Sort.ahead w q) blk off d ∧ Aside (∀ j, j < k → kp j = true))
    case atStart =>
      refine ⟨1, 0, Nat.le_refl _, by omega, by omega, rfl, (putRow_self enc (Sort.ahead w 0) blk off d (holds_ahead enc w 0 blk off d HH.out)).symm, (show Aside _ from fun j hj => ?_)⟩
      obtain rfl : j = 0 := by omega
      exact hk0
    case round =>
      obtain ⟨k, q, hk1, hk, hg, rfl, hwr, A⟩ := hrel
      have W2 : Aside (wr = putRow enc (Sort.ahead w q) blk off d) := hwr
      have hHk : Holds enc wr blk off d := by rw [hwr]; exact holds_putRow enc _ blk off d d (holds_ahead enc w q blk off d HH.out) rfl
      by_cases hlt : k < d.size
      · have hc : ∀ n, Calls Try.prog 64 #[enc d[k]!, enc d[k - 1]!] (wr.drewN n) fun e w' => e = .returned (.bool (p d[k]! d[k - 1]!)) ∧ ∃ m, w' = (wr.drewN n).drewN m := fun n => by
          have := HP.out d d[k]! d[k - 1]! (q + n) rfl
          rw [← putRow_drewN, ← hwr] at this
          exact this
        obtain ⟨c1, f1⟩ := hHk k hlt
        obtain ⟨c0, f0⟩ := hHk (k - 1) (by omega)
        clear hHk hwr
        generalize hx : d[k]! = x at c1 hc
        generalize hy : d[k - 1]! = y at c0 hc
        have B : Aside (d[k]! = x ∧ d[k - 1]! = y) := ⟨hx, hy⟩
        clear hx hy
        obtain ⟨jp, rfl⟩ : ∃ jp, k = jp + 1 := ⟨k - 1, by omega⟩
        simp only [Nat.add_sub_cancel] at c0 f0
        have hwp : IntKind.i64.wrap (jp : Int) = (jp : Int) := by rw [IntKind.wrap_i64]; omega
        have jz : (jp : Int) + 1 < (d.size : Int) := by omega
        have jz1 : (jp : Int) < (d.size : Int) := by omega
        have p0 : (0 : Int) ≤ (jp : Int) + 1 := by omega
        have e0 : ((jp : Int) + 1).toNat = jp + 1 := by omega
        have c1' : wr.cell? ⟨blk, off + (jp + 1), none⟩ = some (enc x) := c1
        have c0' : wr.cell? ⟨blk, off + jp, none⟩ = some (enc y) := c0
        clear c1 c0 f1 f0
        cases hq : p x y with
        | true =>
          rw [hq] at hc
          have hdup : Aside (kp (jp + 1) = false) := (by
            show kp (jp + 1) = false
            rw [HK.out]
            unfold kpOf
            rw [B.out.1, B.out.2, hq]
            simp)
          go_wp2_with fail
          go_quiet (first | (go_at_call 64; refine Calls.quiet_of (hc _)))
          clear c1' c0' hc
          have W3 : Aside (wr.drewN nq = putRow enc (Sort.ahead w (q + nq)) blk off d) := by show _ = _; rw [W2.out]; exact putRow_drewN _ _ _ _ _ _ _
          generalize wr.drewN nq = wr3 at W3 ⊢
          go_wp2
          go_loopg [5, 7] d.size (fun g s5 s7 wr => ∃ (kk k2 q2 : Nat) (dk : Array α), s5 = .int .i64 kk ∧ s7 = .int .i64 k2 ∧ 1 ≤ k2 ∧ jp + 1 + k2 ≤ d.size ∧ d.size - (jp + 1 + k2) ≤ g ∧ wr = putRow enc (Sort.ahead w q2) blk off dk ∧ Aside (KeptInv kp d (jp + 1 + k2) kk dk))
          case atStart => exact ⟨jp + 1, 1, q + nq, d, by go_num, rfl, Nat.le_refl _, by omega, by omega, W3.out, KeptInv.start A.out hdup.out⟩
          case round =>
            clear W3 W2 hdup
            obtain ⟨kk, k2, q2, dk, rfl, rfl, h1, hle, hg2, hwr, I2⟩ := hrel
            have hkk := I2.out.lt
            have hds := I2.out.size
            have hHk : Holds enc wr blk off dk := by rw [hwr]; exact holds_putRow enc _ blk off d dk (holds_ahead enc w q2 blk off d HH.out) hds
            have W5 : Aside (wr = putRow enc (Sort.ahead w q2) blk off dk) := hwr
            obtain ⟨j2, rfl⟩ : ∃ j2, k2 = j2 + 1 := ⟨k2 - 1, by omega⟩
            by_cases hlt2 : jp + 1 + (j2 + 1) < d.size
            · have hc : ∀ n, Calls Try.prog 64 #[enc d[jp + 1 + (j2 + 1)]!, enc d[jp + 1 + j2]!] (wr.drewN n) fun e w' => e = .returned (.bool (p d[jp + 1 + (j2 + 1)]! d[jp + 1 + j2]!)) ∧ ∃ m, w' = (wr.drewN n).drewN m := fun n => by
                have := HP.out dk d[jp + 1 + (j2 + 1)]! d[jp + 1 + j2]! (q2 + n) hds
                rw [← putRow_drewN, ← hwr] at this
                exact this
              obtain ⟨cm, _⟩ := hHk (jp + 1 + (j2 + 1)) (by omega)
              obtain ⟨cp, _⟩ := hHk (jp + 1 + j2) (by omega)
              obtain ⟨ck, fk⟩ := hHk kk (by omega)
              rw [I2.out.high (jp + 1 + (j2 + 1)) (by omega)] at cm
              rw [I2.out.high (jp + 1 + j2) (by omega)] at cp
              have cm' : wr.cell? ⟨blk, off + (jp + 1) + (j2 + 1), none⟩ = some (enc d[jp + 1 + (j2 + 1)]!) := by rw [← cm]; congr 2; omega
              have cp' : wr.cell? ⟨blk, off + (jp + 1) + j2, none⟩ = some (enc d[jp + 1 + j2]!) := by rw [← cp]; congr 2; omega
              clear hHk hwr cm cp
              generalize hu : d[jp + 1 + (j2 + 1)]! = u at cm' hc
              generalize hv : d[jp + 1 + j2]! = v at cp' hc
              generalize dk[kk]! = old at ck
              have C : Aside (d[jp + 1 + (j2 + 1)]! = u ∧ d[jp + 1 + j2]! = v) := ⟨hu, hv⟩
              clear hu hv
              have hwp2 : IntKind.i64.wrap (j2 : Int) = (j2 : Int) := by rw [IntKind.wrap_i64]; omega
              have y1 : (jp : Int) + 1 + ((j2 : Int) + 1) < (d.size : Int) := by omega
              have y2 : (j2 : Int) + 1 < (d.size : Int) - ((jp : Int) + 1) := by omega
              have y3 : (j2 : Int) < (d.size : Int) - ((jp : Int) + 1) := by omega
              have y4 : (0 : Int) ≤ (j2 : Int) + 1 := by omega
              have y5 : ((j2 : Int) + 1).toNat = j2 + 1 := by omega
              have y6 : (kk : Int) < (d.size : Int) := by omega
              have y7 : ((d.size - (jp + 1) : Nat) : Int) = (d.size : Int) - ((jp : Int) + 1) := by omega
              cases hq2 : p u v with
              | true =>
                rw [hq2] at hc
                go_wp2_with fail
                go_quiet (first | (go_at_call 64; refine Calls.quiet_of (hc _)))
                go_wp2
                go_roundg (d.size - (jp + 1 + (j2 + 1 + 1)))
                case measure => omega
                case rel => exact ⟨kk, j2 + 1 + 1, q2 + nq, dk, rfl, by go_num, by omega, by omega, Nat.le_refl _, by rw [W5.out]; exact putRow_drewN _ _ _ _ _ _ _, I2.out.skip (by rw [HK.out]; unfold kpOf; rw [show jp + 1 + (j2 + 1) - 1 = jp + 1 + j2 by omega, C.out.1, C.out.2, hq2]; simp)⟩
              | false =>
                rw [hq2] at hc
                go_wp2_with fail
                go_quiet (first | (go_at_call 64; refine Calls.quiet_of (hc _)))
                go_wp2_with fail
                have W6 : Aside (wr.drewN nq = putRow enc (Sort.ahead w (q2 + nq)) blk off dk) := by show _ = _; rw [W5.out]; exact putRow_drewN _ _ _ _ _ _ _
                have cm2 : (wr.drewN nq).cell? ⟨blk, off + (jp + 1) + (j2 + 1), none⟩ = some (enc u) := cm'
                have ck2 : (wr.drewN nq).cell? ⟨blk, off + kk, none⟩ = some (enc old) := ck
                have fk2 : (wr.drewN nq).frozen? ⟨blk, off + kk, none⟩ = false := fk
                clear cm' cp' ck fk hc
                generalize wr.drewN nq = wr6 at W6 cm2 ck2 fk2 ⊢
                go_wp2
                go_roundg (d.size - (jp + 1 + (j2 + 1 + 1)))
                case measure => omega
                case rel =>
                  refine ⟨kk + 1, j2 + 1 + 1, q2 + nq, dk.setIfInBounds kk u, by go_num, by go_num, by omega, by omega, Nat.le_refl _, ?_, (show Aside _ from ?_)⟩
                  · rw [W6.out]
                    exact putRow_set enc _ blk off dk kk u (by omega)
                  · have := I2.out.keep hlt2 (by rw [HK.out]; unfold kpOf; rw [show jp + 1 + (j2 + 1) - 1 = jp + 1 + j2 by omega, C.out.1, C.out.2, hq2]; simp)
                    rwa [C.out.1] at this
            · have hend : jp + 1 + (j2 + 1) = d.size := by omega
              have hcl : ∀ ty, (Builtin.clear_ #[25] ty #[.slice (some ⟨blk, off + kk, none⟩) (d.size - kk) (cap - kk)]).run Try.prog wr = .ok (.tuple #[]) (wr.setCells blk (off + kk) (List.replicate (d.size - kk) (enc zr))) :=
                fun ty => Lib.run_clear_slice wr _ _ ty _ t39 (fun w => by rw [ZR.out]; exact Try.zeroValue30 w) (HCL.out.cells zr) (HCL.out zr) blk (off + kk) _ _ (by omega) (fun j hj => by rw [show off + kk + j = off + (kk + j) by omega, (hHk (kk + j) (by omega)).1]; rfl) (fun j hj => by rw [show off + kk + j = off + (kk + j) by omega]; exact (hHk (kk + j) (by omega)).2)
              have y4 : (0 : Int) ≤ (j2 : Int) + 1 := by omega
              have y2 : ¬ (j2 : Int) + 1 < (d.size : Int) - ((jp : Int) + 1) := by omega
              have y7 : ((d.size - (jp + 1) : Nat) : Int) = (d.size : Int) - ((jp : Int) + 1) := by omega
              clear hHk hwr
              go_wp2
              go_ret
              have hI := I2.out
              rw [hend] at hI
              refine ⟨by rw [hI.len]; rfl, q2, ?_⟩
              rw [hI.len, ← hI.done zr, ← putRow_setCells enc _ blk off _ dk kk (by simp; omega), ← W5.out, List.map_replicate]
        | false =>
          rw [hq] at hc
          go_wp2_with fail
          go_quiet (first | (go_at_call 64; refine Calls.quiet_of (hc _)))
          go_wp2
          go_roundg (d.size - (jp + 1 + 1))
          case measure => omega
          case rel =>
            refine ⟨jp + 1 + 1, q + nq, by omega, by omega, Nat.le_refl _, by go_num, by rw [W2.out]; exact putRow_drewN _ _ _ _ _ _ _, (show Aside _ from fun j hj => ?_)⟩
            by_cases e : j = jp + 1
            · subst e
              rw [HK.out]
              unfold kpOf
              rw [B.out.1, B.out.2, hq]
              simp
            · exact A.out j (by omega)
      · have : k = d.size := by omega
        subst this
        clear hHk hwr
        go_wp2
        go_ret
        obtain ⟨e1, e2⟩ := HS.out q A.out
        exact ⟨by rw [e1]; rfl, q, by rw [← e2]; exact W2.out⟩
end Go.Proofs.Ytkdgpbcecnmdhaa.P

-- UrowsSort
namespace Go.Proofs.Ytkdgpbcecnmdhaa.P
set_option linter.unusedVariables false
set_option linter.unusedSimpArgs false
open Go.RowKit Go.Proofs.YtkdgpbcecnmdhaaW.PrintWords Go.Proofs.YtkdgpbcecnmdhaaW.PrintLast

/-- A row's inner row: its value, and what it holds. -/
structure RowAt (w : World) (base : Nat) (ok : Nat → Prop) (Pr : List Int → Prop) where
  l : List Int
  v : Value
  hR : Kd.R (Kd.int .i64) 3 w base ok v l
  hP : Pr l
theorem RowAt.one {w : World} {base : Nat} {ok : Nat → Prop} {Pr : List Int → Prop} (x : RowAt w base ok Pr) : x.v.oneCell' = true := by
  obtain ⟨A, c, e⟩ := Kd.R_slice x.hR
  rw [e]
  rfl
theorem rows_at {w : World} {base : Nat} {ok : Nat → Prop} {Pr : List Int → Prop} : ∀ (vs : List Value) (L : List (List Int)), vs.length = L.length → (∀ (j : Nat) (u : Value) (x : List Int), vs[j]? = some u → L[j]? = some x → Kd.R (Kd.int .i64) 3 w base ok u x) → (∀ x ∈ L, Pr x) → ∃ ds : List (RowAt w base ok Pr), ds.map RowAt.v = vs ∧ ds.map RowAt.l = L
  | [], [], _, _, _ => ⟨[], rfl, rfl⟩
  | [], _ :: _, h, _, _ => by simp at h
  | _ :: _, [], h, _, _ => by simp at h
  | u :: vs, x :: L, hl, h, hP => by
    obtain ⟨ds, e1, e2⟩ := rows_at vs L (by simpa using hl) (fun j u x hu hx => h (j + 1) u x (by simpa using hu) (by simpa using hx)) (fun x hx => hP x (List.mem_cons_of_mem _ hx))
    exact ⟨⟨x, u, h 0 u x rfl rfl, hP x (by simp)⟩ :: ds, by simp [e1], by simp [e2]⟩
theorem sortWorld_other {α : Type} [Inhabited α] (enc : α → Value) (w : World) (g n : Nat) (d : Array α) (os : Array Obj) (k : Nat) (hk : k < w.heap.size) (hg : k ≠ g) : (Go.Sort.grow (Go.Sort.putRow enc (Go.Sort.ahead w n) g 0 d) os).heap[k]? = w.heap[k]? := by
  have hsz : (Go.Sort.putRow enc (Go.Sort.ahead w n) g 0 d).heap.size = w.heap.size := by simp
  rw [Go.Sort.heap_grow_old _ _ (by rw [hsz]; exact hk)]
  simp only [Go.Sort.putRow, Go.Sort.mapBlock, Array.getElem?_modify]
  rw [if_neg (by omega)]
  rfl
/-- Rows whose values are those of some others, in another order or fewer, behind a world that turned the row alone. -/
theorem rows_back {w w' : World} {base : Nat} {ok ok' : Nat → Prop} {Pr : List Int → Prop} {ds' : List (RowAt w base ok Pr)} (hap : (ds'.map RowAt.v).Pairwise Apart) (hm : ∀ k, ok k → k < w.heap.size → w'.heap[k]? = w.heap[k]?) (ho : ∀ k, ok k → ok' k) : RowVals w' base ok' (ds'.map RowAt.v) (ds'.map RowAt.l) where
  len := by simp
  row := fun j u x hu hx => by
    rw [List.getElem?_map] at hu hx
    cases hz : ds'[j]? with
    | none => rw [hz] at hu; simp at hu
    | some z =>
      rw [hz] at hu hx
      obtain rfl := Option.some.inj hu
      obtain rfl := Option.some.inj hx
      exact Kd.R_mono (Kd.R_step z.hR hm) ho
  apart := hap

set_option maxHeartbeats 1000000 in
theorem rows_sort (cf : List Int → List Int → Int) (hT : Total cf) (Pr : List Int → Prop) (gf : Nat) (cb : Array Value)
    (eg : ∀ args w, (callFunc gf args).run Try.prog w = .ok (.enter gf args) w)
    (hcmp : ∀ (W : World) (A B : Option Addr) (c c' : Nat) (x y : List Int), Pr x → Pr y → Kd.C (Kd.int .i64) W A x.length x → x.length ≤ c → Kd.C (Kd.int .i64) W B y.length y → y.length ≤ c' → Calls Try.prog gf (#[.slice A x.length c, .slice B y.length c'] ++ cb) W fun e w' => e = .returned (.int .i64 (cf x y)) ∧ Drawn0 W w')
    (P0_ : Nat → Prop) (v : Value) (xs : List (List Int)) (w0 w : World) (hB : Below w0.heap.size w0 w) (hP : ∀ x ∈ xs, Pr x) (hz : xs.length < 4611686018427387904) (ho : Kd.S KII 30 w w0.heap.size P0_ v xs) :
    Calls Try.prog 49 #[v, .func (.func gf) #[] cb] w fun e w' => e = .returned (.tuple #[]) ∧ ∃ ys, ys.Perm xs ∧ (ys.Pairwise fun a b => ¬ cf b a < 0) ∧ Kd.S KII 30 w' w0.heap.size (fun k_ => (P0_ k_ ∨ w.heap.size ≤ k_)) v ys ∧ Below w0.heap.size w0 w' ∧ Kept w w' (fun k_ => P0_ k_) := by
  obtain ⟨vs, h0, hown, hv⟩ := S_vals ho
  obtain ⟨hlen, hcase⟩ := hown
  have hnone : ∀ (p : Option Addr) (cap : Nat), v = .slice p 0 cap → xs = [] → Calls Try.prog 49 #[v, .func (.func gf) #[] cb] w fun e w' => e = .returned (.tuple #[]) ∧ ∃ ys, ys.Perm xs ∧ (ys.Pairwise fun a b => ¬ cf b a < 0) ∧ Kd.S KII 30 w' w0.heap.size (fun k_ => (P0_ k_ ∨ w.heap.size ≤ k_)) v ys ∧ Below w0.heap.size w0 w' ∧ Kept w w' (fun k_ => P0_ k_) := by
    intro p cap ev ex
    subst ev ex
    refine (AnyF.slices_SortFunc_none (P := Try.prog) { Try.laysSlF6_f49 with } p cap (.func (.func gf) #[] cb) w).mono ?_
    rintro e w' ⟨rfl, rfl⟩
    exact ⟨rfl, [], .refl _, .nil, Kd.S_mono ho (fun _ h_ => .inl h_), hB, Kept.refl _ _⟩
  rcases hcase with ⟨ev, hn⟩ | ⟨g, cap, cur, ev, hg, hb, hc, hm, hs, ht⟩
  · exact hnone _ _ ev (List.eq_nil_of_length_eq_zero hn)
  · by_cases hx : xs = []
    · exact hnone _ cap (by rw [ev, hx]; rfl) hx
    · subst ev
      obtain ⟨ds, e1, e2⟩ := rows_at (Pr := Pr) vs xs hv.len hv.row hP
      have hds : ds ≠ [] := fun e => hx (by rw [← e2, e]; rfl)
      letI : Inhabited (RowAt w w0.heap.size (fun k => P0_ k ∧ some k ≠ (Value.slice (some ⟨g, 0, none⟩) xs.length cap).ownBlock) Pr) := ⟨ds.head hds⟩
      have hdl : ds.length = xs.length := by have := congrArg List.length e2; simpa using this
      have ht' : cur.toList.take ds.length = ds.map RowAt.v := by rw [hdl, e1]; simpa using ht
      have hok : P0_ g := h0 g rfl
      have hlt : g < w.heap.size := (Array.getElem?_eq_some_iff.1 hb).1
      have hng : ∀ k, (P0_ k ∧ some k ≠ (Value.slice (some ⟨g, 0, none⟩) xs.length cap).ownBlock) → k ≠ g := fun k hk e => hk.2 (by rw [e]; rfl)
      have hC := Go.Proofs.Any.slices_SortFunc (P := Try.prog) Try.laysSlF6_f49 (RowAt.v (w := w) (base := w0.heap.size) (ok := fun k => P0_ k ∧ some k ≠ (Value.slice (some ⟨g, 0, none⟩) xs.length cap).ownBlock) (Pr := Pr)) RowAt.one (fun a b => cf a.l b.l)
        { irrefl := fun x => hT.swo.irrefl x.l, trans := fun x y z => hT.swo.trans x.l y.l z.l, ntrans := fun x y z => hT.swo.ntrans x.l y.l z.l } gf cb g 0 cap ds.toArray w eg
        (CmpReads.lays fun m os dk hsd x y => by
          have hx := Kd.R_step (w1 := sortWorld RowAt.v w g 0 m dk os) x.hR (fun k hk hlk => sortWorld_other _ _ _ _ _ _ k hlk (hng k hk))
          have hy := Kd.R_step (w1 := sortWorld RowAt.v w g 0 m dk os) y.hR (fun k hk hlk => sortWorld_other _ _ _ _ _ _ k hlk (hng k hk))
          obtain ⟨A, c, ea, ha, hra⟩ := Kd.R_reads hx
          obtain ⟨B, c', eb, hbb, hrb⟩ := Kd.R_reads hy
          rw [ea, eb]
          refine (hcmp _ A B c c' x.l y.l x.hP y.hP hra ha hrb hbb).mono ?_
          rintro e w' ⟨rfl, ⟨q, rfl⟩⟩
          exact ⟨rfl, q, rfl⟩)
        (scalar_holds hb ht') hlt (by simpa [hdl] using hz)
      rw [show ds.toArray.size = xs.length by simpa using hdl] at hC
      refine hC.mono ?_
      rintro e w' ⟨rfl, d', n, os, hp, hso, hw⟩
      have hsz : d'.size = ds.length := by simpa using hp.1
      have hperm : d'.toList.Perm ds := by
        have := hp.2.2
        rw [show d'.extract 0 xs.length = d' by rw [← hdl, ← hsz]; exact Array.extract_size, show ds.toArray.extract 0 xs.length = ds.toArray by rw [show xs.length = ds.toArray.size by simpa using hdl.symm]; exact Array.extract_size] at this
        simpa using this
      have hS := scalar_sorted (enc := RowAt.v) (h1 := RowAt.one) (xs := ds) (ys := d'.toList) (cap := cap) (ok := P0_) hB hok hg hb (by rw [hdl]; exact hc) hm (by simpa using hs) (by simpa using hsz) n os w' (by rw [hw]; simp [sortWorld])
      obtain ⟨hown1, hown2⟩ := scalar_R.1 hS.1
      have hap : (d'.toList.map RowAt.v).Pairwise Apart := by
        refine ((hperm.map RowAt.v).pairwise_iff (fun h => Apart.symm h)).2 ?_
        rw [e1]
        exact hv.apart
      refine ⟨rfl, d'.toList.map RowAt.l, by rw [← e2]; exact hperm.map _, ?_, ?_, hS.2⟩
      · rw [List.pairwise_map, List.pairwise_iff_getElem]
        intro i j hi hj hij
        have h1 := hso i j (Nat.zero_le _) hij (by rw [← hdl, ← hsz]; simpa using hj)
        have h2 : i < d'.size := by simpa using hi
        have h3 : j < d'.size := by simpa using hj
        rw [getElem!_pos d' i h2, getElem!_pos d' j h3] at h1
        simpa [ltOf] using h1
      · have hl2 : (d'.toList.map RowAt.l).length = xs.length := by simp [hsz, hdl]
        refine vals_S (vs := d'.toList.map RowAt.v) (fun k hk => .inl (by simp [Value.ownBlock] at hk; exact hk ▸ hok)) ?_ (rows_back hap (fun k hk hlk => ?_) (fun k hk => ⟨.inl hk.1, hk.2⟩))
        · rw [List.length_map]
          rw [hdl] at hown2
          exact hown2
        · rw [hw]
          exact sortWorld_other _ _ _ _ _ _ k hlk (hng k hk)

/-- What is kept of a sorted row: its elements, once each. -/
theorem kept_sorted {α : Type} [Inhabited α] (key : α → List Int) (p : α → α → Bool) (hp : ∀ u v, p u v = decide (key u = key v)) (d : Array α) (hs : (d.toList.map key).Pairwise fun a b => ¬ cmpL b a < 0) :
    ((Go.Lib.keptUpTo (kpOf p d) d d.size).map key).Pairwise (fun a b => cmpL a b < 0) ∧ ∀ z, z ∈ (Go.Lib.keptUpTo (kpOf p d) d d.size).map key ↔ z ∈ d.toList.map key := by
  have hle : ∀ i j, i ≤ j → j < d.size → ¬ cmpL (key d[j]!) (key d[i]!) < 0 := by
    intro i j hij hj
    rcases Nat.lt_or_eq_of_le hij with h | h
    · rw [List.pairwise_map, List.pairwise_iff_getElem] at hs
      have := hs i j (by simp; omega) (by simpa using hj) h
      rw [getElem!_pos d i (by omega), getElem!_pos d j hj]
      simpa using this
    · subst h
      rw [cmpL_self]
      omega
  constructor
  · rw [List.pairwise_map]
    unfold Go.Lib.keptUpTo
    rw [List.pairwise_map]
    have hr : ((List.range d.size).filter (kpOf p d)).Pairwise fun i j => i < j ∧ j < d.size ∧ kpOf p d j = true := by
      have h1 : ((List.range d.size).filter (kpOf p d)).Pairwise (· < ·) := List.Pairwise.sublist List.filter_sublist List.pairwise_lt_range
      rw [List.pairwise_iff_getElem] at h1 ⊢
      intro i j hi hj hij
      have h2 := List.getElem_mem hj
      rw [List.mem_filter, List.mem_range] at h2
      exact ⟨h1 i j hi hj hij, h2⟩
    refine hr.imp ?_
    rintro i j ⟨hij, hj, hk⟩
    have h1 := hle i (j - 1) (by omega) (by omega)
    have h2 := hle (j - 1) j (by omega) hj
    have h3 : key d[j]! ≠ key d[j - 1]! := by
      unfold kpOf at hk
      rw [hp] at hk
      simp at hk
      rcases hk with h | h
      · omega
      · exact h
    by_cases e1 : cmpL (key d[j - 1]!) (key d[j]!) = 0
    · exact absurd (cmpL_eq _ _ e1).symm h3
    · have h4 : cmpL (key d[j - 1]!) (key d[j]!) < 0 := by rw [cmpL_anti] at h2; omega
      by_cases e2 : cmpL (key d[i]!) (key d[j - 1]!) = 0
      · rw [cmpL_eq _ _ e2]; exact h4
      · refine cmpL_trans _ _ _ ?_ h4
        rw [cmpL_anti] at h1
        omega
  · intro z
    constructor
    · intro hz
      obtain ⟨x, hx, rfl⟩ := List.mem_map.1 hz
      unfold Go.Lib.keptUpTo at hx
      obtain ⟨j, hj, rfl⟩ := List.mem_map.1 hx
      rw [List.mem_filter, List.mem_range] at hj
      refine List.mem_map.2 ⟨_, ?_, rfl⟩
      rw [getElem!_pos d j hj.1]
      simp
    · intro hz
      obtain ⟨x, hx, rfl⟩ := List.mem_map.1 hz
      obtain ⟨j, hj, rfl⟩ := List.getElem_of_mem hx
      have hj' : j < d.size := by simpa using hj
      have hgo : ∀ m, m < d.size → ∃ i, i < d.size ∧ kpOf p d i = true ∧ key d[i]! = key d[m]! := by
        intro m
        induction m with
        | zero => intro hm; exact ⟨0, hm, rfl, rfl⟩
        | succ m ih =>
          intro hm
          by_cases hk : kpOf p d (m + 1) = true
          · exact ⟨m + 1, hm, hk, rfl⟩
          · obtain ⟨i, hi, hki, he⟩ := ih (by omega)
            refine ⟨i, hi, hki, he.trans ?_⟩
            unfold kpOf at hk
            rw [hp] at hk
            simp at hk
            exact hk.symm
      obtain ⟨i, hi, hki, he⟩ := hgo j hj'
      refine List.mem_map.2 ⟨d[i]!, ?_, ?_⟩
      · unfold Go.Lib.keptUpTo
        exact List.mem_map.2 ⟨i, List.mem_filter.2 ⟨List.mem_range.2 hi, hki⟩, rfl⟩
      · rw [he, getElem!_pos d j hj']
        simp

set_option maxHeartbeats 1000000 in
theorem rows_compact (P0_ : Nat → Prop) (v : Value) (xs : List (List Int)) (w0 w : World) (hB : Below w0.heap.size w0 w) (hP : ∀ x ∈ xs, x.length < 9223372036854775807) (hs : xs.Pairwise fun a b => ¬ cmpL b a < 0) (ho : Kd.S KII 30 w w0.heap.size P0_ v xs) :
    Calls Try.prog 63 #[v, .func (.func 64) #[] #[]] w fun e w' => ∃ v', e = .returned v' ∧ ∃ ys, (ys.Pairwise fun a b => cmpL a b < 0) ∧ (∀ z, z ∈ ys ↔ z ∈ xs) ∧ Kd.S KII 30 w' w0.heap.size (fun k_ => (P0_ k_ ∨ w.heap.size ≤ k_)) v' ys ∧ Below w0.heap.size w0 w' ∧ Kept w w' (fun k_ => P0_ k_) := by
  obtain ⟨vs, h0, hown, hv⟩ := S_vals ho
  obtain ⟨hlen, hcase⟩ := hown
  rcases hcase with ⟨ev, hn⟩ | ⟨g, cap, cur, ev, hg, hb, hc, hm, hcs, ht⟩
  · obtain rfl : xs = [] := List.eq_nil_of_length_eq_zero hn
    subst ev
    go_enter Try.func63, Try.ntmps63
    go_wp2
    go_ret
    exact ⟨_, rfl, [], .nil, by simp, Kd.S_nil _ _ _ _ _, hB, Kept.refl _ _⟩
  · subst ev
    obtain ⟨ds, e1, e2⟩ := rows_at (Pr := fun x => x.length < 9223372036854775807) vs xs hv.len hv.row hP
    let nil_ : RowAt w w0.heap.size (fun k => P0_ k ∧ some k ≠ (Value.slice (some ⟨g, 0, none⟩) xs.length cap).ownBlock) (fun x => x.length < 9223372036854775807) := ⟨[], .slice none 0 0, Kd.R_nil _ _ _ _ _, by decide⟩
    letI : Inhabited (RowAt w w0.heap.size (fun k => P0_ k ∧ some k ≠ (Value.slice (some ⟨g, 0, none⟩) xs.length cap).ownBlock) (fun x => x.length < 9223372036854775807)) := ⟨nil_⟩
    have hdl : ds.length = xs.length := by have := congrArg List.length e2; simpa using this
    have ht' : cur.toList.take ds.length = ds.map RowAt.v := by rw [hdl, e1]; simpa using ht
    have hok : P0_ g := h0 g rfl
    have hlt : g < w.heap.size := (Array.getElem?_eq_some_iff.1 hb).1
    have hng : ∀ k, (P0_ k ∧ some k ≠ (Value.slice (some ⟨g, 0, none⟩) xs.length cap).ownBlock) → k ≠ g := fun k hk e => hk.2 (by rw [e]; rfl)
    have hgrow0 : ∀ W : World, Go.Sort.grow W #[] = W := fun W => Go.Sort.grow_empty W
    have hC := compact_walk (RowAt.v (w := w) (base := w0.heap.size) (ok := fun k => P0_ k ∧ some k ≠ (Value.slice (some ⟨g, 0, none⟩) xs.length cap).ownBlock) (Pr := fun x => x.length < 9223372036854775807)) RowAt.one (fun a b => decide (a.l = b.l)) nil_ rfl g 0 cap ds.toArray w
      (fun dk x y q hsd => by
        have hst : ∀ k, (P0_ k ∧ some k ≠ (Value.slice (some ⟨g, 0, none⟩) xs.length cap).ownBlock) → k < w.heap.size → (Go.Sort.putRow RowAt.v (Go.Sort.ahead w q) g 0 dk).heap[k]? = w.heap[k]? := fun k hk hlk => by
          have := sortWorld_other RowAt.v w g q dk #[] k hlk (hng k hk)
          rwa [hgrow0] at this
        have hx := Kd.R_step (w1 := Go.Sort.putRow RowAt.v (Go.Sort.ahead w q) g 0 dk) x.hR hst
        have hy := Kd.R_step (w1 := Go.Sort.putRow RowAt.v (Go.Sort.ahead w q) g 0 dk) y.hR hst
        obtain ⟨A, c, ea, ha, hra⟩ := Kd.R_reads hx
        obtain ⟨B, c', eb, hbb, hrb⟩ := Kd.R_reads hy
        rw [ea, eb]
        refine (slices_Equal_int_int.calls (x.l.length + 1) A c x.l B c' y.l (decide (x.l = y.l)) _ hra ha hrb hbb (equal_ev x.l y.l x.hP)).mono ?_
        rintro e w' ⟨rfl, ⟨q', rfl⟩⟩
        exact ⟨rfl, q', rfl⟩)
      (scalar_holds hb ht') (by have : cap ≤ 9223372036854775807 := hm; simp only [List.size_toArray]; omega) (by simp only [List.size_toArray]; omega)
    rw [show ds.toArray.size = xs.length by simpa using hdl] at hC
    refine hC.mono ?_
    rintro e w' ⟨rfl, q, hw⟩
    obtain ⟨ks, hks⟩ : ∃ ks, ks = Go.Lib.keptUpTo (kpOf (fun a b : RowAt w w0.heap.size (fun k => P0_ k ∧ some k ≠ (Value.slice (some ⟨g, 0, none⟩) xs.length cap).ownBlock) (fun x => x.length < 9223372036854775807) => decide (a.l = b.l)) ds.toArray) ds.toArray ds.toArray.size := ⟨_, rfl⟩
    have hks2 : Go.Lib.keptUpTo (kpOf (fun a b : RowAt w w0.heap.size (fun k => P0_ k ∧ some k ≠ (Value.slice (some ⟨g, 0, none⟩) xs.length cap).ownBlock) (fun x => x.length < 9223372036854775807) => decide (a.l = b.l)) ds.toArray) ds.toArray xs.length = ks := by rw [hks]; congr 1; simpa using hdl.symm
    rw [hks2] at hw ⊢
    have hrange : (List.range ds.toArray.size).map (fun j => ds.toArray[j]!) = ds := by
      apply List.ext_getElem
      · simp
      · intro i hi1 hi2
        simp [hi2]
    have hsub : ks.Sublist ds := by
      rw [hks]
      unfold Go.Lib.keptUpTo
      have h1 := List.Sublist.map (fun j => ds.toArray[j]!) (List.filter_sublist (p := kpOf (fun a b : RowAt w w0.heap.size (fun k => P0_ k ∧ some k ≠ (Value.slice (some ⟨g, 0, none⟩) xs.length cap).ownBlock) (fun x => x.length < 9223372036854775807) => decide (a.l = b.l)) ds.toArray) (l := List.range ds.toArray.size))
      rw [hrange] at h1
      exact h1
    have hlk : ks.length ≤ ds.length := hsub.length_le
    have hS := scalar_sorted (enc := RowAt.v) (h1 := RowAt.one) (xs := ds) (ys := ks ++ List.replicate (xs.length - ks.length) nil_) (cap := cap) (ok := P0_) hB hok hg hb (by rw [hdl]; exact hc) hm (by simpa using hcs) (by simp; omega) q #[] w' (by rw [hw, hgrow0])
    have hTk := scalar_take hS.1 ks.length (by simp)
    rw [List.take_left] at hTk
    obtain ⟨hown1, hown2⟩ := scalar_R.1 hTk
    have hKS := kept_sorted (fun a : RowAt w w0.heap.size (fun k => P0_ k ∧ some k ≠ (Value.slice (some ⟨g, 0, none⟩) xs.length cap).ownBlock) (fun x => x.length < 9223372036854775807) => a.l) (fun a b => decide (a.l = b.l)) (fun u v => rfl) ds.toArray (by rw [show ds.toArray.toList.map (fun a => a.l) = xs from e2]; exact hs)
    rw [← hks] at hKS
    have hap : (ks.map RowAt.v).Pairwise Apart := List.Pairwise.sublist (hsub.map RowAt.v) (by rw [e1]; exact hv.apart)
    refine ⟨_, rfl, ks.map RowAt.l, hKS.1, fun z => (hKS.2 z).trans (by rw [show ds.toArray.toList.map (fun a => a.l) = xs from e2]), ?_, hS.2⟩
    refine vals_S (vs := ks.map RowAt.v) hown1 ?_ (rows_back hap (fun k hk hlk2 => ?_) (fun k hk => ⟨.inl hk.1, hk.2⟩))
    · rw [List.length_map]
      exact hown2
    · rw [hw]
      have := sortWorld_other RowAt.v w g q (ks ++ List.replicate (xs.length - ks.length) nil_).toArray #[] k hlk2 (hng k hk)
      rwa [hgrow0] at this
end Go.Proofs.Ytkdgpbcecnmdhaa.P

-- UrowsCat
namespace Go.Proofs.Ytkdgpbcecnmdhaa.P
set_option linter.unusedVariables false
set_option linter.unusedSimpArgs false
open Go.RowKit Go.Proofs.YtkdgpbcecnmdhaaW.PrintWords Go.Proofs.YtkdgpbcecnmdhaaW.PrintLast

abbrev OneV := {v : Value // v.oneCell' = true}
theorem rows_one {w : World} {base : Nat} {ok : Nat → Prop} {vs : List Value} {L : List (List Int)} (h : RowVals w base ok vs L) : ∃ us : List OneV, us.map (·.1) = vs := by
  have hone : ∀ u ∈ vs, u.oneCell' = true := by
    intro u hu
    obtain ⟨j, hj, rfl⟩ := List.getElem_of_mem hu
    have hL : j < L.length := by have := h.len; omega
    obtain ⟨A, c, e⟩ := Kd.R_slice (h.row j vs[j] L[j] (List.getElem?_eq_getElem hj) (List.getElem?_eq_getElem hL))
    rw [e]
    rfl
  exact ⟨vs.attach.map (fun u => ⟨u.1, hone u.1 u.2⟩), by simp⟩
/-- A row of rows, seen as a row of values. -/
theorem S_scal {w : World} {base : Nat} {ok : Nat → Prop} {v : Value} {L : List (List Int)} (h : Kd.S KII 30 w base ok v L) :
    ∃ us : List OneV, (Kd.scalar (fun x : OneV => x.1) (fun x => x.2)).R 30 w base ok v us ∧ us.length = L.length ∧ RowVals w base (fun k => ok k ∧ some k ≠ v.ownBlock) (us.map (·.1)) L := by
  obtain ⟨vs, h0, hown, hv⟩ := S_vals h
  obtain ⟨us, rfl⟩ := rows_one hv
  have hl : us.length = L.length := by have := hv.len; simpa using this
  exact ⟨us, scalar_R.2 ⟨h0, by rw [hl]; exact hown⟩, hl, hv⟩
theorem scal_S {w : World} {base : Nat} {ok : Nat → Prop} {v : Value} {us : List OneV} {L : List (List Int)} (h : (Kd.scalar (fun x : OneV => x.1) (fun x => x.2)).R 30 w base ok v us) (hv : RowVals w base (fun k => ok k ∧ some k ≠ v.ownBlock) (us.map (·.1)) L) : Kd.S KII 30 w base ok v L := by
  obtain ⟨h1, h2⟩ := scalar_R.1 h
  have hl : us.length = L.length := by have := hv.len; simpa using this
  exact vals_S h1 (by rw [← hl]; exact h2) hv
/-- Rows that lie above some mark. -/
theorem RowVals.above {w : World} {B base : Nat} {ok ok' : Nat → Prop} {vs : List Value} {L : List (List Int)} (h : RowVals w B ok vs L) (hb : base ≤ B) (ho : ∀ k, ok k → B ≤ k → ok' k) : RowVals w base ok' vs L where
  len := h.len
  row := fun j u x hu hx => by
    have hr := h.row j u x hu hx
    exact Kd.R_lower (Kd.R_mono (Kd.R_bound hr) (fun k hk => ho k hk.1 hk.2.1)) hb
  apart := h.apart
theorem RowVals.own {w : World} {base : Nat} {ok : Nat → Prop} {vs : List Value} {L : List (List Int)} (h : RowVals w base ok vs L) {u : Value} (hu : u ∈ vs) {k : Nat} (hk : u.ownBlock = some k) : ok k ∧ base ≤ k ∧ k < w.heap.size := by
  obtain ⟨j, hj, rfl⟩ := List.getElem_of_mem hu
  have hL : j < L.length := by have := h.len; omega
  have hr := Kd.R_bound (h.row j vs[j] L[j] (List.getElem?_eq_getElem hj) (List.getElem?_eq_getElem hL))
  have := hr.1 k hk
  exact ⟨this.1, this.2.1, this.2.2.1⟩
/-- Rows in a later world. -/
theorem RowVals.step {w w1 : World} {base : Nat} {ok ok' : Nat → Prop} {vs : List Value} {L : List (List Int)} (h : RowVals w base ok vs L) (hm : ∀ k, ok k → k < w.heap.size → w1.heap[k]? = w.heap[k]?) (ho : ∀ k, ok k → k < w.heap.size → ok' k) : RowVals w1 base ok' vs L where
  len := h.len
  row := fun j u x hu hx => by
    have hr := h.row j u x hu hx
    exact Kd.R_mono (Kd.R_step (Kd.R_bound hr) (fun k hk hlt => hm k hk.1 hlt)) (fun k hk => ho k hk.1 hk.2.2.1)
  apart := h.apart
theorem RowVals.cat {w : World} {base : Nat} {ok : Nat → Prop} {vs us : List Value} {L M : List (List Int)} (h : RowVals w base ok vs L) (h' : RowVals w base ok us M) (ha : ∀ a ∈ vs, ∀ b ∈ us, Apart a b) : RowVals w base ok (vs ++ us) (L ++ M) where
  len := by simp [h.len, h'.len]
  row := fun j u x hu hx => by
    have hl := h.len
    by_cases hj : j < vs.length
    · rw [List.getElem?_append_left hj] at hu
      rw [List.getElem?_append_left (by omega)] at hx
      exact h.row j u x hu hx
    · rw [List.getElem?_append_right (by omega)] at hu
      rw [List.getElem?_append_right (by omega), ← hl] at hx
      exact h'.row _ u x hu hx
  apart := List.pairwise_append.2 ⟨h.apart, h'.apart, ha⟩
/-- What a call has made, laid behind what was there: both rows' inner rows in one row. -/
theorem S_cat {W w1 : World} {base B : Nat} {v v1 u : Value} {us ns : List OneV} {L M : List (List Int)} (hbB : base ≤ B) (hB : B ≤ W.heap.size)
    (hV : RowVals W base (fun k => k < B ∧ some k ≠ v.ownBlock) (us.map (·.1)) L) (hvB : ∀ k, v.ownBlock = some k → k < B)
    (hU : RowVals W B (fun k => some k ≠ u.ownBlock) (ns.map (·.1)) M)
    (hg : W.grownBy w1 v.ownBlock) (hat : v1.ownBlock = v.ownBlock ∨ ∃ b, v1.ownBlock = some b ∧ W.heap.size ≤ b)
    (hR : (Kd.scalar (fun x : OneV => x.1) (fun x => x.2)).R 30 w1 base (fun _ => True) v1 (us ++ ns)) : Kd.S KII 30 w1 base (fun _ => True) v1 (L ++ M) := by
  have hne : ∀ k, k < W.heap.size → some k ≠ v.ownBlock → some k ≠ v1.ownBlock := by
    intro k hk hn e
    rcases hat with h1 | ⟨b, h1, h2⟩
    · exact hn (by rw [e, h1])
    · rw [h1] at e
      injection e with e
      omega
  refine scal_S hR ?_
  rw [List.map_append]
  refine RowVals.cat (hV.step (fun k hk hlt => hg.block k hlt hk.2) (fun k hk hlt => ⟨trivial, hne k hlt hk.2⟩)) ?_ ?_
  · have h1 : RowVals W base (fun k => some k ≠ v.ownBlock) (ns.map (·.1)) M := hU.above hbB (fun k hk hbk e => by
      have := hvB k e.symm
      omega)
    exact h1.step (fun k hk hlt => hg.block k hlt hk) (fun k hk hlt => ⟨trivial, hne k hlt hk⟩)
  · intro a ha b hb k hak hbk
    have h1 := hV.own ha hak
    have h2 := hU.own hb hbk
    omega
end Go.Proofs.Ytkdgpbcecnmdhaa.P

-- UcmpM
namespace Go.Proofs.Ytkdgpbcecnmdhaa.P
set_option linter.unusedVariables false
set_option linter.unusedSimpArgs false
open Go.RowKit Go.Proofs.YtkdgpbcecnmdhaaW.PrintWords Go.Proofs.YtkdgpbcecnmdhaaW.PrintLast

def cfM (a b : List Int) : Int := if rd a 2 = rd b 2 then cmpL a b else rd a 2 - rd b 2
theorem cfM_total : Total cfM where
  anti := fun a b => by
    unfold cfM
    by_cases h : rd a 2 = rd b 2
    · rw [if_pos h, if_pos h.symm, cmpL_anti b a]
      omega
    · rw [if_neg h, if_neg (fun e => h e.symm)]
      omega
  trans := fun a b c => by
    unfold cfM
    intro h1 h2
    by_cases e1 : rd a 2 = rd b 2
    · rw [if_pos e1] at h1
      by_cases e2 : rd b 2 = rd c 2
      · rw [if_pos e2] at h2
        rw [if_pos (e1.trans e2)]
        exact cmpL_trans _ _ _ h1 h2
      · rw [if_neg e2] at h2
        rw [if_neg (by omega)]
        omega
    · rw [if_neg e1] at h1
      by_cases e2 : rd b 2 = rd c 2
      · rw [if_neg (by omega)]
        omega
      · rw [if_neg e2] at h2
        rw [if_neg (by omega)]
        omega
  eq := fun a b h => by
    unfold cfM at h
    by_cases e : rd a 2 = rd b 2
    · rw [if_pos e] at h
      exact cmpL_eq _ _ h
    · rw [if_neg e] at h
      omega
  self := fun a => by
    unfold cfM
    rw [if_pos rfl, cmpL_self]
def insM (x : List Int) : List (List Int) → List (List Int)
  | [] => [x]
  | y :: t => if cfM x y < 0 then x :: y :: t else y :: insM x t
def sortM : List (List Int) → List (List Int)
  | [] => []
  | x :: t => insM x (sortM t)
theorem insM_perm (x : List Int) : ∀ l, (insM x l).Perm (x :: l)
  | [] => .refl _
  | y :: t => by
    unfold insM
    split
    · exact .refl _
    · exact ((insM_perm x t).cons y).trans (List.Perm.swap x y t)
theorem insM_sorted (x : List Int) : ∀ l, (l.Pairwise fun a b => ¬ cfM b a < 0) → (insM x l).Pairwise fun a b => ¬ cfM b a < 0
  | [], _ => by simp [insM]
  | y :: t, h => by
    unfold insM
    rw [List.pairwise_cons] at h
    have hn := cfM_total.swo.ntrans
    simp only [decide_eq_false_iff_not] at hn
    split
    · rename_i h1
      have h2 : ¬ cfM y x < 0 := by have := (cfM_total.anti x y).1 h1; omega
      rw [List.pairwise_cons, List.pairwise_cons]
      refine ⟨fun z hz => ?_, h.1, h.2⟩
      rcases List.mem_cons.1 hz with e | hz
      · subst e; exact h2
      · exact hn z y x (h.1 z hz) h2
    · rename_i h1
      rw [List.pairwise_cons]
      refine ⟨fun z hz => ?_, insM_sorted x t h.2⟩
      rcases List.mem_cons.1 ((insM_perm x t).mem_iff.1 hz) with e | hz
      · subst e; exact h1
      · exact h.1 z hz
theorem sortM_perm : ∀ l, (sortM l).Perm l
  | [] => .refl _
  | x :: t => (insM_perm x _).trans ((sortM_perm t).cons x)
theorem sortM_sorted : ∀ l, (sortM l).Pairwise fun a b => ¬ cfM b a < 0
  | [] => .nil
  | x :: t => insM_sorted x _ (sortM_sorted t)
theorem sortM_is {l m : List (List Int)} (hp : m.Perm l) (hs : m.Pairwise fun a b => ¬ cfM b a < 0) : m = sortM l :=
  cfM_total.unique (hp.trans (sortM_perm l).symm) hs (sortM_sorted l)
def prM (x : List Int) : Bool := decide (2 < x.length ∧ x.length < 9223372036854775807 ∧ 0 ≤ rd x 2 ∧ rd x 2 ≤ 1000000000)
theorem prM_iff {x : List Int} : prM x = true ↔ 2 < x.length ∧ x.length < 9223372036854775807 ∧ 0 ≤ rd x 2 ∧ rd x 2 ≤ 1000000000 := by simp [prM]
end Go.Proofs.Ytkdgpbcecnmdhaa.P

-- UsortDedup
namespace Go.Proofs.Ytkdgpbcecnmdhaa.P
set_option linter.unusedVariables false
set_option linter.unusedSimpArgs false

def insS (x : List Int) : List (List Int) → List (List Int)
  | [] => [x]
  | y :: t => if cmpL x y < 0 then x :: y :: t else if cmpL x y = 0 then y :: t else y :: insS x t
def sortDedup : List (List Int) → List (List Int)
  | [] => []
  | x :: t => insS x (sortDedup t)
theorem insS_mem (x z : List Int) : ∀ l, z ∈ insS x l ↔ z = x ∨ z ∈ l
  | [] => by simp [insS]
  | y :: t => by
    unfold insS
    split
    · simp
    · split
      · rename_i h
        have := cmpL_eq x y h
        subst this
        simp
      · simp only [List.mem_cons, insS_mem x z t]
        constructor
        · rintro (h | h | h) <;> simp [h]
        · rintro (h | h | h) <;> simp [h]
theorem insS_sorted (x : List Int) : ∀ l, (l.Pairwise fun a b => cmpL a b < 0) → (insS x l).Pairwise fun a b => cmpL a b < 0
  | [], _ => by simp [insS]
  | y :: t, h => by
    unfold insS
    rw [List.pairwise_cons] at h
    split
    · rename_i h1
      rw [List.pairwise_cons, List.pairwise_cons]
      refine ⟨fun z hz => ?_, h.1, h.2⟩
      rcases List.mem_cons.1 hz with e | hz
      · subst e; exact h1
      · exact cmpL_trans _ _ _ h1 (h.1 z hz)
    · split
      · rw [List.pairwise_cons]; exact h
      · rename_i h1 h2
        rw [List.pairwise_cons]
        refine ⟨fun z hz => ?_, insS_sorted x t h.2⟩
        rcases (insS_mem x z t).1 hz with e | hz
        · subst e
          rw [cmpL_anti]
          omega
        · exact h.1 z hz
theorem sortDedup_mem (z : List Int) : ∀ l, z ∈ sortDedup l ↔ z ∈ l
  | [] => by simp [sortDedup]
  | x :: t => by simp [sortDedup, insS_mem, sortDedup_mem z t]
theorem sortDedup_sorted : ∀ l, (sortDedup l).Pairwise fun a b => cmpL a b < 0
  | [] => by simp [sortDedup]
  | x :: t => insS_sorted x _ (sortDedup_sorted t)
theorem sortDedup_is {l m : List (List Int)} (h1 : m.Pairwise fun a b => cmpL a b < 0) (h2 : ∀ z, z ∈ m ↔ z ∈ l) : m = sortDedup l :=
  cmpL_total.uniqueS h1 (sortDedup_sorted l) (fun z => (h2 z).trans (sortDedup_mem z l).symm)
end Go.Proofs.Ytkdgpbcecnmdhaa.P

-- GcloneInts
namespace Go.Proofs.Ytkdgpbcecnmdhaa.P
open Go.RowKit Go.Proofs.YtkdgpbcecnmdhaaW.PrintWords Go.Proofs.YtkdgpbcecnmdhaaW.PrintLast
set_option linter.unusedVariables false
set_option linter.unusedSimpArgs false

def slices_Clone_int_int.f (l0 : List Int) : Option (List Int) := if l0.length < 17592186044416 then some l0 else none
theorem slices_Clone_int_int.calls (A0 : Option Addr) (c0 : Nat) (l0 : List Int) (r : List Int) (w : World) (hr0 : Kd.C (Kd.int .i64) w A0 l0.length l0) (hc0 : l0.length ≤ c0) (h : slices_Clone_int_int.f l0 = some r) :
  Calls Try.prog 57 #[.slice A0 l0.length c0] w fun e w' => ∃ v0_ : Value, e = .returned (v0_) ∧ Kd.R (Kd.int .i64) 3 w' w.heap.size (fun _ => True) v0_ r ∧ Below w.heap.size w w' := by
  have hr : l0 = r ∧ l0.length < 17592186044416 := by
    unfold slices_Clone_int_int.f at h
    split at h
    · exact ⟨by simpa using h, by assumption⟩
    · simp at h
  obtain ⟨rfl, hlen⟩ := hr
  cases A0 with
  | none =>
    have h0 : l0 = [] := by
      rcases Nat.eq_zero_or_pos l0.length with h1 | h1
      · exact List.eq_nil_of_length_eq_zero h1
      · obtain ⟨ad, h2, _⟩ := hr0.2.2 h1
        simp at h2
    subst h0
    refine (Go.Proofs.Try.slices_Clone_int_nil 0 c0 w).mono ?_
    rintro e w' ⟨rfl, rfl⟩
    exact ⟨_, rfl, Kd.R_nil _ _ _ _ _, Below.refl _ _⟩
  | some a =>
    by_cases h0 : l0.length = 0
    · have h1 : l0 = [] := List.eq_nil_of_length_eq_zero h0
      subst h1
      refine (Go.Proofs.Try.slices_Clone_int_zero a c0 w).mono ?_
      rintro e w' ⟨v', rfl, hown, _, hb⟩
      exact ⟨v', rfl, scalar_R.2 ⟨fun _ _ => trivial, hown⟩, hb⟩
    · obtain ⟨ad, he, hc⟩ := hr0.2.2 (by omega)
      injection he with he
      subst he
      have hcell : ∀ j, j < l0.length → w.cell? (a.add j) = some (.int .i64 (l0.getD j 0)) := fun j hj => by
        obtain ⟨c, hcl, hp, hcell⟩ := hc j l0[j] (List.getElem?_eq_getElem hj)
        have hc1 : c = [Value.int .i64 l0[j]] := hp
        subst hc1
        have h2 := hcell 0 _ rfl
        rw [Nat.add_zero, show j * (Kd.int .i64).sz = j from Nat.mul_one j] at h2
        rw [h2]
        simp [List.getD_eq_getElem?_getD, hj]
      obtain ⟨b, off, spot⟩ := a
      have hspot : spot = none := by
        have h2 := hcell 0 (by omega)
        cases spot with
        | none => rfl
        | some k =>
          simp only [Addr.add, if_true, World.cell?] at h2
          split at h2 <;> simp at h2
      subst hspot
      refine (Go.Proofs.Try.slices_Clone_int b off l0.length c0 l0 w (Nat.le_refl _) (by omega) (fun j hj => ?_)).mono ?_
      · rw [← hcell j hj]
        congr 1
        by_cases h1 : j = 0
        · subst h1
          simp [Addr.add]
        · simp [Addr.add, h1]
      · rintro e w' ⟨v', rfl, hown, _, hb⟩
        exact ⟨v', rfl, scalar_R.2 ⟨fun _ _ => trivial, by rw [List.take_length] at hown; exact hown⟩, hb⟩
end Go.Proofs.Ytkdgpbcecnmdhaa.P

-- GsortInts
namespace Go.Proofs.Ytkdgpbcecnmdhaa.P
open Go.RowKit Go.Proofs.YtkdgpbcecnmdhaaW.PrintWords Go.Proofs.YtkdgpbcecnmdhaaW.PrintLast
set_option linter.unusedVariables false
set_option linter.unusedSimpArgs false

def slices_Sort_int_int.f (l0 : List Int) : Option (List Int) := if l0.length < 4611686018427387904 then some (l0.mergeSort fun x y => decide (x ≤ y)) else none
theorem slices_Sort_int_int.calls (P0_ : Nat → Prop) (u9000_ : Value) (l0 : List Int) (r : List Int) (w0 w : World) (hB : Below w0.heap.size w0 w) (ho0 : Kd.R (Kd.int .i64) 3 w w0.heap.size P0_ u9000_ l0) (h : slices_Sort_int_int.f l0 = some r) :
  Calls Try.prog 58 #[u9000_] w fun e w' => e = .returned (.tuple #[]) ∧ Kd.R (Kd.int .i64) 3 w' w0.heap.size (fun k_ => (P0_ k_ ∨ w.heap.size ≤ k_)) u9000_ r ∧ Below w0.heap.size w0 w' ∧ Kept w w' (fun k_ => P0_ k_) := by
  have hr : l0.mergeSort (fun x y => decide (x ≤ y)) = r ∧ l0.length < 4611686018427387904 := by
    unfold slices_Sort_int_int.f at h
    split at h
    · exact ⟨by simpa using h, by assumption⟩
    · simp at h
  obtain ⟨rfl, hz⟩ := hr
  rcases scalar_open ho0 with ⟨rfl, rfl⟩ | ⟨g, cap, cur, rfl, hok, hg, hb, hc, hm, hs, ht⟩
  · refine (Go.Proofs.Try.slices_Sort_int_none none 0 w).mono ?_
    rintro e w' ⟨rfl, rfl⟩
    refine ⟨rfl, ?_, hB, Kept.refl _ _⟩
    rw [show (([] : List Int).mergeSort fun x y => decide (x ≤ y)) = [] by simp]
    exact Kd.R_nil _ _ _ _ _
  · have hlt : g < w.heap.size := (Array.getElem?_eq_some_iff.1 hb).1
    refine (Go.Proofs.Try.slices_Sort_int g 0 cap l0 w (scalar_holds hb ht) hlt hz).mono ?_
    rintro e w' ⟨rfl, n, os, hw⟩
    exact ⟨rfl, scalar_sorted hB hok hg hb hc hm hs (List.length_mergeSort _) n os w' hw⟩
end Go.Proofs.Ytkdgpbcecnmdhaa.P

-- PFimplmoved
namespace Go.Proofs.Ytkdgpbcecnmdhaa.P
open Go.RowKit Go.Proofs.YtkdgpbcecnmdhaaW.PrintWords Go.Proofs.YtkdgpbcecnmdhaaW.PrintLast
set_option linter.unusedVariables false
set_option linter.unusedSimpArgs false

/-! ### impl_moved: function 44 -/
def impl_moved.f (l0 : List Int) (a1 : Int) : Option (List Int) := (slices_Clone_int_int.f l0).bind fun t358 => (if 0 ≤ (Int.tmod (wrap64 (a1 + 1)) 3) then (if (Int.tmod (wrap64 (a1 + 1)) 3) < (l0.length : Int) then (if 0 ≤ (Int.tmod (wrap64 (a1 + 2)) 3) then (if (Int.tmod (wrap64 (a1 + 2)) 3) < (l0.length : Int) then (if 0 ≤ a1 then (if a1 < (l0.length : Int) then (if a1 < (t358.length : Int) then ((slices_Sort_int_int.f (t358.set (a1 : Int).toNat (wrap64 ((wrap64 ((wrap64 (3 * (rd l0 (Int.tmod (wrap64 (a1 + 1)) 3)))) * (rd l0 (Int.tmod (wrap64 (a1 + 2)) 3)))) - (rd l0 a1))))).bind fun t365 => (some t365)) else (none)) else (none)) else (none)) else (none)) else (none)) else (none)) else (none))
def impl_moved.T2 : Bool × List (List Nat × List Nat) := (true, [([], []), ([], []), ([], []), ([], []), ([3], [3]), ([4], [4]), ([2, 5], [2, 5]), ([6], [6]), ([7], [7]), ([], []), ([], []), ([10], [10]), ([11], [11]), ([9, 12], [9, 12]), ([13], [13]), ([8, 14], [8, 14]), ([], []), ([], []), ([16, 17], [16, 17]), ([18], [18]), ([15, 19], [15, 19]), ([0, 1, 0, 1, 2, 3, 4, 5, 6, 7, 8, 9, 10, 11, 12, 13, 14, 15, 16, 17, 18, 19, 20], [0, 1]), ([21, 20, 0, 1, 2, 3, 4, 5, 6, 7, 8, 9, 10, 11, 12, 13, 14, 15, 16, 17, 18, 19, 20], [20, 21])])
def impl_moved.B2 : List Nat := [0, 0, 0, 0, 8, 24, 60, 124, 252, 0, 0, 1024, 3072, 7680, 15872, 32764, 0, 0, 196608, 458752, 1048572, 2097151, 4194303]
theorem impl_moved.tab2 : rtab .any (opsOf Try.f44 2) = impl_moved.T2 := by kernel_rfl
theorem impl_moved.bits2 : waitsOk impl_moved.T2.2 impl_moved.B2 = true := by kernel_rfl
set_option maxHeartbeats 8000000 in
set_option maxRecDepth 100000 in
theorem impl_moved.calls (A0 : Option Addr) (c0 : Nat) (l0 : List Int) (a1 : Int) (r : List Int) (w : World) (hr0 : Kd.C (Kd.int .i64) w A0 l0.length l0) (hc0 : l0.length ≤ c0) (h : impl_moved.f l0 a1 = some r) :
  Calls Try.prog 44 #[.slice A0 l0.length c0, .int .i64 a1] w fun e w' => ∃ v0_ : Value, e = .returned (v0_) ∧ Kd.R (Kd.int .i64) 3 w' w.heap.size (fun _ => True) v0_ r ∧ Below w.heap.size w w' := by
 have HR0 := Aside0.mk hr0
 have HC0 := Aside0.mk hc0
 clear hr0 hc0
 have HB := Aside0.mk (Below.refl w.heap.size w)
 have H : ((slices_Clone_int_int.f l0).bind fun t358 => (if 0 ≤ (Int.tmod (wrap64 (a1 + 1)) 3) then (if (Int.tmod (wrap64 (a1 + 1)) 3) < (l0.length : Int) then (if 0 ≤ (Int.tmod (wrap64 (a1 + 2)) 3) then (if (Int.tmod (wrap64 (a1 + 2)) 3) < (l0.length : Int) then (if 0 ≤ a1 then (if a1 < (l0.length : Int) then (if a1 < (t358.length : Int) then ((slices_Sort_int_int.f (t358.set (a1 : Int).toNat (wrap64 ((wrap64 ((wrap64 (3 * (rd l0 (Int.tmod (wrap64 (a1 + 1)) 3)))) * (rd l0 (Int.tmod (wrap64 (a1 + 2)) 3)))) - (rd l0 a1))))).bind fun t365 => (some t365)) else (none)) else (none)) else (none)) else (none)) else (none)) else (none)) else (none))) = some r := h
 clear h
 replace H := Option.bind_eq_some_iff.mp H
 obtain ⟨t358, A30, H⟩ := H
 replace H : (if 0 ≤ (Int.tmod (wrap64 (a1 + 1)) 3) then (if (Int.tmod (wrap64 (a1 + 1)) 3) < (l0.length : Int) then (if 0 ≤ (Int.tmod (wrap64 (a1 + 2)) 3) then (if (Int.tmod (wrap64 (a1 + 2)) 3) < (l0.length : Int) then (if 0 ≤ a1 then (if a1 < (l0.length : Int) then (if a1 < (t358.length : Int) then ((slices_Sort_int_int.f (t358.set (a1 : Int).toNat (wrap64 ((wrap64 ((wrap64 (3 * (rd l0 (Int.tmod (wrap64 (a1 + 1)) 3)))) * (rd l0 (Int.tmod (wrap64 (a1 + 2)) 3)))) - (rd l0 a1))))).bind fun t365 => (some t365)) else (none)) else (none)) else (none)) else (none)) else (none)) else (none)) else (none)) = some r := H
 have A3 := Aside0.mk A30
 clear A30
 obtain ⟨ji4, hji4⟩ : ∃ j_ : Int, (Int.tmod (wrap64 (a1 + 1)) 3) = j_ := ⟨_, rfl⟩
 replace H : (if 0 ≤ (ji4) then (if (ji4) < (l0.length : Int) then (if 0 ≤ (Int.tmod (wrap64 (a1 + 2)) 3) then (if (Int.tmod (wrap64 (a1 + 2)) 3) < (l0.length : Int) then (if 0 ≤ a1 then (if a1 < (l0.length : Int) then (if a1 < (t358.length : Int) then ((slices_Sort_int_int.f (t358.set (a1 : Int).toNat (wrap64 ((wrap64 ((wrap64 (3 * (rd l0 (ji4)))) * (rd l0 (Int.tmod (wrap64 (a1 + 2)) 3)))) - (rd l0 a1))))).bind fun t365 => (some t365)) else (none)) else (none)) else (none)) else (none)) else (none)) else (none)) else (none)) = some r := by first | (rw [hji4] at H; exact H) | (simp only [hji4] at H ⊢; exact H)
 (try rw [hji4] at A3)
 by_cases c5 : 0 ≤ (ji4)
 ·rw [if_pos c5] at H
  have c5b0 : decide (0 ≤ (ji4)) = true := decide_eq_true c5
  clear c5
  by_cases c6 : (ji4) < (l0.length : Int)
  ·rw [if_pos c6] at H
   have c6b0 : decide ((ji4) < (l0.length : Int)) = true := decide_eq_true c6
   clear c6
   obtain ⟨ji7, hji7⟩ : ∃ j_ : Int, (Int.tmod (wrap64 (a1 + 2)) 3) = j_ := ⟨_, rfl⟩
   replace H : (if 0 ≤ (ji7) then (if (ji7) < (l0.length : Int) then (if 0 ≤ a1 then (if a1 < (l0.length : Int) then (if a1 < (t358.length : Int) then ((slices_Sort_int_int.f (t358.set (a1 : Int).toNat (wrap64 ((wrap64 ((wrap64 (3 * (rd l0 (ji4)))) * (rd l0 (ji7)))) - (rd l0 a1))))).bind fun t365 => (some t365)) else (none)) else (none)) else (none)) else (none)) else (none)) = some r := by first | (rw [hji7] at H; exact H) | (simp only [hji7] at H ⊢; exact H)
   (try rw [hji7] at A3)
   by_cases c8 : 0 ≤ (ji7)
   ·rw [if_pos c8] at H
    have c8b0 : decide (0 ≤ (ji7)) = true := decide_eq_true c8
    clear c8
    by_cases c9 : (ji7) < (l0.length : Int)
    ·rw [if_pos c9] at H
     have c9b0 : decide ((ji7) < (l0.length : Int)) = true := decide_eq_true c9
     clear c9
     by_cases c10 : 0 ≤ a1
     ·rw [if_pos c10] at H
      have c10b0 : decide (0 ≤ a1) = true := decide_eq_true c10
      clear c10
      by_cases c11 : a1 < (l0.length : Int)
      ·rw [if_pos c11] at H
       have c11b0 : decide (a1 < (l0.length : Int)) = true := decide_eq_true c11
       clear c11
       by_cases c12 : a1 < (t358.length : Int)
       ·rw [if_pos c12] at H
        have c12b0 : decide (a1 < (t358.length : Int)) = true := decide_eq_true c12
        clear c12
        obtain ⟨y364, hy364⟩ : ∃ y_ : List Int, y_ = (t358.set (a1 : Int).toNat (wrap64 ((wrap64 ((wrap64 (3 * (rd l0 (ji4)))) * (rd l0 (ji7)))) - (rd l0 a1)))) := ⟨_, rfl⟩
        replace H : ((slices_Sort_int_int.f y364).bind fun t365 => (some t365)) = some r := by first | (rw [hy364]; with_reducible exact H) | (have H2_ := (Option.bind_some _ _).symm.trans H; rw [hy364]; with_reducible exact H2_) | (have H2_ := (Option.bind_some _ _).symm.trans H; with_reducible exact H2_) | with_reducible exact H | (rw [hy364]; exact H) | exact H
        have Ny364 := Aside0.mk hy364
        clear hy364
        replace H := Option.bind_eq_some_iff.mp H
        obtain ⟨t365, A140, H⟩ := H
        replace H : (some t365) = some r := H
        have A14 := Aside0.mk A140
        clear A140
        obtain rfl := Option.some.inj H
        go_enter Try.func44, Try.ntmps44
        try go_wp2_with (first | ((with_reducible refine gate_callee (f := 57) rfl ?_); refine goesL_ (some 7) rfl rfl Try.func57 (by kernel_rfl) rfl #[.slice A0 l0.length c0] rfl (by (try simp only [List.map_toArray, List.map_cons, List.map_nil]); first | done | rfl | (simp only [List.length_drop, List.length_take]; rfl)) ?_; (with_reducible refine (slices_Clone_int_int.calls _ _ l0 t358 _ ?side1 ?side2 A3.out).mono ?_); (case side1 => repeat (first | exact HR0.out | (with_reducible refine Kd.C_alloc ?_ _) | (with_reducible refine Kd.C_drewN ?_ _) | (with_reducible refine Kd.C_drew ?_))); (case side2 => exact HC0.out); rintro e w15 ⟨v359, rfl, ho0, hb⟩; refine ⟨_, rfl, ?_⟩; have n0_ := Aside0.mk (Kd.R_lower ho0 (below_size (by repeat (first | (with_reducible first | exact HB.out | apply below_alloc | apply pw_below_drewN | apply below_drew1) | exact HB.out)))); have n1_ := Aside0.mk (below_step (by repeat (first | (with_reducible first | exact HB.out | apply below_alloc | apply pw_below_drewN | apply below_drew1) | exact HB.out)) hb); clear HB; have HO360 := n0_; have HB := n1_; clear n0_ n1_; (try clear hb); (try clear hb2); (try clear hk); (try clear hi); (try clear ho0)))
        have n0_ := Aside0.mk (Kd.R_drew HO360.out)
        have n1_ := Aside0.mk (below_drew1 HB.out)
        clear HO360
        clear HB
        have HO360 := n0_
        have HB := n1_
        clear n0_ n1_
        have p361 : 0 ≤ ((ji4) : Int) := of_decide_eq_true (by first | (with_reducible assumption) | assumption)
        have q361 : (ji4) < (l0.length : Int) := of_decide_eq_true (by first | (with_reducible assumption) | assumption)
        obtain ⟨ad361, e361, hx361_0⟩ := Kd.at_int HR0.out (ji4) p361 q361
        have hw361_0 := hx361_0
        cases e361
        replace hx361_0 := (HB.out.cell (World.block_lt_of_cell? w _ hx361_0)).trans hx361_0
        replace p361 := eq_true p361
        replace q361 := eq_true q361
        have p362 : 0 ≤ ((ji7) : Int) := of_decide_eq_true (by first | (with_reducible assumption) | assumption)
        have q362 : (ji7) < (l0.length : Int) := of_decide_eq_true (by first | (with_reducible assumption) | assumption)
        obtain ⟨ad362, e362, hx362_0⟩ := Kd.at_int HR0.out (ji7) p362 q362
        have hw362_0 := hx362_0
        obtain rfl : ad361 = ad362 := (by injection e362)
        replace hx362_0 := (HB.out.cell (World.block_lt_of_cell? w _ hx362_0)).trans hx362_0
        replace p362 := eq_true p362
        replace q362 := eq_true q362
        have p363 : 0 ≤ (a1 : Int) := of_decide_eq_true (by first | (with_reducible assumption) | assumption)
        have q363 : a1 < (l0.length : Int) := of_decide_eq_true (by first | (with_reducible assumption) | assumption)
        obtain ⟨ad363, e363, hx363_0⟩ := Kd.at_int HR0.out a1 p363 q363
        have hw363_0 := hx363_0
        obtain rfl : ad361 = ad363 := (by injection e363)
        replace hx363_0 := (HB.out.cell (World.block_lt_of_cell? w _ hx363_0)).trans hx363_0
        replace p363 := eq_true p363
        replace q363 := eq_true q363
        have p13 : 0 ≤ (a1 : Int) := of_decide_eq_true (by first | (with_reducible assumption) | assumption)
        have q13 : (a1 : Int) < ((t358.length : Int) : Int) := of_decide_eq_true (by first | (with_reducible assumption) | assumption)
        obtain ⟨go13, co13, eo13, gb13, gl13, cl13, HG13⟩ := Kd.R_form HO360.out (by omega)
        (first | cases eo13 | (injection eo13 with ea_ en_ ec_; (first | subst ea_ | (injection ea_ with ea_; subst ea_)); subst ec_; clear en_))
        have GB13 := Aside0.mk gb13
        have GG13 := Aside0.mk HG13
        clear gb13 gl13 HG13
        obtain ⟨hx13_0, hf13_0⟩ := Kd.R_celln 0 HO360.out (a1 : Int) p13 q13
        replace p13 := eq_true p13
        replace q13 := eq_true q13
        have HP17 := Kd.R_putn HO360.out (a1 : Int) (wrap64 ((wrap64 ((wrap64 (3 * (rd l0 (ji4)))) * (rd l0 (ji7)))) - (rd l0 a1)))
        rw [← Ny364.out] at HP17
        have HQ17 := Aside0.mk HP17
        clear HP17
        refine start_ (n := 23) (S := fun w' => w'.cell? (ad361.add ((ji4)).toNat) = some (.int .i64 (rd l0 (ji4))) ∧ w'.cell? (ad361.add ((ji7)).toNat) = some (.int .i64 (rd l0 (ji7))) ∧ w'.cell? (ad361.add (a1).toNat) = some (.int .i64 (rd l0 a1))) (ds := [22]) #[false, false, false, false, false, false, false, false, false, false, false, false, false, false, false, false, false, false, false, false, false, false, false] (by kernel_rfl) rfl rfl ⟨((HB.out.cell (World.block_lt_of_cell? w _ hw361_0)).trans hw361_0), ((HB.out.cell (World.block_lt_of_cell? w _ hw362_0)).trans hw362_0), ((HB.out.cell (World.block_lt_of_cell? w _ hw363_0)).trans hw363_0)⟩ (fun hHeld => ?_); refine with_tabW impl_moved.tab2 impl_moved.bits2 (fun HT_ HW_ => ?_)
        generalize w15.drew = w16 at HO360 HB GG13 HQ17 hf13_0 hx13_0 hx361_0 hx362_0 hx363_0 hHeld ⊢
        refine pure_ (i := 0) (N := some 8) (v := ?_) (a' := ?_) #[true, false, false, false, false, false, false, false, false, false, false, false, false, false, false, false, false, false, false, false, false, false, false] rfl rfl (any_of HT_.out (by kernel_rfl)) (fun _ _ _ h => h) (Or.inl ⟨by rfl, ?_⟩) ?_ ?_
        rotate_left
        ·intro w'
         go_simp
         with_reducible rfl
        rotate_left
        ·simp only [Act.put, List.setIfInBounds_toArray, List.set_cons_zero, List.set_cons_succ, i64_w, i32_w]
         rfl
        refine pure_ (i := 1) (N := some 9) (v := ?_) (a' := ?_) #[true, true, false, false, false, false, false, false, false, false, false, false, false, false, false, false, false, false, false, false, false, false, false] rfl rfl (any_of HT_.out (by kernel_rfl)) (fun _ _ _ h => h) (Or.inl ⟨by rfl, ?_⟩) ?_ ?_
        rotate_left
        ·intro w'
         go_simp
         with_reducible rfl
        rotate_left
        ·simp only [Act.put, List.setIfInBounds_toArray, List.set_cons_zero, List.set_cons_succ, i64_w, i32_w]
         rfl
        refine pure_ (i := 2) (N := some 10) (v := ?_) (a' := ?_) #[true, true, true, false, false, false, false, false, false, false, false, false, false, false, false, false, false, false, false, false, false, false, false] rfl rfl (any_of HT_.out (by kernel_rfl)) (fun _ _ _ h => h) (Or.inl ⟨by rfl, ?_⟩) ?_ ?_
        rotate_left
        ·intro w'
         go_simp
         with_reducible rfl
        rotate_left
        ·simp only [Act.put, List.setIfInBounds_toArray, List.set_cons_zero, List.set_cons_succ, i64_w, i32_w]
         rfl
        refine pure_ (i := 3) (N := some 11) (v := ?_) (a' := ?_) #[true, true, true, true, false, false, false, false, false, false, false, false, false, false, false, false, false, false, false, false, false, false, false] rfl rfl (any_of HT_.out (by kernel_rfl)) (fun _ _ _ h => h) (Or.inl ⟨by rfl, ?_⟩) ?_ ?_
        rotate_left
        ·intro w'
         go_simp
         with_reducible rfl
        rotate_left
        ·simp only [Act.put, List.setIfInBounds_toArray, List.set_cons_zero, List.set_cons_succ, i64_w, i32_w]
         rfl
        refine pure_ (i := 4) (N := some 12) (v := ?_) (a' := ?_) #[true, true, true, true, true, false, false, false, false, false, false, false, false, false, false, false, false, false, false, false, false, false, false] rfl rfl (any_of HT_.out (by kernel_rfl)) (fun _ _ _ h => h) (Or.inl ⟨by rfl, ?_⟩) ?_ ?_
        rotate_left
        ·intro w'
         go_simp
         with_reducible rfl
        rotate_left
        ·simp only [Act.put, List.setIfInBounds_toArray, List.set_cons_zero, List.set_cons_succ, i64_w, i32_w]
         rfl
        refine pure_ (i := 5) (N := some 13) (v := ?_) (a' := ?_) #[true, true, true, true, true, true, false, false, false, false, false, false, false, false, false, false, false, false, false, false, false, false, false] rfl rfl (any_of HT_.out (by kernel_rfl)) (fun _ _ _ h => h) (Or.inl ⟨by rfl, ?_⟩) ?_ ?_
        rotate_left
        ·intro w'
         go_simp
         with_reducible rfl
        rotate_left
        ·simp only [Act.put, List.setIfInBounds_toArray, List.set_cons_zero, List.set_cons_succ, i64_w, i32_w]
         rfl
        refine pure_ (i := 6) (N := some 14) (v := ?_) (a' := ?_) #[true, true, true, true, true, true, true, false, false, false, false, false, false, false, false, false, false, false, false, false, false, false, false] rfl rfl (any_of HT_.out (by kernel_rfl)) (fun _ _ _ h => h) (Or.inl ⟨by rfl, ?_⟩) ?_ ?_
        rotate_left
        ·intro w'
         go_simp
         with_reducible rfl
        rotate_left
        ·simp only [Act.put, List.setIfInBounds_toArray, List.set_cons_zero, List.set_cons_succ, i64_w, i32_w]
         rfl
        refine pure_ (i := 9) (N := some 17) (v := ?_) (a' := ?_) #[true, true, true, true, true, true, true, false, false, true, false, false, false, false, false, false, false, false, false, false, false, false, false] rfl rfl (any_of HT_.out (by kernel_rfl)) (fun _ _ _ h => h) (Or.inl ⟨by rfl, ?_⟩) ?_ ?_
        rotate_left
        ·intro w'
         go_simp
         with_reducible rfl
        rotate_left
        ·simp only [Act.put, List.setIfInBounds_toArray, List.set_cons_zero, List.set_cons_succ, i64_w, i32_w]
         rfl
        refine pure_ (i := 10) (N := some 18) (v := ?_) (a' := ?_) #[true, true, true, true, true, true, true, false, false, true, true, false, false, false, false, false, false, false, false, false, false, false, false] rfl rfl (any_of HT_.out (by kernel_rfl)) (fun _ _ _ h => h) (Or.inl ⟨by rfl, ?_⟩) ?_ ?_
        rotate_left
        ·intro w'
         go_simp
         with_reducible rfl
        rotate_left
        ·simp only [Act.put, List.setIfInBounds_toArray, List.set_cons_zero, List.set_cons_succ, i64_w, i32_w]
         rfl
        refine pure_ (i := 11) (N := some 19) (v := ?_) (a' := ?_) #[true, true, true, true, true, true, true, false, false, true, true, true, false, false, false, false, false, false, false, false, false, false, false] rfl rfl (any_of HT_.out (by kernel_rfl)) (fun _ _ _ h => h) (Or.inl ⟨by rfl, ?_⟩) ?_ ?_
        rotate_left
        ·intro w'
         go_simp
         with_reducible rfl
        rotate_left
        ·simp only [Act.put, List.setIfInBounds_toArray, List.set_cons_zero, List.set_cons_succ, i64_w, i32_w]
         rfl
        refine pure_ (i := 12) (N := some 20) (v := ?_) (a' := ?_) #[true, true, true, true, true, true, true, false, false, true, true, true, true, false, false, false, false, false, false, false, false, false, false] rfl rfl (any_of HT_.out (by kernel_rfl)) (fun _ _ _ h => h) (Or.inl ⟨by rfl, ?_⟩) ?_ ?_
        rotate_left
        ·intro w'
         go_simp
         with_reducible rfl
        rotate_left
        ·simp only [Act.put, List.setIfInBounds_toArray, List.set_cons_zero, List.set_cons_succ, i64_w, i32_w]
         rfl
        refine pure_ (i := 13) (N := some 21) (v := ?_) (a' := ?_) #[true, true, true, true, true, true, true, false, false, true, true, true, true, true, false, false, false, false, false, false, false, false, false] rfl rfl (any_of HT_.out (by kernel_rfl)) (fun _ _ _ h => h) (Or.inl ⟨by rfl, ?_⟩) ?_ ?_
        rotate_left
        ·intro w'
         go_simp
         with_reducible rfl
        rotate_left
        ·simp only [Act.put, List.setIfInBounds_toArray, List.set_cons_zero, List.set_cons_succ, i64_w, i32_w]
         rfl
        refine pure_ (i := 16) (N := some 24) (v := ?_) (a' := ?_) #[true, true, true, true, true, true, true, false, false, true, true, true, true, true, false, false, true, false, false, false, false, false, false] rfl rfl (any_of HT_.out (by kernel_rfl)) (fun _ _ _ h => h) (Or.inl ⟨by rfl, ?_⟩) ?_ ?_
        rotate_left
        ·intro w'
         go_simp
         with_reducible rfl
        rotate_left
        ·simp only [Act.put, List.setIfInBounds_toArray, List.set_cons_zero, List.set_cons_succ, i64_w, i32_w]
         rfl
        refine pure_ (i := 17) (N := some 25) (v := ?_) (a' := ?_) #[true, true, true, true, true, true, true, false, false, true, true, true, true, true, false, false, true, true, false, false, false, false, false] rfl rfl (any_of HT_.out (by kernel_rfl)) (fun _ _ _ h => h) (Or.inl ⟨by rfl, ?_⟩) ?_ ?_
        rotate_left
        ·intro w'
         go_simp
         with_reducible rfl
        rotate_left
        ·simp only [Act.put, List.setIfInBounds_toArray, List.set_cons_zero, List.set_cons_succ, i64_w, i32_w]
         rfl
        refine pure_ (i := 18) (N := some 26) (v := ?_) (a' := ?_) #[true, true, true, true, true, true, true, false, false, true, true, true, true, true, false, false, true, true, true, false, false, false, false] rfl rfl (any_of HT_.out (by kernel_rfl)) (fun _ _ _ h => h) (Or.inl ⟨by rfl, ?_⟩) ?_ ?_
        rotate_left
        ·intro w'
         go_simp
         with_reducible rfl
        rotate_left
        ·simp only [Act.put, List.setIfInBounds_toArray, List.set_cons_zero, List.set_cons_succ, i64_w, i32_w]
         rfl
        refine take_ (i := 7) (N := some 15) (v := ?_) (a' := ?_) #[true, true, true, true, true, true, true, true, false, true, true, true, true, true, false, false, true, true, true, false, false, false, false] rfl rfl (take_ofW HT_.out HW_.out (by kernel_rfl)) (fun _ _ _ h => h) (Or.inl ⟨by rfl, ?_⟩) hHeld ?_ ?_
        rotate_left
        ·rintro w' ⟨s0, s1, s2⟩
         go_simp
         with_reducible rfl
        rotate_left
        ·simp only [Act.put, List.setIfInBounds_toArray, List.set_cons_zero, List.set_cons_succ, i64_w, i32_w]
         rfl
        refine pure_ (i := 8) (N := some 16) (v := ?_) (a' := ?_) #[true, true, true, true, true, true, true, true, true, true, true, true, true, true, false, false, true, true, true, false, false, false, false] rfl rfl (any_of HT_.out (by kernel_rfl)) (fun _ _ _ h => h) (Or.inl ⟨by rfl, ?_⟩) ?_ ?_
        rotate_left
        ·intro w'
         go_simp
         with_reducible rfl
        rotate_left
        ·simp only [Act.put, List.setIfInBounds_toArray, List.set_cons_zero, List.set_cons_succ, i64_w, i32_w]
         rfl
        refine take_ (i := 14) (N := some 22) (v := ?_) (a' := ?_) #[true, true, true, true, true, true, true, true, true, true, true, true, true, true, true, false, true, true, true, false, false, false, false] rfl rfl (take_ofW HT_.out HW_.out (by kernel_rfl)) (fun _ _ _ h => h) (Or.inl ⟨by rfl, ?_⟩) hHeld ?_ ?_
        rotate_left
        ·rintro w' ⟨s0, s1, s2⟩
         go_simp
         with_reducible rfl
        rotate_left
        ·simp only [Act.put, List.setIfInBounds_toArray, List.set_cons_zero, List.set_cons_succ, i64_w, i32_w]
         rfl
        refine pure_ (i := 15) (N := some 23) (v := ?_) (a' := ?_) #[true, true, true, true, true, true, true, true, true, true, true, true, true, true, true, true, true, true, true, false, false, false, false] rfl rfl (any_of HT_.out (by kernel_rfl)) (fun _ _ _ h => h) (Or.inl ⟨by rfl, ?_⟩) ?_ ?_
        rotate_left
        ·intro w'
         go_simp
         with_reducible rfl
        rotate_left
        ·simp only [Act.put, List.setIfInBounds_toArray, List.set_cons_zero, List.set_cons_succ, i64_w, i32_w]
         rfl
        refine take_ (i := 19) (N := some 27) (v := ?_) (a' := ?_) #[true, true, true, true, true, true, true, true, true, true, true, true, true, true, true, true, true, true, true, true, false, false, false] rfl rfl (take_ofW HT_.out HW_.out (by kernel_rfl)) (fun _ _ _ h => h) (Or.inl ⟨by rfl, ?_⟩) hHeld ?_ ?_
        rotate_left
        ·rintro w' ⟨s0, s1, s2⟩
         go_simp
         with_reducible rfl
        rotate_left
        ·simp only [Act.put, List.setIfInBounds_toArray, List.set_cons_zero, List.set_cons_succ, i64_w, i32_w]
         rfl
        refine pure_ (i := 20) (N := some 28) (v := ?_) (a' := ?_) #[true, true, true, true, true, true, true, true, true, true, true, true, true, true, true, true, true, true, true, true, true, false, false] rfl rfl (any_of HT_.out (by kernel_rfl)) (fun _ _ _ h => h) (Or.inl ⟨by rfl, ?_⟩) ?_ ?_
        rotate_left
        ·intro w'
         go_simp
         with_reducible rfl
        rotate_left
        ·simp only [Act.put, List.setIfInBounds_toArray, List.set_cons_zero, List.set_cons_succ, i64_w, i32_w]
         rfl
        refine pure_ (i := 21) (N := some 29) (v := ?_) (a' := ?_) #[true, true, true, true, true, true, true, true, true, true, true, true, true, true, true, true, true, true, true, true, true, true, false] rfl rfl (any_of HT_.out (by kernel_rfl)) (fun _ _ _ h => h) (Or.inl ⟨by rfl, ?_⟩) ?_ ?_
        rotate_left
        ·intro w'
         go_simp
         with_reducible rfl
        rotate_left
        ·simp only [Act.put, List.setIfInBounds_toArray, List.set_cons_zero, List.set_cons_succ, i64_w, i32_w]
         rfl
        refine last_ (i := 22) (N := none) #[true, true, true, true, true, true, true, true, true, true, true, true, true, true, true, true, true, true, true, true, true, true, true] rfl rfl (one_of HT_.out (by kernel_rfl)) (by decide) (fun K hK => ?_)
        refine skip_ (w1 := ?_) (by rfl) rfl ?_ ?_
        rotate_left
        ·go_simp
         rfl
        refine hK.out _ _ ?_
        clear hK K
        refine done_ (done_of HT_.out (by kernel_rfl)) ?_
        have n0_ : Aside0 (Kd.R (Kd.int .i64) 3 (w16.setCell ⟨go13, (a1 : Int).toNat, none⟩ (.int .i64 (wrap64 ((wrap64 ((wrap64 (3 * (rd l0 (ji4)))) * (rd l0 (ji7)))) - (rd l0 a1))))) w.heap.size (fun _ => True) (.slice (some ⟨go13, 0, none⟩) t358.length co13) y364) := ⟨by (with_reducible repeat (first | apply Kd.R_alloc | apply Kd.R_drewN | apply Kd.R_drew)); exact HQ17.out⟩
        have n1_ : Aside0 (Below w.heap.size w (w16.setCell ⟨go13, (a1 : Int).toNat, none⟩ (.int .i64 (wrap64 ((wrap64 ((wrap64 (3 * (rd l0 (ji4)))) * (rd l0 (ji7)))) - (rd l0 a1)))))) := ⟨by repeat (first | (with_reducible first | exact HB.out | apply below_alloc | apply pw_below_drewN | apply below_drew1 | refine below_set ?_ GB13.out) | exact HB.out)⟩
        (try clear HO360)
        (try clear HB)
        generalize (w16.setCell ⟨go13, (a1 : Int).toNat, none⟩ (.int .i64 (wrap64 ((wrap64 ((wrap64 (3 * (rd l0 (ji4)))) * (rd l0 (ji7)))) - (rd l0 a1))))) = w18 at n0_ n1_ ⊢
        have HO360 := n0_
        have HB := n1_
        clear n0_ n1_
        try go_wp2_with (first | ((with_reducible refine gate_callee (f := 58) rfl ?_); refine goesL_ (some 31) rfl rfl Try.func58 (by kernel_rfl) rfl #[.slice (some ⟨go13, 0, none⟩) t358.length co13] rfl (by (try simp only [List.map_toArray, List.map_cons, List.map_nil]); first | done | rfl | (simp only [List.length_drop, List.length_take]; rfl)) ?_; (with_reducible refine (slices_Sort_int_int.calls (fun k_ => some k_ = (.slice (some ⟨go13, 0, none⟩) t358.length co13 : Value).ownBlock) (.slice (some ⟨go13, 0, none⟩) t358.length co13) y364 t365 w _ ?side1 ?side2 A14.out).mono ?_); (case side1 => repeat (first | (with_reducible first | exact HB.out | apply below_alloc | apply pw_below_drewN | apply below_drew1) | exact HB.out)); (case side2 => exact Kd.R_tight rfl HO360.out); rintro e w19 ⟨rfl, hy0, hb, hkp⟩; refine ⟨_, rfl, ?_⟩; have n0_ := Aside0.mk (Kd.R_reok rfl hy0 (fun k_ e_ => HO360.out.1 k_ e_)); have n1_ := Aside0.mk (hb); clear HO360; clear HB; have HO360 := n0_; have HB := n1_; clear n0_ n1_; (try clear hb); (try clear hkp); (try clear hy0)))
        go_ret
        exact ⟨_, by first | rfl | (simp [errW_none, errW_some] <;> rfl) | (simp only [← hji4, ← hji7]; first | rfl | (simp [errW_none, errW_some] <;> rfl)) | (simp [*, errW_none, errW_some] <;> rfl), by (with_reducible repeat (first | apply Kd.R_alloc | apply Kd.R_drewN | apply Kd.R_drew)); exact HO360.out, by repeat (first | (with_reducible first | exact HB.out | apply below_alloc | apply pw_below_drewN | apply below_drew1) | exact HB.out)⟩
       ·rw [if_neg c12] at H
        exact absurd H (by simp)
      ·rw [if_neg c11] at H
       exact absurd H (by simp)
     ·rw [if_neg c10] at H
      exact absurd H (by simp)
    ·rw [if_neg c9] at H
     exact absurd H (by simp)
   ·rw [if_neg c8] at H
    exact absurd H (by simp)
  ·rw [if_neg c6] at H
   exact absurd H (by simp)
 ·rw [if_neg c5] at H
  exact absurd H (by simp)

end Go.Proofs.Ytkdgpbcecnmdhaa.P

-- Gups
namespace Go.Proofs.Ytkdgpbcecnmdhaa.P
open Go.Shelf Go.RowKit Go.Proofs.YtkdgpbcecnmdhaaW.PrintWords Go.Proofs.YtkdgpbcecnmdhaaW.PrintLast
set_option linter.unusedVariables false
set_option linter.unusedSimpArgs false

theorem compare_enters : ∀ args w, (callFunc 51 args).run Try.prog w = .ok (.enter 51 args) w := fun args w => enters_of Try.func51 (by kernel_rfl) rfl args w
theorem compare_at (W : World) (A B : Option Addr) (c c' : Nat) (x y : List Int) (hx : x.length < 9223372036854775807) (hy : y.length < 9223372036854775807) (h1 : Kd.C (Kd.int .i64) W A x.length x) (h2 : x.length ≤ c) (h3 : Kd.C (Kd.int .i64) W B y.length y) (h4 : y.length ≤ c') : Calls Try.prog 51 (#[.slice A x.length c, .slice B y.length c'] ++ #[]) W fun e w' => e = .returned (.int .i64 (cmpL x y)) ∧ Drawn0 W w' :=
  slices_Compare_int_int.calls (x.length + 1) A c x B c' y (cmpL x y) W h1 h2 h3 h4 (compare_ev x y hx)

def impl_ups.l0 : Nat → List Int → Int → List (List Int) → Int → Option (List (List Int))
  | 0, _, _, _, _ => none
  | k + 1, t, most, o, i => if i < 3 then (impl_moved.f t i).bind fun u => (if 2 < (u.length : Int) then (if 2 < (t.length : Int) then (if rd t 2 < rd u 2 then (if rd u 2 ≤ most then (if o.length < 1000000000 then (if u.length < 9223372036854775807 then impl_ups.l0 k t most (o ++ [u]) (wrap64 (i + 1)) else none) else none) else impl_ups.l0 k t most o (wrap64 (i + 1))) else impl_ups.l0 k t most o (wrap64 (i + 1))) else none) else none) else some (sortDedup o)
def impl_ups.f (k : Nat) (l0 : List Int) (a1 : Int) : Option (List (List Int)) := impl_ups.l0 k l0 a1 [] 0
theorem impl_ups.mono_l : ∀ k, (∀ y0 y1 y2 y3, LeO (impl_ups.l0 k y0 y1 y2 y3) (impl_ups.l0 (k + 1) y0 y1 y2 y3))
  | 0 => fun _ _ _ _ r h => by simp [impl_ups.l0] at h
  | k + 1 => by
    have ih0 := impl_ups.mono_l k
    intro y0 y1 y2 y3
    unfold impl_ups.l0
    repeat' first
      | (with_reducible exact ih0 _ _ _ _)
      | (with_reducible exact LeO.refl _)
      | (with_reducible exact LeO.none _)
      | (with_reducible refine LeO.ite ?_ ?_)
      | (with_reducible refine LeO.bind ?_ (fun _ => ?_))
theorem impl_ups.mono : ∀ a0 a1 k, LeO (impl_ups.f k a0 a1) (impl_ups.f (k + 1) a0 a1) := by
  intro a0 a1 k
  unfold impl_ups.f
  exact impl_ups.mono_l k _ _ _ _

set_option maxHeartbeats 4000000 in
set_option maxRecDepth 100000 in
theorem impl_ups.calls (k : Nat) (A0 : Option Addr) (c0 : Nat) (l0 : List Int) (a1 : Int) (r : List (List Int)) (w : World) (hr0 : Kd.C (Kd.int .i64) w A0 l0.length l0) (hc0 : l0.length ≤ c0) (h : impl_ups.f k l0 a1 = some r) :
    Calls Try.prog 48 #[.slice A0 l0.length c0, .int .i64 a1] w fun e w' => ∃ v0_ : Value, e = .returned (v0_) ∧ Kd.S (Kd.slice 3 (Kd.int .i64)) 30 w' w.heap.size (fun _ => True) v0_ r ∧ Below w.heap.size w w' := by
  have HR0 := Aside0.mk hr0
  have HC0 := Aside0.mk hc0
  have H' := Aside0.mk (show impl_ups.l0 k l0 a1 [] 0 = some r from h)
  have HB := Aside0.mk (Below.refl w.heap.size w)
  clear hr0 hc0 h
  go_enter Try.func48, Try.ntmps48
  go_wp2_with (first
    | ((with_reducible refine gate_dst (N := 8) rfl ?_); refine Kd.S_lits (Kd.slice 3 (Kd.int .i64)) (w0 := w) w.heap.size 30 ?hg (N := 8) ?hd (xs := []) (inner := []) (ok := fun _ => True) (fun j k_ => False) ?hr rfl ?hp ?ha (fun _ _ _ => trivial) trivial ?hB ?hs (by simp) ?_; (case hd => rfl); (case hg => rfl); (case hr => first | (go_simp; done) | (go_simp; rfl)); (case hp => intro j x hj; simp at hj); (case ha => intro i j k_ h1 _; exact h1.elim); (case hB => exact HB.out); (case hs => exact below_size HB.out); intro v2 w2 ho hb hg hat; have n2_ := Aside0.mk ho; have n3_ := Aside0.mk hb; clear HB; have HO6 := n2_; have HB := n3_; clear n2_ n3_ ho hb hg hat))
  go_loopg [5, 9] k (fun kq v5 v9 w' => ∃ (o : List (List Int)) (i : Int), v9 = .int .i64 i ∧ Aside0 (0 ≤ i ∧ i < 1000) ∧ Aside0 (impl_ups.l0 kq l0 a1 o i = some r) ∧ Aside0 (kq ≤ k) ∧ Aside0 (∀ x ∈ o, x.length < 9223372036854775807) ∧ Aside0 (o.length < 1000000001) ∧ Aside0 (Kd.S (Kd.slice 3 (Kd.int .i64)) 30 w' w.heap.size (fun _ => True) v5 o) ∧ Aside0 (Below w.heap.size w w'))
  case atStart => exact ⟨[], 0, rfl, ⟨by omega⟩, H', ⟨Nat.le_refl _⟩, ⟨by simp⟩, ⟨by simp⟩, ⟨HO6.out⟩, ⟨HB.out⟩⟩
  case round =>
    clear H' HO6 HB
    obtain ⟨o, i, rfl, HI, HA, HK1, HP, HL, HO6, HB⟩ := hrel
    cases gk with
    | zero => exact absurd HA.out (by simp [impl_ups.l0])
    | succ k1 =>
      have H := HA.out
      clear HA
      simp only [impl_ups.l0] at H
      by_cases c2 : i < 3
      · have HI3 := Aside0.mk c2
        rw [if_pos c2] at H
        have c2b0 : decide (i < 3) = true := decide_eq_true c2
        clear c2
        obtain ⟨u, A3, H⟩ := Option.bind_eq_some_iff.mp H
        have HA3 := Aside0.mk A3
        clear A3
        by_cases c5 : 2 < (u.length : Int)
        · rw [if_pos c5] at H
          have c5b0 : decide (2 < (u.length : Int)) = true := decide_eq_true c5
          have c5b1 : decide (2 < u.length) = true := decide_eq_true (by omega)
          clear c5
          by_cases c6 : 2 < (l0.length : Int)
          · rw [if_pos c6] at H
            have c6b0 : decide (2 < (l0.length : Int)) = true := decide_eq_true c6
            have c6b1 : decide (2 < l0.length) = true := decide_eq_true (by omega)
            clear c6
            by_cases c7 : rd l0 2 < rd u 2
            · rw [if_pos c7] at H
              have c7b0 : decide (rd l0 2 < rd u 2) = true := decide_eq_true c7
              clear c7
              by_cases c8 : rd u 2 ≤ a1
              · rw [if_pos c8] at H
                have c8b0 : decide (rd u 2 ≤ a1) = true := decide_eq_true c8
                clear c8
                by_cases c9 : o.length < 1000000000
                · rw [if_pos c9] at H
                  have LM := Aside0.mk c9
                  clear c9
                  by_cases c10 : u.length < 9223372036854775807
                  · rw [if_pos c10] at H
                    have HU := Aside0.mk c10
                    have H' := Aside0.mk H
                    clear H c10
                    go_wp2_with (first
                      | (go_at_call 44; refine (impl_moved.calls _ _ l0 i u _ (by repeat (first | exact (Kd.C_below HR0.out HB.out) | (with_reducible refine Kd.C_alloc ?_ _) | (with_reducible refine Kd.C_drewN ?_ _) | (with_reducible refine Kd.C_drew ?_))) HC0.out HA3.out).mono ?_; rintro e w4 ⟨v4, rfl, ho0, hb⟩; have n1_ := Aside0.mk (Kd.S_elder' (by (with_reducible repeat (first | apply Kd.S_alloc | apply Kd.S_drewN | apply Kd.S_drew)); exact HO6.out) (Kd.R_base ho0) hb); have n2_ := Aside0.mk (below_step (by repeat (first | (with_reducible first | exact HB.out | apply below_alloc | apply pw_below_drewN | apply below_drew1) | exact HB.out)) hb); have n0_ := Aside0.mk (Kd.R_lower ho0 (below_size (by repeat (first | (with_reducible first | exact HB.out | apply below_alloc | apply pw_below_drewN | apply below_drew1) | exact HB.out)))); clear HO6 HB; have HO5 := n0_; have HO6 := n1_; have HB := n2_; clear n0_ n1_ n2_ hb ho0; obtain ⟨Ao4, co4, eo4⟩ := Kd.R_slice HO5.out; subst eo4; have p1 : 0 ≤ (2 : Int) := (by omega); have q1 : 2 < (u.length : Int) := of_decide_eq_true (by first | (with_reducible assumption) | assumption); obtain ⟨ad1, e1, hx1⟩ := Kd.at_int (Kd.R_reads' HO5.out).2.2 2 p1 q1; cases e1; (try simp only [show (2 : Int).toNat = 2 from rfl, Nat.reduceMul, Nat.reduceEqDiff, Go.Addr.add, ↓reduceIte] at hx1); have qi1 : (2 < u.length) = True := eq_true (by omega); (try rw [show ((2 : Int)).toNat = 2 from rfl] at hx1); replace p1 := eq_true p1; replace q1 := eq_true q1; have p2 : 0 ≤ (2 : Int) := (by omega); have q2 : 2 < (l0.length : Int) := of_decide_eq_true (by first | (with_reducible assumption) | assumption); obtain ⟨ad2, e2, hx2⟩ := Kd.at_int HR0.out 2 p2 q2; cases e2; (try simp only [show (2 : Int).toNat = 2 from rfl, Nat.reduceMul, Nat.reduceEqDiff, Go.Addr.add, ↓reduceIte] at hx2); have qi2 : (2 < l0.length) = True := eq_true (by omega); (try rw [show ((2 : Int)).toNat = 2 from rfl] at hx2); replace hx2 := (HB.out.cell (World.block_lt_of_cell? w _ hx2)).trans hx2; replace p2 := eq_true p2; replace q2 := eq_true q2)
                      | ((with_reducible refine gate_builtin (b := .append) (xs := #[.tmp 29, .tmp 31]) rfl ?_); at_builtin; refine Kd.S_append (Kd.slice 3 (Kd.int .i64)) (w0 := w) w.heap.size rfl (.tmp 29) (.tmp 31) 25 30 (.slice none 0 0) 24 rfl Try.underlying25 info30 rfl (by decide) (by omega) u5 o u [.slice (some ad1) u.length co4] (fun _ => True) (fun k_ => some k_ = (Value.slice (some ad1) u.length co4).ownBlock) rfl rfl ?aP ?aK (fun _ _ => trivial) ?aO ?aB ?aS ?aL ?_; (case aP => exact ⟨_, rfl, Kd.R_tight rfl HO5.out⟩); (case aK => exact fun k_ hk => ⟨trivial, ((Kd.R_apart' HO5.out (Kd.S_typed HO6.out) (by decide)).1 k_ hk.symm).2⟩); (case aO => (with_reducible repeat (first | apply Kd.S_alloc | apply Kd.S_drewN | apply Kd.S_drew)); exact Kd.S_mono HO6.out (fun k_ hk => ⟨trivial, hk.2⟩)); (case aB => exact (by repeat (first | (with_reducible first | exact HB.out | apply below_alloc | apply pw_below_drewN | apply below_drew1) | exact HB.out))); (case aS => exact (below_size (by repeat (first | (with_reducible first | exact HB.out | apply below_alloc | apply pw_below_drewN | apply below_drew1) | exact HB.out)))); (case aL => have := LM.out; omega); intro v7 w7 ho hb hg hat; clear HO5 HO6 HB; have HO6 := Aside0.mk ho; have HB := Aside0.mk hb; clear ho hb hg hat))
                    repeat (go_quiet (fail); try go_wp2_with (first
                      | (go_at_call 44; refine (impl_moved.calls _ _ l0 i u _ (by repeat (first | exact (Kd.C_below HR0.out HB.out) | (with_reducible refine Kd.C_alloc ?_ _) | (with_reducible refine Kd.C_drewN ?_ _) | (with_reducible refine Kd.C_drew ?_))) HC0.out HA3.out).mono ?_; rintro e w4 ⟨v4, rfl, ho0, hb⟩; have n1_ := Aside0.mk (Kd.S_elder' (by (with_reducible repeat (first | apply Kd.S_alloc | apply Kd.S_drewN | apply Kd.S_drew)); exact HO6.out) (Kd.R_base ho0) hb); have n2_ := Aside0.mk (below_step (by repeat (first | (with_reducible first | exact HB.out | apply below_alloc | apply pw_below_drewN | apply below_drew1) | exact HB.out)) hb); have n0_ := Aside0.mk (Kd.R_lower ho0 (below_size (by repeat (first | (with_reducible first | exact HB.out | apply below_alloc | apply pw_below_drewN | apply below_drew1) | exact HB.out)))); clear HO6 HB; have HO5 := n0_; have HO6 := n1_; have HB := n2_; clear n0_ n1_ n2_ hb ho0; obtain ⟨Ao4, co4, eo4⟩ := Kd.R_slice HO5.out; subst eo4; have p1 : 0 ≤ (2 : Int) := (by omega); have q1 : 2 < (u.length : Int) := of_decide_eq_true (by first | (with_reducible assumption) | assumption); obtain ⟨ad1, e1, hx1⟩ := Kd.at_int (Kd.R_reads' HO5.out).2.2 2 p1 q1; cases e1; (try simp only [show (2 : Int).toNat = 2 from rfl, Nat.reduceMul, Nat.reduceEqDiff, Go.Addr.add, ↓reduceIte] at hx1); have qi1 : (2 < u.length) = True := eq_true (by omega); (try rw [show ((2 : Int)).toNat = 2 from rfl] at hx1); replace p1 := eq_true p1; replace q1 := eq_true q1; have p2 : 0 ≤ (2 : Int) := (by omega); have q2 : 2 < (l0.length : Int) := of_decide_eq_true (by first | (with_reducible assumption) | assumption); obtain ⟨ad2, e2, hx2⟩ := Kd.at_int HR0.out 2 p2 q2; cases e2; (try simp only [show (2 : Int).toNat = 2 from rfl, Nat.reduceMul, Nat.reduceEqDiff, Go.Addr.add, ↓reduceIte] at hx2); have qi2 : (2 < l0.length) = True := eq_true (by omega); (try rw [show ((2 : Int)).toNat = 2 from rfl] at hx2); replace hx2 := (HB.out.cell (World.block_lt_of_cell? w _ hx2)).trans hx2; replace p2 := eq_true p2; replace q2 := eq_true q2)
                      | ((with_reducible refine gate_builtin (b := .append) (xs := #[.tmp 29, .tmp 31]) rfl ?_); at_builtin; refine Kd.S_append (Kd.slice 3 (Kd.int .i64)) (w0 := w) w.heap.size rfl (.tmp 29) (.tmp 31) 25 30 (.slice none 0 0) 24 rfl Try.underlying25 info30 rfl (by decide) (by omega) u5 o u [.slice (some ad1) u.length co4] (fun _ => True) (fun k_ => some k_ = (Value.slice (some ad1) u.length co4).ownBlock) rfl rfl ?aP ?aK (fun _ _ => trivial) ?aO ?aB ?aS ?aL ?_; (case aP => exact ⟨_, rfl, Kd.R_tight rfl HO5.out⟩); (case aK => exact fun k_ hk => ⟨trivial, ((Kd.R_apart' HO5.out (Kd.S_typed HO6.out) (by decide)).1 k_ hk.symm).2⟩); (case aO => (with_reducible repeat (first | apply Kd.S_alloc | apply Kd.S_drewN | apply Kd.S_drew)); exact Kd.S_mono HO6.out (fun k_ hk => ⟨trivial, hk.2⟩)); (case aB => exact (by repeat (first | (with_reducible first | exact HB.out | apply below_alloc | apply pw_below_drewN | apply below_drew1) | exact HB.out))); (case aS => exact (below_size (by repeat (first | (with_reducible first | exact HB.out | apply below_alloc | apply pw_below_drewN | apply below_drew1) | exact HB.out)))); (case aL => have := LM.out; omega); intro v7 w7 ho hb hg hat; clear HO5 HO6 HB; have HO6 := Aside0.mk ho; have HB := Aside0.mk hb; clear ho hb hg hat)))
                    go_roundg k1
                    case measure => have := HK1.out; omega
                    case rel => exact ⟨o ++ [u], wrap64 (i + 1), (by first | rfl | (simp; done) | (simp [*]; done)), ⟨by have := HI.out; have := HI3.out; unfold wrap64; omega⟩, H', ⟨by have := HK1.out; omega⟩, ⟨fun x hx => by rcases List.mem_append.1 hx with h_ | h_; exact HP.out x h_; (simp at h_; exact h_ ▸ HU.out)⟩, ⟨by have := LM.out; simp; omega⟩, ⟨by (with_reducible repeat (first | apply Kd.S_alloc | apply Kd.S_drewN | apply Kd.S_drew)); exact Kd.S_mono HO6.out (fun _ _ => trivial)⟩, ⟨by repeat (first | (with_reducible first | exact HB.out | apply below_alloc | apply pw_below_drewN | apply below_drew1) | exact HB.out)⟩⟩
                  · rw [if_neg c10] at H
                    exact absurd H (by simp)
                · rw [if_neg c9] at H
                  exact absurd H (by simp)
              · rw [if_neg c8] at H
                have c8b0 : decide (rd u 2 ≤ a1) = false := decide_eq_false c8
                clear c8
                have H' := Aside0.mk H
                clear H
                go_wp2_with (first
                  | (go_at_call 44; refine (impl_moved.calls _ _ l0 i u _ (by repeat (first | exact (Kd.C_below HR0.out HB.out) | (with_reducible refine Kd.C_alloc ?_ _) | (with_reducible refine Kd.C_drewN ?_ _) | (with_reducible refine Kd.C_drew ?_))) HC0.out HA3.out).mono ?_; rintro e w4 ⟨v4, rfl, ho0, hb⟩; have n1_ := Aside0.mk (Kd.S_elder' (by (with_reducible repeat (first | apply Kd.S_alloc | apply Kd.S_drewN | apply Kd.S_drew)); exact HO6.out) (Kd.R_base ho0) hb); have n2_ := Aside0.mk (below_step (by repeat (first | (with_reducible first | exact HB.out | apply below_alloc | apply pw_below_drewN | apply below_drew1) | exact HB.out)) hb); have n0_ := Aside0.mk (Kd.R_lower ho0 (below_size (by repeat (first | (with_reducible first | exact HB.out | apply below_alloc | apply pw_below_drewN | apply below_drew1) | exact HB.out)))); clear HO6 HB; have HO5 := n0_; have HO6 := n1_; have HB := n2_; clear n0_ n1_ n2_ hb ho0; obtain ⟨Ao4, co4, eo4⟩ := Kd.R_slice HO5.out; subst eo4; have p1 : 0 ≤ (2 : Int) := (by omega); have q1 : 2 < (u.length : Int) := of_decide_eq_true (by first | (with_reducible assumption) | assumption); obtain ⟨ad1, e1, hx1⟩ := Kd.at_int (Kd.R_reads' HO5.out).2.2 2 p1 q1; cases e1; (try simp only [show (2 : Int).toNat = 2 from rfl, Nat.reduceMul, Nat.reduceEqDiff, Go.Addr.add, ↓reduceIte] at hx1); have qi1 : (2 < u.length) = True := eq_true (by omega); (try rw [show ((2 : Int)).toNat = 2 from rfl] at hx1); replace p1 := eq_true p1; replace q1 := eq_true q1; have p2 : 0 ≤ (2 : Int) := (by omega); have q2 : 2 < (l0.length : Int) := of_decide_eq_true (by first | (with_reducible assumption) | assumption); obtain ⟨ad2, e2, hx2⟩ := Kd.at_int HR0.out 2 p2 q2; cases e2; (try simp only [show (2 : Int).toNat = 2 from rfl, Nat.reduceMul, Nat.reduceEqDiff, Go.Addr.add, ↓reduceIte] at hx2); have qi2 : (2 < l0.length) = True := eq_true (by omega); (try rw [show ((2 : Int)).toNat = 2 from rfl] at hx2); replace hx2 := (HB.out.cell (World.block_lt_of_cell? w _ hx2)).trans hx2; replace p2 := eq_true p2; replace q2 := eq_true q2))
                repeat (go_quiet (fail); try go_wp2_with (first
                  | (go_at_call 44; refine (impl_moved.calls _ _ l0 i u _ (by repeat (first | exact (Kd.C_below HR0.out HB.out) | (with_reducible refine Kd.C_alloc ?_ _) | (with_reducible refine Kd.C_drewN ?_ _) | (with_reducible refine Kd.C_drew ?_))) HC0.out HA3.out).mono ?_; rintro e w4 ⟨v4, rfl, ho0, hb⟩; have n1_ := Aside0.mk (Kd.S_elder' (by (with_reducible repeat (first | apply Kd.S_alloc | apply Kd.S_drewN | apply Kd.S_drew)); exact HO6.out) (Kd.R_base ho0) hb); have n2_ := Aside0.mk (below_step (by repeat (first | (with_reducible first | exact HB.out | apply below_alloc | apply pw_below_drewN | apply below_drew1) | exact HB.out)) hb); have n0_ := Aside0.mk (Kd.R_lower ho0 (below_size (by repeat (first | (with_reducible first | exact HB.out | apply below_alloc | apply pw_below_drewN | apply below_drew1) | exact HB.out)))); clear HO6 HB; have HO5 := n0_; have HO6 := n1_; have HB := n2_; clear n0_ n1_ n2_ hb ho0; obtain ⟨Ao4, co4, eo4⟩ := Kd.R_slice HO5.out; subst eo4; have p1 : 0 ≤ (2 : Int) := (by omega); have q1 : 2 < (u.length : Int) := of_decide_eq_true (by first | (with_reducible assumption) | assumption); obtain ⟨ad1, e1, hx1⟩ := Kd.at_int (Kd.R_reads' HO5.out).2.2 2 p1 q1; cases e1; (try simp only [show (2 : Int).toNat = 2 from rfl, Nat.reduceMul, Nat.reduceEqDiff, Go.Addr.add, ↓reduceIte] at hx1); have qi1 : (2 < u.length) = True := eq_true (by omega); (try rw [show ((2 : Int)).toNat = 2 from rfl] at hx1); replace p1 := eq_true p1; replace q1 := eq_true q1; have p2 : 0 ≤ (2 : Int) := (by omega); have q2 : 2 < (l0.length : Int) := of_decide_eq_true (by first | (with_reducible assumption) | assumption); obtain ⟨ad2, e2, hx2⟩ := Kd.at_int HR0.out 2 p2 q2; cases e2; (try simp only [show (2 : Int).toNat = 2 from rfl, Nat.reduceMul, Nat.reduceEqDiff, Go.Addr.add, ↓reduceIte] at hx2); have qi2 : (2 < l0.length) = True := eq_true (by omega); (try rw [show ((2 : Int)).toNat = 2 from rfl] at hx2); replace hx2 := (HB.out.cell (World.block_lt_of_cell? w _ hx2)).trans hx2; replace p2 := eq_true p2; replace q2 := eq_true q2)))
                go_roundg k1
                case measure => have := HK1.out; omega
                case rel => exact ⟨o, wrap64 (i + 1), (by first | rfl | (simp; done) | (simp [*]; done)), ⟨by have := HI.out; have := HI3.out; unfold wrap64; omega⟩, H', ⟨by have := HK1.out; omega⟩, HP, HL, ⟨by (with_reducible repeat (first | apply Kd.S_alloc | apply Kd.S_drewN | apply Kd.S_drew)); exact Kd.S_mono HO6.out (fun _ _ => trivial)⟩, ⟨by repeat (first | (with_reducible first | exact HB.out | apply below_alloc | apply pw_below_drewN | apply below_drew1) | exact HB.out)⟩⟩
            · rw [if_neg c7] at H
              have c7b0 : decide (rd l0 2 < rd u 2) = false := decide_eq_false c7
              clear c7
              have H' := Aside0.mk H
              clear H
              go_wp2_with (first
                | (go_at_call 44; refine (impl_moved.calls _ _ l0 i u _ (by repeat (first | exact (Kd.C_below HR0.out HB.out) | (with_reducible refine Kd.C_alloc ?_ _) | (with_reducible refine Kd.C_drewN ?_ _) | (with_reducible refine Kd.C_drew ?_))) HC0.out HA3.out).mono ?_; rintro e w4 ⟨v4, rfl, ho0, hb⟩; have n1_ := Aside0.mk (Kd.S_elder' (by (with_reducible repeat (first | apply Kd.S_alloc | apply Kd.S_drewN | apply Kd.S_drew)); exact HO6.out) (Kd.R_base ho0) hb); have n2_ := Aside0.mk (below_step (by repeat (first | (with_reducible first | exact HB.out | apply below_alloc | apply pw_below_drewN | apply below_drew1) | exact HB.out)) hb); have n0_ := Aside0.mk (Kd.R_lower ho0 (below_size (by repeat (first | (with_reducible first | exact HB.out | apply below_alloc | apply pw_below_drewN | apply below_drew1) | exact HB.out)))); clear HO6 HB; have HO5 := n0_; have HO6 := n1_; have HB := n2_; clear n0_ n1_ n2_ hb ho0; obtain ⟨Ao4, co4, eo4⟩ := Kd.R_slice HO5.out; subst eo4; have p1 : 0 ≤ (2 : Int) := (by omega); have q1 : 2 < (u.length : Int) := of_decide_eq_true (by first | (with_reducible assumption) | assumption); obtain ⟨ad1, e1, hx1⟩ := Kd.at_int (Kd.R_reads' HO5.out).2.2 2 p1 q1; cases e1; (try simp only [show (2 : Int).toNat = 2 from rfl, Nat.reduceMul, Nat.reduceEqDiff, Go.Addr.add, ↓reduceIte] at hx1); have qi1 : (2 < u.length) = True := eq_true (by omega); (try rw [show ((2 : Int)).toNat = 2 from rfl] at hx1); replace p1 := eq_true p1; replace q1 := eq_true q1; have p2 : 0 ≤ (2 : Int) := (by omega); have q2 : 2 < (l0.length : Int) := of_decide_eq_true (by first | (with_reducible assumption) | assumption); obtain ⟨ad2, e2, hx2⟩ := Kd.at_int HR0.out 2 p2 q2; cases e2; (try simp only [show (2 : Int).toNat = 2 from rfl, Nat.reduceMul, Nat.reduceEqDiff, Go.Addr.add, ↓reduceIte] at hx2); have qi2 : (2 < l0.length) = True := eq_true (by omega); (try rw [show ((2 : Int)).toNat = 2 from rfl] at hx2); replace hx2 := (HB.out.cell (World.block_lt_of_cell? w _ hx2)).trans hx2; replace p2 := eq_true p2; replace q2 := eq_true q2))
              repeat (go_quiet (fail); try go_wp2_with (first
                | (go_at_call 44; refine (impl_moved.calls _ _ l0 i u _ (by repeat (first | exact (Kd.C_below HR0.out HB.out) | (with_reducible refine Kd.C_alloc ?_ _) | (with_reducible refine Kd.C_drewN ?_ _) | (with_reducible refine Kd.C_drew ?_))) HC0.out HA3.out).mono ?_; rintro e w4 ⟨v4, rfl, ho0, hb⟩; have n1_ := Aside0.mk (Kd.S_elder' (by (with_reducible repeat (first | apply Kd.S_alloc | apply Kd.S_drewN | apply Kd.S_drew)); exact HO6.out) (Kd.R_base ho0) hb); have n2_ := Aside0.mk (below_step (by repeat (first | (with_reducible first | exact HB.out | apply below_alloc | apply pw_below_drewN | apply below_drew1) | exact HB.out)) hb); have n0_ := Aside0.mk (Kd.R_lower ho0 (below_size (by repeat (first | (with_reducible first | exact HB.out | apply below_alloc | apply pw_below_drewN | apply below_drew1) | exact HB.out)))); clear HO6 HB; have HO5 := n0_; have HO6 := n1_; have HB := n2_; clear n0_ n1_ n2_ hb ho0; obtain ⟨Ao4, co4, eo4⟩ := Kd.R_slice HO5.out; subst eo4; have p1 : 0 ≤ (2 : Int) := (by omega); have q1 : 2 < (u.length : Int) := of_decide_eq_true (by first | (with_reducible assumption) | assumption); obtain ⟨ad1, e1, hx1⟩ := Kd.at_int (Kd.R_reads' HO5.out).2.2 2 p1 q1; cases e1; (try simp only [show (2 : Int).toNat = 2 from rfl, Nat.reduceMul, Nat.reduceEqDiff, Go.Addr.add, ↓reduceIte] at hx1); have qi1 : (2 < u.length) = True := eq_true (by omega); (try rw [show ((2 : Int)).toNat = 2 from rfl] at hx1); replace p1 := eq_true p1; replace q1 := eq_true q1; have p2 : 0 ≤ (2 : Int) := (by omega); have q2 : 2 < (l0.length : Int) := of_decide_eq_true (by first | (with_reducible assumption) | assumption); obtain ⟨ad2, e2, hx2⟩ := Kd.at_int HR0.out 2 p2 q2; cases e2; (try simp only [show (2 : Int).toNat = 2 from rfl, Nat.reduceMul, Nat.reduceEqDiff, Go.Addr.add, ↓reduceIte] at hx2); have qi2 : (2 < l0.length) = True := eq_true (by omega); (try rw [show ((2 : Int)).toNat = 2 from rfl] at hx2); replace hx2 := (HB.out.cell (World.block_lt_of_cell? w _ hx2)).trans hx2; replace p2 := eq_true p2; replace q2 := eq_true q2)))
              go_roundg k1
              case measure => have := HK1.out; omega
              case rel => exact ⟨o, wrap64 (i + 1), (by first | rfl | (simp; done) | (simp [*]; done)), ⟨by have := HI.out; have := HI3.out; unfold wrap64; omega⟩, H', ⟨by have := HK1.out; omega⟩, HP, HL, ⟨by (with_reducible repeat (first | apply Kd.S_alloc | apply Kd.S_drewN | apply Kd.S_drew)); exact Kd.S_mono HO6.out (fun _ _ => trivial)⟩, ⟨by repeat (first | (with_reducible first | exact HB.out | apply below_alloc | apply pw_below_drewN | apply below_drew1) | exact HB.out)⟩⟩
          · rw [if_neg c6] at H
            exact absurd H (by simp)
        · rw [if_neg c5] at H
          exact absurd H (by simp)
      · rw [if_neg c2] at H
        have c2b0 : decide (i < 3) = false := decide_eq_false c2
        clear c2
        obtain rfl : sortDedup o = r := by simpa using H
        clear H
        go_wp2_with (first
          | (go_at_call 49; refine (rows_sort cmpL cmpL_total (fun x => x.length < 9223372036854775807) 51 #[] compare_enters compare_at (fun _ => True) _ o w _ HB.out HP.out (by have := HL.out; omega) HO6.out).mono ?_; rintro e w3 ⟨rfl, ys, hp, hs, ho, hb, hk⟩; have n1_ := Aside0.mk (Kd.S_mono ho (fun _ _ => trivial)); have n2_ := Aside0.mk hb; have n3_ := Aside0.mk hp; have n4_ := Aside0.mk hs; clear HO6 HB; have HO6 := n1_; have HB := n2_; have HPM := n3_; have HSO := n4_; clear n1_ n2_ n3_ n4_ ho hb hk hp hs)
          | (go_at_call 63; refine (rows_compact (fun _ => True) _ ys w _ HB.out (fun x hx => HP.out x ((HPM.out.mem_iff).1 hx)) (HSO.out.imp (fun h_ => by omega)) HO6.out).mono ?_; rintro e w4 ⟨v4, rfl, zs, hz1, hz2, ho, hb, hk⟩; have n1_ := Aside0.mk (Kd.S_mono ho (fun _ _ => trivial)); have n2_ := Aside0.mk hb; have n3_ := Aside0.mk (sortDedup_is hz1 (fun z => (hz2 z).trans HPM.out.mem_iff)); clear HO6 HB; have HO6 := n1_; have HB := n2_; have HZ := n3_; clear n1_ n2_ n3_ ho hb hk hz1 hz2))
        go_ret
        exact ⟨_, rfl, by rw [← HZ.out]; exact HO6.out, HB.out⟩
end Go.Proofs.Ytkdgpbcecnmdhaa.P

-- Gmarkovs
namespace Go.Proofs.Ytkdgpbcecnmdhaa.P
open Go.Shelf Go.RowKit Go.Proofs.YtkdgpbcecnmdhaaW.PrintWords Go.Proofs.YtkdgpbcecnmdhaaW.PrintLast
set_option linter.unusedVariables false
set_option linter.unusedSimpArgs false

theorem cmpM_enters : ∀ args w, (callFunc 50 args).run Try.prog w = .ok (.enter 50 args) w := fun args w => enters_of Try.func50 (by kernel_rfl) rfl args w
set_option maxHeartbeats 1000000 in
set_option maxRecDepth 100000 in
theorem cmpM_at (W : World) (A B : Option Addr) (c c' : Nat) (x y : List Int) (hx : prM x = true) (hy : prM y = true) (h1 : Kd.C (Kd.int .i64) W A x.length x) (h2 : x.length ≤ c) (h3 : Kd.C (Kd.int .i64) W B y.length y) (h4 : y.length ≤ c') : Calls Try.prog 50 (#[.slice A x.length c, .slice B y.length c'] ++ #[]) W fun e w' => e = .returned (.int .i64 (cfM x y)) ∧ Drawn0 W w' := by
  show Calls Try.prog 50 #[.slice A x.length c, .slice B y.length c'] W fun e w' => e = .returned (.int .i64 (cfM x y)) ∧ Drawn0 W w'
  rw [prM_iff] at hx hy
  have p1 : 0 ≤ (2 : Int) := by omega
  have q1 : 2 < (x.length : Int) := by omega
  have q2 : 2 < (y.length : Int) := by omega
  obtain ⟨ad1, e1, hx1⟩ := Kd.at_int h1 2 p1 q1
  cases e1
  obtain ⟨ad2, e2, hx2⟩ := Kd.at_int h3 2 p1 q2
  cases e2
  (try simp only [show (2 : Int).toNat = 2 from rfl, Nat.reduceMul, Nat.reduceEqDiff, Go.Addr.add, ↓reduceIte] at hx1)
  (try simp only [show (2 : Int).toNat = 2 from rfl, Nat.reduceMul, Nat.reduceEqDiff, Go.Addr.add, ↓reduceIte] at hx2)
  have qi1 : (2 < x.length) = True := eq_true (by omega)
  have qi2 : (2 < y.length) = True := eq_true (by omega)
  have HC := Aside0.mk (slices_Compare_int_int.calls (x.length + 1) (some ad1) c x (some ad2) c' y (cmpL x y) · · · · · (compare_ev x y hx.2.1))
  have H1 := Aside0.mk h1
  have H2 := Aside0.mk h2
  have H3 := Aside0.mk h3
  have H4 := Aside0.mk h4
  have HX := Aside0.mk hx
  have HY := Aside0.mk hy
  clear h1 h2 h3 h4
  have hwr : wrap64 (rd x 2 - rd y 2) = rd x 2 - rd y 2 := by unfold wrap64; omega
  clear hx hy
  by_cases e : rd x 2 = rd y 2
  · have eb0 : (rd x 2 == rd y 2) = true := beq_iff_eq.mpr e
    have eb1 : (rd x 2 != rd y 2) = false := bne_eq_false_iff_eq.mpr e
    have hcf : Aside0 (cfM x y = cmpL x y) := ⟨by unfold cfM; rw [if_pos e]⟩
    clear e hwr
    generalize rd x 2 = a at *
    generalize rd y 2 = b at *
    go_enter Try.func50, Try.ntmps50
    go_wp2_with (first
      | (go_at_call 51; refine (HC.out _ (by repeat (first | exact H1.out | (with_reducible refine Kd.C_alloc ?_ _) | (with_reducible refine Kd.C_drewN ?_ _) | (with_reducible refine Kd.C_drew ?_))) H2.out (by repeat (first | exact H3.out | (with_reducible refine Kd.C_alloc ?_ _) | (with_reducible refine Kd.C_drewN ?_ _) | (with_reducible refine Kd.C_drew ?_))) H4.out).mono ?_; rintro e w' ⟨rfl, ⟨nd, rfl⟩⟩))
    repeat (go_quiet (fail); try go_wp2_with (first
      | (go_at_call 51; refine (HC.out _ (by repeat (first | exact H1.out | (with_reducible refine Kd.C_alloc ?_ _) | (with_reducible refine Kd.C_drewN ?_ _) | (with_reducible refine Kd.C_drew ?_))) H2.out (by repeat (first | exact H3.out | (with_reducible refine Kd.C_alloc ?_ _) | (with_reducible refine Kd.C_drewN ?_ _) | (with_reducible refine Kd.C_drew ?_))) H4.out).mono ?_; rintro e w' ⟨rfl, ⟨nd, rfl⟩⟩)))
    go_ret
    exact ⟨by rw [hcf.out]; rfl, by repeat (first | exact Drawn0.refl _ | apply Drawn0.step)⟩
  · have eb0 : (rd x 2 == rd y 2) = false := beq_eq_false_iff_ne.mpr e
    have eb1 : (rd x 2 != rd y 2) = true := bne_iff_ne.mpr e
    have hcf : Aside0 (cfM x y = rd x 2 - rd y 2) := ⟨by unfold cfM; rw [if_neg e]⟩
    have hwa := Aside0.mk hwr
    clear e hwr HC
    go_enter Try.func50, Try.ntmps50
    go_wp2
    repeat (go_quiet (fail); try go_wp2)
    go_ret
    exact ⟨by rw [hcf.out]; first | rfl | (simp [i64_w, hwa.out]; done), by repeat (first | exact Drawn0.refl _ | apply Drawn0.step)⟩

def impl_markovs.l0 : Nat → Int → List (List Int) → Int → Option (List (List Int))
  | 0, _, _, _ => none
  | k + 1, most, all, i => if i < (all.length : Int) then (if 0 ≤ i then (impl_ups.f k (rd_L1 all i) most).bind fun us => (if all.length + us.length < 5864062014805 then impl_markovs.l0 k most (all ++ us) (wrap64 (i + 1)) else none) else none) else (if all.all prM = true then some (sortM all) else none)
def impl_markovs.f (k : Nat) (a0 : Int) : Option (List (List Int)) := impl_markovs.l0 k a0 [[1, 1, 1]] 0
theorem impl_markovs.mono_l : ∀ k, (∀ y0 y1 y2, LeO (impl_markovs.l0 k y0 y1 y2) (impl_markovs.l0 (k + 1) y0 y1 y2))
  | 0 => fun _ _ _ r h => by simp [impl_markovs.l0] at h
  | k + 1 => by
    have ih0 := impl_markovs.mono_l k
    intro y0 y1 y2
    unfold impl_markovs.l0
    repeat' first
      | (with_reducible exact ih0 _ _ _)
      | (with_reducible exact impl_ups.mono _ _ _)
      | (with_reducible exact LeO.refl _)
      | (with_reducible exact LeO.none _)
      | (with_reducible refine LeO.ite ?_ ?_)
      | (with_reducible refine LeO.bind ?_ (fun _ => ?_))
theorem impl_markovs.mono : ∀ a0 k, LeO (impl_markovs.f k a0) (impl_markovs.f (k + 1) a0) := by
  intro a0 k
  unfold impl_markovs.f
  exact impl_markovs.mono_l k _ _ _

set_option maxHeartbeats 4000000 in
set_option maxRecDepth 100000 in
theorem impl_markovs.calls (k : Nat) (a0 : Int) (r : List (List Int)) (w : World) (h : impl_markovs.f k a0 = some r) :
    Calls Try.prog 34 #[.int .i64 a0] w fun e w' => ∃ v0_ : Value, e = .returned (v0_) ∧ Kd.S (Kd.slice 3 (Kd.int .i64)) 30 w' w.heap.size (fun _ => True) v0_ r ∧ Below w.heap.size w w' := by
  obtain ⟨t, ht⟩ : ∃ t : List Int, t = [1, 1, 1] := ⟨_, rfl⟩
  have H' := Aside0.mk (show impl_markovs.l0 k a0 [t] 0 = some r from by rw [ht]; exact h)
  have HT := Aside0.mk ht
  have HB := Aside0.mk (Below.refl w.heap.size w)
  clear h ht
  go_enter Try.func34, Try.ntmps34
  go_wp2_with (first
    | ((with_reducible refine gate_dst (N := 5) rfl ?_); refine Kd.R_lit (Kd.int .i64) _ 3 ?hg (N := 5) ?hd (xs := ([1, 1, 1] : List Int)) (inner := [.int .i64 1, .int .i64 1, .int .i64 1]) (ok := fun _ => True) (okp := fun _ => True) ?hr ?hp (fun _ hk => hk) trivial (Below.refl _ _) (Nat.le_refl _) (by simp) ?_; (case hd => rfl); (case hg => rfl); (case hr => first | (go_simp; done) | (go_simp; rfl)); (case hp => exact (Reps.one (show Kd.M (Kd.int .i64) _ _ _ 1 [.int .i64 1] from rfl) (Reps.one (show Kd.M (Kd.int .i64) _ _ _ 1 [.int .i64 1] from rfl) (Reps.one (show Kd.M (Kd.int .i64) _ _ _ 1 [.int .i64 1] from rfl) (Reps.none _ _))))); intro v1 w1 ho hb hg_ hnew_; clear hg_ hnew_; rw [← HT.out] at ho; have n0_ := Aside0.mk (Kd.R_lower ho (below_size (by repeat (first | (with_reducible first | exact HB.out | apply below_alloc | apply pw_below_drewN | apply below_drew1) | exact HB.out)))); have n1_ := Aside0.mk (below_step (by repeat (first | (with_reducible first | exact HB.out | apply below_alloc | apply pw_below_drewN | apply below_drew1) | exact HB.out)) hb); clear HB; have HO5 := n0_; have HB := n1_; clear n0_ n1_ hb ho; obtain ⟨Ao1, co1, eo1⟩ := Kd.R_slice HO5.out; subst eo1)
    | ((with_reducible refine gate_dst (N := 6) rfl ?_); refine Kd.S_lits (Kd.slice 3 (Kd.int .i64)) (w0 := w) w.heap.size 30 ?hg (N := 6) ?hd (xs := [t]) (inner := [.slice Ao1 t.length co1]) (ok := fun _ => True) (fun j k_ => j = 0 ∧ some k_ = (Value.slice Ao1 t.length co1).ownBlock) ?hr rfl ?hp ?ha (fun _ _ _ => trivial) trivial ?hB ?hs (by simp) ?_; (case hd => rfl); (case hg => rfl); (case hr => first | (go_simp; done) | (go_simp; rfl)); (case hp => intro j x hj; match j, hj with | 0, hj => (obtain rfl : t = x := by simpa using hj); exact ⟨_, rfl, Kd.R_mono (Kd.R_tight rfl HO5.out) (fun k_ hk => ⟨rfl, hk⟩)⟩); (case ha => rintro i j k_ ⟨rfl, _⟩ ⟨rfl, _⟩; rfl); (case hB => exact HB.out); (case hs => exact below_size HB.out); intro v2 w2 ho hb hg hat; have n2_ := Aside0.mk ho; have n3_ := Aside0.mk hb; clear HB HO5; have HO6 := n2_; have HB := n3_; clear n2_ n3_ ho hb hg hat))
  go_loopg [3, 4] k (fun kq v3 v4 w' => ∃ (all : List (List Int)) (i : Int), v4 = .int .i64 i ∧ Aside0 (i < 100000000000000) ∧ Aside0 (impl_markovs.l0 kq a0 all i = some r) ∧ Aside0 (kq ≤ k) ∧ Aside0 (all.length < 5864062014805) ∧ Aside0 (Kd.S (Kd.slice 3 (Kd.int .i64)) 30 w' w.heap.size (fun _ => True) v3 all) ∧ Aside0 (Below w.heap.size w w'))
  case atStart => exact ⟨[t], 0, rfl, ⟨by omega⟩, H', ⟨Nat.le_refl _⟩, ⟨by simp⟩, ⟨HO6.out⟩, ⟨HB.out⟩⟩
  case round =>
    clear H' HO6 HB HT
    obtain ⟨all, i, rfl, HI, HA, HK1, HL, HO6, HB⟩ := hrel
    cases gk with
    | zero => exact absurd HA.out (by simp [impl_markovs.l0])
    | succ k1 =>
      have H := HA.out
      clear HA
      simp only [impl_markovs.l0] at H
      obtain ⟨A3, c3, e3⟩ := Kd.S_slice HO6.out
      subst e3
      by_cases c2 : i < (all.length : Int)
      · rw [if_pos c2] at H
        by_cases c3_ : 0 ≤ i
        · rw [if_pos c3_] at H
          obtain ⟨us, A4, H⟩ := Option.bind_eq_some_iff.mp H
          have HA4 := Aside0.mk A4
          clear A4
          by_cases c5 : all.length + us.length < 5864062014805
          · replace H : impl_markovs.l0 k1 a0 (all ++ us) (wrap64 (i + 1)) = some r := by
              have H2 : (if all.length + us.length < 5864062014805 then impl_markovs.l0 k1 a0 (all ++ us) (wrap64 (i + 1)) else none) = some r := H
              rw [if_pos c5] at H2
              exact H2
            have H' := Aside0.mk H
            have LM := Aside0.mk c5
            have HI2 := Aside0.mk (And.intro c2 c3_)
            clear H c5
            have c2b0 : decide (i < (all.length : Int)) = true := decide_eq_true c2
            have p1 : 0 ≤ i := c3_
            have q1 : i < (all.length : Int) := c2
            obtain ⟨ad1, A1, cc1, e1, hx1, hl1, hi1⟩ := at_L1 (Kd.S_reads' HO6.out).2.2 i p1 q1
            cases e1
            have HC1 := Aside0.mk hl1
            have HR1 := Aside0.mk hi1
            have qi1 : (i.toNat < all.length) = True := eq_true (by omega)
            clear hl1 hi1 c2 c3_
            replace p1 := eq_true p1
            replace q1 := eq_true q1
            obtain ⟨vs, hs1, hs2, hs3⟩ := S_scal HO6.out
            have HS1 := Aside0.mk hs1
            have HS2 := Aside0.mk hs2
            have HS3 := Aside0.mk hs3
            clear hs1 hs2 hs3 HO6
            go_wp2_with (first
              | (go_at_call 48; refine (impl_ups.calls k1 _ _ (rd_L1 all i) a0 us _ (by repeat (first | exact HR1.out | (with_reducible refine Kd.C_alloc ?_ _) | (with_reducible refine Kd.C_drewN ?_ _) | (with_reducible refine Kd.C_drew ?_))) HC1.out HA4.out).mono ?_; rintro e w4 ⟨v4, rfl, ho0, hb⟩; have n0_ := Aside0.mk (Kd.R_below HS1.out hb); have n1_ := Aside0.mk (HS3.out.step (w1 := w4) (ok' := fun k_ => k_ < wr.heap.size ∧ some k_ ≠ (Value.slice (some ad1) all.length c3).ownBlock) (fun k_ _ hk_ => hb.block k_ hk_) (fun k_ hk_ hlt_ => ⟨hlt_, hk_.2⟩)); have n2_ := Aside0.mk (below_step HB.out hb); have n3_ := Aside0.mk (fun k_ (e_ : (Value.slice (some ad1) all.length c3).ownBlock = some k_) => ((Kd.R_bound HS1.out).1 k_ e_).2.2.1); have n4_ := Aside0.mk hb.size; have n5_ := Aside0.mk (below_size HB.out); obtain ⟨ns, hn1, hn2, hn3⟩ := S_scal ho0; obtain ⟨An, cn, en⟩ := Kd.S_slice ho0; subst en; have n6_ := Aside0.mk hn1; have n7_ := Aside0.mk hn2; have n8_ := Aside0.mk (hn3.above (ok' := fun k_ => some k_ ≠ (Value.slice An us.length cn).ownBlock) (Nat.le_refl _) (fun k_ hk_ _ => hk_.2)); clear HS1 HS3 HB hn1 hn2 hn3 ho0 hb; have HS1 := n0_; have HS3 := n1_; have HB := n2_; have HVB := n3_; have HSZ := n4_; have HSW := n5_; have HN1 := n6_; have HN2 := n7_; have HN3 := n8_; clear n0_ n1_ n2_ n3_ n4_ n5_ n6_ n7_ n8_)
              | ((with_reducible refine gate_builtin (b := .append) (xs := #[.tmp 13, .tmp 19]) rfl ?_); at_builtin; refine Kd.R_append_row (fun x : OneV => x.1) ⟨.slice none 0 0, rfl⟩ (h1 := fun x => x.2) (w0 := w) w.heap.size rfl (.tmp 13) (.tmp 19) 25 30 (.slice none 0 0) 24 rfl Try.underlying25 info30 rfl (by decide) (.slice (some ad1) all.length c3) vs ns An us.length cn (fun _ => True) rfl rfl (fun _ _ => trivial) HS1.out (by rw [← HN2.out]; exact (Kd.R_reads' (by have h_ := HN1.out; rw [← HN2.out] at h_; exact h_)).2.2) HB.out (below_size HB.out) (by have := LM.out; have := HS2.out; omega) ?_; intro v7 w7 ho hb hg hat; have n0_ := Aside0.mk (S_cat (W := w4) (w1 := w7) (base := w.heap.size) (B := wr.heap.size) (v := .slice (some ad1) all.length c3) (v1 := v7) (u := .slice An us.length cn) (us := vs) (ns := ns) (L := all) (M := us) HSW.out HSZ.out HS3.out HVB.out HN3.out hg hat ho); have n1_ := Aside0.mk hb; clear HS1 HS3 HB HVB HSZ HSW HN1 HN2 HN3; have HO6 := n0_; have HB := n1_; clear n0_ n1_ ho hb hg hat))
            go_roundg k1
            case measure => have := HK1.out; omega
            case rel => exact ⟨all ++ us, wrap64 (i + 1), (by first | rfl | (simp; done) | (simp [*]; done)), ⟨by have := HI2.out; have := HL.out; unfold wrap64; omega⟩, H', ⟨by have := HK1.out; omega⟩, ⟨by have := LM.out; rw [List.length_append]; exact this⟩, ⟨HO6.out⟩, ⟨HB.out⟩⟩
          · exact absurd H (by simp [c5])
        · rw [if_neg c3_] at H
          exact absurd H (by simp)
      · rw [if_neg c2] at H
        have c2b0 : decide (i < (all.length : Int)) = false := decide_eq_false c2
        clear c2
        by_cases c6 : all.all prM = true
        · rw [if_pos c6] at H
          have HPR : Aside0 (∀ x ∈ all, prM x = true) := ⟨fun x hx => List.all_eq_true.1 c6 x hx⟩
          obtain rfl : sortM all = r := by simpa using H
          clear H c6
          go_wp2_with (first
            | (go_at_call 49; refine (rows_sort cfM cfM_total (fun x => prM x = true) 50 #[] cmpM_enters cmpM_at (fun _ => True) _ all w _ HB.out HPR.out (by have := HL.out; omega) HO6.out).mono ?_; rintro e w3 ⟨rfl, ys, hp, hs, ho, hb, hk⟩; have n1_ := Aside0.mk (Kd.S_mono ho (fun _ _ => trivial)); have n2_ := Aside0.mk hb; have n3_ := Aside0.mk (sortM_is hp hs); clear HO6 HB; have HO6 := n1_; have HB := n2_; have HZ := n3_; clear n1_ n2_ n3_ ho hb hk hp hs))
          go_ret
          exact ⟨_, rfl, by rw [← HZ.out]; exact HO6.out, HB.out⟩
        · rw [if_neg c6] at H
          exact absurd H (by simp)
end Go.Proofs.Ytkdgpbcecnmdhaa.P

-- UrowsClone
namespace Go.Proofs.Ytkdgpbcecnmdhaa.P
set_option linter.unusedVariables false
set_option linter.unusedSimpArgs false
open Go.RowKit Go.Proofs.YtkdgpbcecnmdhaaW.PrintWords Go.Proofs.YtkdgpbcecnmdhaaW.PrintLast

set_option maxHeartbeats 1000000 in
set_option maxRecDepth 100000 in
theorem rows_clone (v : Value) (xs : List (List Int)) (w0 w : World) (hB : Below w0.heap.size w0 w) (hz : xs.length < 5864062014805) (ho : Kd.S KII 30 w w0.heap.size (fun _ => True) v xs) :
    Calls Try.prog 37 #[v] w fun e w' => ∃ v', e = .returned v' ∧ Kd.S KII 30 w' w0.heap.size (fun _ => True) v' xs ∧ Below w0.heap.size w0 w' := by
  obtain ⟨us, hs1, hs2, hs3⟩ := S_scal ho
  have q22 : ∀ (w : World) (a : Option Addr) (n c n' c' : Nat), (binOp .eql 25 (.slice a n c) (.slice none n' c')).run Try.prog w = .ok (.bool a.isNone) w := fun w a n c n' c' => Lib.run_eql_slice_nil w _ _ a n c n' c' Try.underlying25
  rcases scalar_open hs1 with ⟨ev, hn⟩ | ⟨g, cap, cur, ev, hok, hg, hb, hc, hm, hcs, ht⟩
  · subst ev
    have hx : xs = [] := List.eq_nil_of_length_eq_zero (by rw [← hs2, hn]; rfl)
    subst hx
    have HB := Aside0.mk hB
    clear hB ho hs1 hs2 hs3 hn
    go_enter Try.func37, Try.ntmps37
    go_wp2
    go_ret
    exact ⟨_, rfl, Kd.S_nil _ _ _ _ _, HB.out⟩
  · subst ev
    have hr := (Kd.R_reads' hs1).2.2
    have hR := Aside0.mk hr
    have HS := Aside0.mk hs3
    have HB := Aside0.mk hB
    have HN := Aside0.mk hs2
    have HZ := Aside0.mk hz
    clear ho hs1 hb hg hcs ht hok hr hs3 hB hs2 hz
    go_enter Try.func37, Try.ntmps37
    go_wp2_with (first
      | ((with_reducible refine gate_builtin (b := .append) (xs := #[.tmp 5, .tmp 6]) rfl ?_); at_builtin; refine Kd.R_append_row (fun x : OneV => x.1) ⟨.slice none 0 0, rfl⟩ (h1 := fun x => x.2) (w0 := w0) w0.heap.size rfl (.tmp 5) (.tmp 6) 25 30 (.slice none 0 0) 24 rfl Try.underlying25 info30 rfl (by decide) (.slice (some ⟨w.heap.size, 0, none⟩) 0 0) [] us (some ⟨g, 0, none⟩) us.length cap (fun _ => True) rfl rfl (fun _ _ => trivial) (scalar_R.2 ⟨fun _ _ => trivial, World.ownsRow_made w #[] 0 HB.out.size (Nat.zero_le _) (by simp)⟩) (Kd.C_alloc hR.out _) (below_alloc HB.out _) (by have := HB.out.size; simp; omega) (by have := HN.out; have := HZ.out; simp; omega) ?_; intro v7 w7 ho hb hg hat; have n0_ := Aside0.mk ho; have n1_ := Aside0.mk hb; have n2_ := Aside0.mk hg; have n3_ := Aside0.mk hat; clear ho hb hg hat))
    go_ret
    have hsz : ∀ o : Obj, (w.alloc o).heap.size = w.heap.size + 1 := fun o => by simp
    refine ⟨_, rfl, scal_S n0_.out ?_, n1_.out⟩
    refine HS.out.step (fun k hk hlt => ?_) (fun k hk hlt => ⟨trivial, fun e => ?_⟩)
    · have h1 := n2_.out.block k (by rw [hsz]; omega) (fun e => by simp [Value.ownBlock] at e; omega)
      rw [h1]
      exact (below_alloc (Below.refl w.heap.size w) _).block k hlt
    · rcases n3_.out with h1 | ⟨b, h1, h2⟩
      · have e2 : some k = v7.ownBlock := e
        rw [h1] at e2
        simp [Value.ownBlock] at e2
        omega
      · have e2 : some k = v7.ownBlock := e
        rw [h1] at e2
        injection e2 with e
        rw [hsz] at h2
        omega
end Go.Proofs.Ytkdgpbcecnmdhaa.P

-- GallWithin
namespace Go.Proofs.Ytkdgpbcecnmdhaa.P
open Go.RowKit Go.Proofs.YtkdgpbcecnmdhaaW.PrintWords Go.Proofs.YtkdgpbcecnmdhaaW.PrintLast
set_option linter.unusedVariables false
set_option linter.unusedSimpArgs false

def inB (lo hi x : Int) : Bool := decide (lo ≤ x) && decide (x ≤ hi)
def impl_allWithin.f (l0 : List Int) (a1 a2 : Int) : Option Bool := some (l0.all (inB a1 a2))

theorem impl_within.given (n lo hi : Int) (w : World) : Calls Try.prog 33 #[.int .i64 n, .int .i64 lo, .int .i64 hi] w fun e w' => e = .returned (.bool (inB lo hi n)) ∧ w = w' := by
  unfold inB
  by_cases h1 : lo ≤ n <;> by_cases h2 : n ≤ hi
  all_goals
    go_enter Try.func33, Try.ntmps33
    go_wp2
    go_ret
    exact ⟨by simp [h1, h2], rfl⟩

/-- The closure of allWithin. -/
theorem allWithin_closure (n lo hi : Int) (B1 B2 : Nat) (w : World) (h1 : w.cell? ⟨B1, 0, none⟩ = some (.int .i64 lo)) (h2 : w.cell? ⟨B2, 0, none⟩ = some (.int .i64 hi)) :
    Calls Try.prog 70 #[.int .i64 n, .pointer (some ⟨B1, 0, none⟩), .pointer (some ⟨B2, 0, none⟩)] w fun e w' => e = .returned (.bool (!inB lo hi n)) ∧ w = w' := by
  go_enter Try.func70, Try.ntmps70
  go_wp2_with (go_at_call 33; refine (impl_within.given _ _ _ _).mono ?_; rintro e w' ⟨rfl, rfl⟩)
  go_ret
  exact ⟨rfl, rfl⟩

theorem inB_take_succ (l : List Int) (lo hi : Int) (k : Nat) (h : k < l.length) : (l.take (k + 1)).all (inB lo hi) = ((l.take k).all (inB lo hi) && inB lo hi (rd l k)) := by
  rw [List.take_succ_eq_append_getElem h, List.all_append]
  simp [rd, List.getD_eq_getElem?_getD, h]

/-- What IndexFunc tells of all numbers. -/
def Hits (l : List Int) (lo hi i : Int) : Prop := decide (0 ≤ i) = !l.all (inB lo hi)
theorem hits_none (l : List Int) (lo hi : Int) (h : (l.take l.length).all (inB lo hi) = true) : Hits l lo hi (-1) := by
  rw [List.take_length] at h
  unfold Hits
  rw [h]
  rfl
theorem hits_at (l : List Int) (lo hi : Int) (k : Nat) (h : k < l.length) (hq : inB lo hi (rd l k) = false) : Hits l lo hi k := by
  unfold Hits
  rw [decide_eq_true (by omega : 0 ≤ (k : Int)), eq_comm, Bool.not_eq_true']
  rw [List.all_eq_false]
  refine ⟨l[k], List.getElem_mem h, ?_⟩
  simp [rd, List.getD_eq_getElem?_getD, h] at hq
  simp [hq]

set_option maxHeartbeats 1000000 in
theorem allWithin_index (A0 : Option Addr) (c0 : Nat) (l0 : List Int) (lo hi : Int) (B1 B2 : Nat) (w : World) (hr0 : Kd.C (Kd.int .i64) w A0 l0.length l0) (hl : l0.length ≤ 9223372036854775807)
    (h1 : w.cell? ⟨B1, 0, none⟩ = some (.int .i64 lo)) (h2 : w.cell? ⟨B2, 0, none⟩ = some (.int .i64 hi)) :
    Calls Try.prog 86 #[.slice A0 l0.length c0, .func (.func 70) #[] #[.pointer (some ⟨B1, 0, none⟩), .pointer (some ⟨B2, 0, none⟩)]] w
      fun e w' => (∃ i : Int, e = .returned (.int .i64 i) ∧ Hits l0 lo hi i) ∧ Drawn0 w w' := by
  have HR := Aside0.mk hr0
  clear hr0
  go_enter Try.func86, Try.ntmps86
  go_wp2
  go_loopg [5, 8] l0.length (fun gg _ s8 wr => ∃ kk : Nat, kk ≤ l0.length ∧ l0.length - kk ≤ gg ∧ s8 = .int .i64 kk ∧ w = wr ∧ Aside0 ((l0.take kk).all (inB lo hi) = true))
  case atStart => exact ⟨0, Nat.zero_le _, by omega, rfl, rfl, ⟨by simp⟩⟩
  case round =>
    obtain ⟨kk, hkk, hg, rfl, rfl, HA⟩ := hrel
    by_cases hlt : kk < l0.length
    · have hltz : (kk : Int) < (l0.length : Int) := by omega
      obtain ⟨ad, e1, hx⟩ := Kd.at_int HR.out (kk : Int) (by omega) (by omega)
      cases e1
      rw [Int.toNat_natCast] at hx
      have hcall := allWithin_closure (rd l0 (kk : Int)) lo hi B1 B2 w h1 h2
      have HS := Aside0.mk (inB_take_succ l0 lo hi kk hlt)
      cases hq : inB lo hi (rd l0 (kk : Int)) with
      | true =>
        rw [hq] at hcall
        have HQ := Aside0.mk hq
        clear hq h1 h2
        go_wp2_with (go_at_call 70; refine hcall.mono ?_; rintro e w' ⟨rfl, rfl⟩)
        go_roundg (l0.length - (kk + 1))
        case measure => omega
        case rel => exact ⟨kk + 1, by omega, by omega, by go_num, rfl, ⟨by rw [HS.out, HA.out, HQ.out]; rfl⟩⟩
      | false =>
        rw [hq] at hcall
        have HQ := Aside0.mk hq
        clear hq h1 h2
        go_wp2_with (go_at_call 70; refine hcall.mono ?_; rintro e w' ⟨rfl, rfl⟩)
        go_ret
        refine ⟨⟨_, rfl, ?_⟩, Drawn0.refl _⟩
        exact hits_at l0 lo hi kk hlt HQ.out
    · have hltz : ¬ (kk : Int) < (l0.length : Int) := by omega
      have hk : kk = l0.length := by omega
      subst hk
      go_wp2
      go_ret
      refine ⟨⟨_, rfl, ?_⟩, Drawn0.refl _⟩
      exact hits_none l0 lo hi HA.out

theorem allWithin_contains (A0 : Option Addr) (c0 : Nat) (l0 : List Int) (lo hi : Int) (B1 B2 : Nat) (w : World) (hr0 : Kd.C (Kd.int .i64) w A0 l0.length l0) (hl : l0.length ≤ 9223372036854775807)
    (h1 : w.cell? ⟨B1, 0, none⟩ = some (.int .i64 lo)) (h2 : w.cell? ⟨B2, 0, none⟩ = some (.int .i64 hi)) :
    Calls Try.prog 69 #[.slice A0 l0.length c0, .func (.func 70) #[] #[.pointer (some ⟨B1, 0, none⟩), .pointer (some ⟨B2, 0, none⟩)]] w
      fun e w' => e = .returned (.bool (!l0.all (inB lo hi))) ∧ Drawn0 w w' := by
  have hC := allWithin_index A0 c0 l0 lo hi B1 B2 w hr0 hl h1 h2
  clear hr0 h1 h2
  go_enter Try.func69, Try.ntmps69
  go_wp2_with (go_at_call 86; refine hC.mono ?_; rintro e w' ⟨⟨i, rfl, hi_⟩, ⟨n, rfl⟩⟩; have HI := Aside0.mk hi_; clear hi_)
  go_ret
  refine ⟨?_, ⟨⟨n, rfl⟩⟩⟩
  exact congrArg (fun b => Ending.returned (.bool b)) HI.out

theorem reads_max {A : Option Addr} {n : Nat} {xs : List Int} {w : World} (h : Kd.C (Kd.int .i64) w A n xs) : n ≤ 9223372036854775807 := (Kd.reads_of_C (enc := Value.int .i64) (d := (0 : Int)) (h1 := fun _ => rfl) h).2.1

theorem impl_allWithin.calls (A0 : Option Addr) (c0 : Nat) (l0 : List Int) (a1 : Int) (a2 : Int) (r : Bool) (w : World) (hr0 : Kd.C (Kd.int .i64) w A0 l0.length l0) (hc0 : l0.length ≤ c0) (h : impl_allWithin.f l0 a1 a2 = some r) :
    Calls Try.prog 55 #[.slice A0 l0.length c0, .int .i64 a1, .int .i64 a2] w fun e w' => e = .returned (.bool r) ∧ Below w.heap.size w w' := by
  obtain rfl : l0.all (inB a1 a2) = r := Option.some.inj h
  have hl := reads_max hr0
  have hb1 : Below w.heap.size w (w.alloc (.cells #[.int .i64 a1] 3)) := below_alloc (Below.refl _ _) _
  have hb2 : Below w.heap.size w ((w.alloc (.cells #[.int .i64 a1] 3)).alloc (.cells #[.int .i64 a2] 3)) := below_alloc hb1 _
  have hC := allWithin_contains A0 c0 l0 a1 a2 w.heap.size (w.heap.size + 1) ((w.alloc (.cells #[.int .i64 a1] 3)).alloc (.cells #[.int .i64 a2] 3)) (Kd.C_below hr0 hb2) hl (by simp) (by simp)
  have HB := Aside0.mk hb2
  clear hr0 hb1 hb2 h
  go_enter Try.func55, Try.ntmps55
  go_wp2_with (go_at_call 69; refine hC.mono ?_; rintro e w' ⟨rfl, ⟨n, rfl⟩⟩)
  go_ret
  exact ⟨by simp, pw_below_drewN HB.out n⟩

end Go.Proofs.Ytkdgpbcecnmdhaa.P

-- GtriplesWith
namespace Go.Proofs.Ytkdgpbcecnmdhaa.P
open Go.Shelf Go.RowKit Go.Proofs.YtkdgpbcecnmdhaaW.PrintWords Go.Proofs.YtkdgpbcecnmdhaaW.PrintLast
set_option linter.unusedVariables false
set_option linter.unusedSimpArgs false

theorem with_enters : ∀ args w, (callFunc 39 args).run Try.prog w = .ok (.enter 39 args) w := fun args w => enters_of Try.func39 (by kernel_rfl) rfl args w
set_option maxHeartbeats 1000000 in
set_option maxRecDepth 100000 in
theorem with_at (W : World) (A : Option Addr) (c : Nat) (x : List Int) (b : Nat) (n : Int) (hx : 2 < x.length) (h1 : Kd.C (Kd.int .i64) W A x.length x) (h2 : x.length ≤ c) (hb : W.heap[b]? = some (.cells #[.int .i64 n] 3 (0, 0))) : Go.Proofs.FnGives Try.prog 39 #[.pointer (some ⟨b, 0, none⟩)] #[.slice A x.length c] (.bool (rd x 2 != n)) W := by
  show Calls Try.prog 39 #[.slice A x.length c, .pointer (some ⟨b, 0, none⟩)] W fun e w' => e = .returned (.bool (rd x 2 != n)) ∧ ∃ q, w' = W.drewN q
  have p1 : 0 ≤ (2 : Int) := by omega
  have q1 : 2 < (x.length : Int) := by omega
  obtain ⟨ad1, e1, hx1⟩ := Kd.at_int h1 2 p1 q1
  cases e1
  (try simp only [show (2 : Int).toNat = 2 from rfl, Nat.reduceMul, Nat.reduceEqDiff, Go.Addr.add, ↓reduceIte] at hx1)
  have qi1 : (2 < x.length) = True := eq_true (by omega)
  have hcb : W.cell? ⟨b, 0, none⟩ = some (.int .i64 n) := by simp [World.cell?, hb]
  clear h1 hb hx
  generalize rd x 2 = a at *
  by_cases e : a = n
  · have eb0 : (a == n) = true := beq_iff_eq.mpr e
    have eb1 : (a != n) = false := bne_eq_false_iff_eq.mpr e
    rw [eb1]
    clear e
    go_enter Try.func39, Try.ntmps39
    go_wp2
    repeat (go_quiet (fail); try go_wp2)
    go_ret
    exact ⟨by first | rfl | (simp [*]; done), _, rfl⟩
  · have eb0 : (a == n) = false := beq_eq_false_iff_ne.mpr e
    have eb1 : (a != n) = true := bne_iff_ne.mpr e
    rw [eb1]
    clear e
    go_enter Try.func39, Try.ntmps39
    go_wp2
    repeat (go_quiet (fail); try go_wp2)
    go_ret
    exact ⟨by first | rfl | (simp [*]; done), _, rfl⟩

theorem cell_is {W : World} {b : Nat} {c : Value} {t : TypeId} (hb : W.heap[b]? = some (.cells #[c] t (0, 0))) : W.cell? ⟨b, 0, none⟩ = some c := by simp [World.cell?, hb]

/-- A row's value, or the zero value. -/
def encO {α : Type} (enc : α → Value) : Option α → Value
  | none => .slice none 0 0
  | some x => enc x
def pO {α : Type} (p : α → Bool) : Option α → Bool
  | none => true
  | some x => p x
theorem filter_some {α : Type} (p : α → Bool) (l : List α) : (l.map some).filter (fun x => !pO p x) = (l.filter fun x => !p x).map some := by
  induction l with
  | nil => rfl
  | cons x l ih =>
    simp only [List.map_cons, List.filter_cons, ih]
    cases h : p x <;> simp [pO, h]
set_option maxHeartbeats 4000000 in
set_option maxRecDepth 1000000 in
open Go.Lib Go.Sort in
theorem delete_walk {α : Type} [Inhabited α] (enc : α → Value) (hO1 : OneCell enc) (p : α → Bool) (g : Nat) (lb : Array Value) (eg : ∀ args w, (callFunc g args).run Try.prog w = .ok (.enter g args) w)
    (blk off cap : Nat) (d : Array α) (w : World) (hp : Go.Proofs.PredAt Try.prog g lb enc p w) (hcallAt : ∀ (dk : Array (Option α)) (u : α) (q : Nat), dk.size = d.size → Calls Try.prog g (#[enc u] ++ lb) (putRow (encO enc) (Sort.ahead w q) blk off dk) fun e w' => e = .returned (.bool (p u)) ∧ ∃ qq, w' = (putRow (encO enc) (Sort.ahead w q) blk off dk).drewN qq)
    (hH : Holds (encO enc) w blk off (d.map some)) (hsz : d.size ≤ 9223372036854775807) (hcap : d.size ≤ cap) :
    Calls Try.prog 38 #[.slice (some ⟨blk, off, none⟩) d.size cap, .func (.func g) #[] lb] w fun e w' => e = .returned (.slice (some ⟨blk, off, none⟩) (d.toList.filter fun x => !p x).length cap) ∧ ∃ q, w' = putRow (encO enc) (Sort.ahead w q) blk off ((d.toList.filter fun x => !p x).map some ++ List.replicate (d.size - (d.toList.filter fun x => !p x).length) none).toArray := by
  have hO : OneCell (encO enc) := fun x => by cases x with
    | none => rfl
    | some x => exact hO1 x
  have t39 := Try.underlying25
  have t22 := Try.underlying30
  have hcl0 := hO.cells
  simp only [Value.cells] at hcl0
  have hst := hO.store Try.prog
  have hcl1 := hO1.cells
  simp only [Value.cells] at hcl1
  have hst1 := hO1.store Try.prog
  have hds : (d.map some).size = d.size := Array.size_map ..
  have tl : ∀ j, j < d.size → d.toList[j]! = d[j]! := fun j hj => by rw [getElem!_pos d j hj, getElem!_pos d.toList j (by simpa using hj)]; simp
  have tm : ∀ j, j < d.size → (d.map some)[j]! = some d[j]! := fun j hj => by rw [getElem!_pos d j hj, getElem!_pos (d.map some) j (by simpa using hj)]; simp
  have hcI : ∀ j, j < d.toList.length → w.cell? ⟨blk, off + j, none⟩ = some (enc d.toList[j]!) := fun j hj => by
    have hj' : j < d.size := by simpa using hj
    rw [(hH j (by rw [hds]; exact hj')).1, tl j hj', tm j hj']
    rfl
  have hIF := AnyE.slices_IndexFunc (P := Try.prog) (ρ := Try.laysSlH10_f38_ren) { Try.laysSlH10_f38 with } enc p g lb eg blk off d.size cap d.toList w hp (by simp) hsz hcI
  rw [show d.toList.take d.size = d.toList from List.take_of_length_le (by simp)] at hIF
  obtain ⟨kp, HK⟩ : ∃ kp : Nat → Bool, Hid (kp = fun j => !pO p (d.map some)[j]!) := ⟨_, rfl⟩
  have hfil : (d.toList.filter fun x => !p x).map some = keptUpTo kp (d.map some) (d.map some).size := by
    rw [HK.out, keptUpTo_filter (fun x => !pO p x) (d.map some)]
    simp only [Array.toList_map]
    rw [filter_some]
  have hfl : (d.toList.filter fun x => !p x).length = (keptUpTo kp (d.map some) (d.map some).size).length := by rw [← hfil, List.length_map]
  rw [hfil, hfl, hds]
  have hIG : Calls Try.prog 52 #[.slice (some ⟨blk, off, none⟩) d.size cap, .func (.func g) #[] lb] w fun e w' => e = .returned (.int .i64 (Lib.idxBy (fun _ y => p y) d.toList default)) ∧ ∃ q, w' = w.drewN q := hIF
  clear hIF
  rcases Go.Proofs.idxByFrom_spec (fun _ y => p y) default d.toList 0 with ⟨e1, hall⟩ | ⟨k0, hk0, e1, ht, hall⟩
  · have e2 : Lib.idxBy (fun _ y => p y) d.toList default = -1 := e1
    rw [e2] at hIG
    have hkeep : ∀ j, j < (d.map some).size → kp j = true := fun j hj => by
      rw [hds] at hj
      rw [HK.out]
      show (!pO p (d.map some)[j]!) = true
      rw [tm j hj]
      show (!p d[j]!) = true
      rw [← tl j hj, hall j (by simpa using hj)]
      rfl
    have e3 : keptUpTo kp (d.map some) d.size = (d.map some).toList := by
      have := keptUpTo_all kp (d.map some) _ hkeep
      rw [hds] at this
      rw [this, ← hds, range_map_get]
    have e4 : (keptUpTo kp (d.map some) d.size).length = d.size := by rw [e3]; simp
    have HH : Aside (Holds (encO enc) w blk off (d.map some)) := hH
    have E3 : Aside (keptUpTo kp (d.map some) d.size = (d.map some).toList) := e3
    have E4 : Aside ((keptUpTo kp (d.map some) d.size).length = d.size) := e4
    clear hH hcallAt hp e3 e4 hkeep hall hfil hfl hcI tl tm
    go_enter Try.func38, Try.ntmps38
    go_wp2_with (go_at_call 52; refine hIG.mono ?_; rintro e w' ⟨rfl, q0, rfl⟩)
    go_ret
    refine ⟨by rw [E4.out]; rfl, q0, ?_⟩
    rw [E4.out, E3.out, Nat.sub_self, List.replicate_zero, List.append_nil, Array.toArray_toList]
    exact (putRow_self (encO enc) (Sort.ahead w q0) blk off (d.map some) (holds_ahead (encO enc) w q0 blk off _ HH.out)).symm
  · have hk0' : k0 < d.size := by simpa using hk0
    have e2 : Lib.idxBy (fun _ y => p y) d.toList default = (k0 : Int) := by unfold Lib.idxBy; rw [e1]; simp
    rw [e2] at hIG
    have hkeep : ∀ j, j < k0 → kp j = true := fun j hj => by
      rw [HK.out]
      show (!pO p (d.map some)[j]!) = true
      rw [tm j (by omega)]
      show (!p d[j]!) = true
      rw [← tl j (by omega), hall j hj]
      rfl
    have hdrop : kp k0 = false := by
      rw [HK.out]
      show (!pO p (d.map some)[k0]!) = false
      rw [tm k0 hk0']
      show (!p d[k0]!) = false
      rw [← tl k0 hk0', show p d.toList[k0]! = true from ht]
      rfl
    have hne1 : ((k0 : Int) == -1) = false := beq_eq_false_iff_ne.2 (by omega)
    have HC : Aside _ := hcallAt
    have HH : Aside (Holds (encO enc) w blk off (d.map some)) := hH
    have TM : Aside (∀ j, j < d.size → (d.map some)[j]! = some d[j]!) := tm
    have HST := KeptInv.start (d := d.map some) hkeep hdrop
    have HST2 : Aside (KeptInv kp (d.map some) (k0 + 1) k0 (d.map some)) := HST
    clear hcallAt hp hH hall ht e1 e2 tl tm HST hkeep hdrop hcI hfil hfl
    obtain ⟨D, hD⟩ : ∃ D : Array (Option α), D = d.map some := ⟨_, rfl⟩
    rw [← hD] at hds HH TM HST2 ⊢
    have HD : Aside (D = d.map some) := hD
    clear hD
    go_enter Try.func38, Try.ntmps38
    go_wp2_with (go_at_call 52; refine hIG.mono ?_; rintro e w' ⟨rfl, q0, rfl⟩)
    clear hIG
    go_loopg [5, 6, 7] d.size (fun gg s5 s6 _ wr => ∃ (i j q : Nat) (dk : Array (Option α)), s5 = .int .i64 i ∧ s6 = .int .i64 j ∧ j ≤ d.size ∧ d.size - j ≤ gg ∧ wr = putRow (encO enc) (Sort.ahead w q) blk off dk ∧ Aside (KeptInv kp D j i dk))
    case atStart => exact ⟨k0, k0 + 1, q0, D, rfl, by go_num, by omega, by omega, (putRow_self (encO enc) (Sort.ahead w q0) blk off D (holds_ahead (encO enc) w q0 blk off D HH.out)).symm, HST2⟩
    case round =>
      obtain ⟨i, j, q, dk, rfl, rfl, hjd, hgg, hwr, I2⟩ := hrel
      have hI := I2.out
      have hij := hI.lt
      have hdk : dk.size = d.size := hI.size.trans hds
      have hHk : Holds (encO enc) wr blk off dk := by rw [hwr]; exact holds_putRow (encO enc) _ blk off D dk (holds_ahead (encO enc) w q blk off D HH.out) hI.size
      have W2 : Aside (wr = putRow (encO enc) (Sort.ahead w q) blk off dk) := hwr
      by_cases hlt : j < d.size
      · have hltz : (j : Int) < (d.size : Int) := by omega
        obtain ⟨cj, _⟩ := hHk j (by omega)
        obtain ⟨ci, fi⟩ := hHk i (by omega)
        rw [hI.high j (by omega), TM.out j hlt] at cj
        have hcall := HC.out dk d[j]! q hdk
        rw [← hwr] at hcall
        have C0 := TM.out j hlt
        clear hHk hI hwr
        generalize hu : d[j]! = u at cj hcall C0
        generalize dk[i]! = old at ci
        have C : Aside (D[j]! = some u) := C0
        have cj' : wr.cell? ⟨blk, off + j, none⟩ = some (enc u) := cj
        clear hu C0 cj
        cases hq : p u with
        | false =>
          rw [hq] at hcall
          go_wp2_with (go_at_fn g; refine hcall.mono ?_; rintro e w' ⟨rfl, qq, rfl⟩)
          go_roundg (d.size - (j + 1))
          case measure => omega
          case rel =>
            refine ⟨i + 1, j + 1, q + qq, dk.setIfInBounds i (some u), by go_num, by go_num, by omega, Nat.le_refl _, ?_, (show Aside _ from ?_)⟩
            · rw [W2.out, show (putRow (encO enc) (Sort.ahead w q) blk off dk).drewN qq = putRow (encO enc) (Sort.ahead w (q + qq)) blk off dk from putRow_drewN _ _ _ _ _ _ _]
              exact putRow_set (encO enc) _ blk off dk i (some u) (by omega)
            · have := I2.out.keep (by omega) (by rw [HK.out]; show (!pO p (d.map some)[j]!) = true; rw [← HD.out, C.out]; show (!p u) = true; rw [hq]; rfl)
              rwa [C.out] at this
        | true =>
          rw [hq] at hcall
          go_wp2_with (go_at_fn g; refine hcall.mono ?_; rintro e w' ⟨rfl, qq, rfl⟩)
          go_roundg (d.size - (j + 1))
          case measure => omega
          case rel => exact ⟨i, j + 1, q + qq, dk, rfl, by go_num, by omega, Nat.le_refl _, by rw [W2.out]; exact putRow_drewN _ _ _ _ _ _ _, I2.out.skip (by rw [HK.out]; show (!pO p (d.map some)[j]!) = false; rw [← HD.out, C.out]; show (!p u) = false; rw [hq]; rfl)⟩
      · obtain rfl : j = d.size := by omega
        have hltz : ¬ (d.size : Int) < (d.size : Int) := by omega
        have hcl : ∀ ty, (Builtin.clear_ #[25] ty #[.slice (some ⟨blk, off + i, none⟩) (d.size - i) (cap - i)]).run Try.prog wr = .ok (.tuple #[]) (wr.setCells blk (off + i) (List.replicate (d.size - i) (encO enc none))) :=
          fun ty => Lib.run_clear_slice wr _ _ ty _ t39 (fun w => Try.zeroValue30 w) (hO.cells none) (hO none) blk (off + i) _ _ (by omega) (fun t ht => by rw [show off + i + t = off + (i + t) by omega, (hHk (i + t) (by omega)).1]; rfl) (fun t ht => by rw [show off + i + t = off + (i + t) by omega]; exact (hHk (i + t) (by omega)).2)
        clear hHk hI hwr
        go_wp2
        go_ret
        have hI := I2.out
        have hlen : (keptUpTo kp D d.size).length = i := by rw [← hI.len]
        refine ⟨by rw [hlen]; rfl, q, ?_⟩
        have hI2 : KeptInv kp D D.size i dk := by rw [hds]; exact hI
        have hdn := hI2.done none
        rw [hds] at hdn
        rw [hlen, ← hdn, ← putRow_setCells (encO enc) _ blk off _ dk i (by simp; omega), ← W2.out, List.map_replicate]

set_option maxHeartbeats 1000000 in
/-- slices.DeleteFunc at rows. -/
theorem rows_delete (p : List Int → Bool) (Pr : List Int → Prop) (gf : Nat) (lb : Array Value) (b : Nat)
    (eg : ∀ args w, (callFunc gf args).run Try.prog w = .ok (.enter gf args) w) (w0 w : World) (hbs : b < w.heap.size)
    (hp : ∀ (W : World) (A : Option Addr) (c : Nat) (x : List Int), W.heap[b]? = w.heap[b]? → Pr x → Kd.C (Kd.int .i64) W A x.length x → x.length ≤ c → Go.Proofs.FnGives Try.prog gf lb #[.slice A x.length c] (.bool (p x)) W)
    (hbt : ∀ cur, w.heap[b]? ≠ some (.cells cur 30 (0, 0)))
    (v : Value) (xs : List (List Int)) (hB : Below w0.heap.size w0 w) (hP : ∀ x ∈ xs, Pr x) (hne : xs ≠ []) (ho : Kd.S KII 30 w w0.heap.size (fun _ => True) v xs) :
    Calls Try.prog 38 #[v, .func (.func gf) #[] lb] w fun e w' => ∃ v', e = .returned v' ∧ Kd.S KII 30 w' w0.heap.size (fun _ => True) v' (xs.filter fun x => !p x) ∧ Below w0.heap.size w0 w' := by
  obtain ⟨vs, h0, hown, hv⟩ := S_vals ho
  obtain ⟨hlen, hcase⟩ := hown
  rcases hcase with ⟨ev, hn⟩ | ⟨g, cap, cur, ev, hg, hb, hc, hm, hcs, ht⟩
  · exact absurd (List.eq_nil_of_length_eq_zero hn) hne
  · subst ev
    obtain ⟨ds, e1, e2⟩ := rows_at (Pr := Pr) vs xs hv.len hv.row hP
    have hds : ds ≠ [] := fun e => hne (by rw [← e2, e]; rfl)
    letI : Inhabited (RowAt w w0.heap.size (fun k => True ∧ some k ≠ (Value.slice (some ⟨g, 0, none⟩) xs.length cap).ownBlock) Pr) := ⟨ds.head hds⟩
    have hdl : ds.length = xs.length := by have := congrArg List.length e2; simpa using this
    have ht' : cur.toList.take ds.length = ds.map RowAt.v := by rw [hdl, e1]; simpa using ht
    have hlt : g < w.heap.size := (Array.getElem?_eq_some_iff.1 hb).1
    have hbg : b ≠ g := fun e => hbt cur (by rw [e]; exact hb)
    have hng : ∀ k, (True ∧ some k ≠ (Value.slice (some ⟨g, 0, none⟩) xs.length cap).ownBlock) → k ≠ g := fun k hk e => hk.2 (by rw [e]; rfl)
    have hOO : ∀ x : Option (RowAt w w0.heap.size (fun k => True ∧ some k ≠ (Value.slice (some ⟨g, 0, none⟩) xs.length cap).ownBlock) Pr), (encO RowAt.v x).oneCell' = true := fun x => by
      cases x with
      | none => rfl
      | some x => exact RowAt.one x
    have hgive : ∀ (W : World) (x : RowAt w w0.heap.size (fun k => True ∧ some k ≠ (Value.slice (some ⟨g, 0, none⟩) xs.length cap).ownBlock) Pr), (∀ k, k < w.heap.size → k ≠ g → W.heap[k]? = w.heap[k]?) → Go.Proofs.FnGives Try.prog gf lb #[x.v] (.bool (p x.l)) W := fun W x hW => by
      have hx := Kd.R_step (w1 := W) x.hR (fun k hk hlk => hW k hlk (hng k hk))
      obtain ⟨A, c, ea, ha, hra⟩ := Kd.R_reads hx
      rw [ea]
      exact hp W A c x.l (hW b hbs hbg) x.hP hra ha
    have ht2 : cur.toList.take (ds.map some).length = (ds.map some).map (encO RowAt.v) := by
      rw [List.length_map, ht', List.map_map]
      rfl
    have hC := delete_walk (RowAt.v (w := w) (base := w0.heap.size) (ok := fun k => True ∧ some k ≠ (Value.slice (some ⟨g, 0, none⟩) xs.length cap).ownBlock) (Pr := Pr)) RowAt.one (fun a => p a.l) gf lb eg g 0 cap ds.toArray w
      (fun W x hb => hgive W x (fun k hk _ => hb.block k hk))
      (fun dk x q hsd => hgive _ x (fun k hk hkg => by
          have := sortWorld_other (encO RowAt.v) w g q dk #[] k hk hkg
          rwa [Go.Sort.grow_empty] at this))
      (by have h_ := scalar_holds (enc := encO RowAt.v) (xs := ds.map some) hb ht2; rwa [← List.map_toArray] at h_) (by have : cap ≤ 9223372036854775807 := hm; simp only [List.size_toArray]; omega) (by simp only [List.size_toArray]; omega)
    rw [show ds.toArray.size = xs.length by simpa using hdl] at hC
    refine hC.mono ?_
    rintro e w' ⟨rfl, q, hw⟩
    obtain ⟨ks, hks⟩ : ∃ ks, ks = ds.filter (fun a => !p a.l) := ⟨_, rfl⟩
    have hks2 : (ds.toArray.toList.filter fun a => !p a.l) = ks := hks.symm
    rw [hks2] at hw ⊢
    have hsub : ks.Sublist ds := by rw [hks]; exact List.filter_sublist
    have hlk : ks.length ≤ ds.length := hsub.length_le
    have hS := scalar_sorted (enc := encO RowAt.v) (h1 := hOO) (xs := ds.map some) (ys := ks.map some ++ List.replicate (xs.length - ks.length) none) (cap := cap) (ok := fun _ => True) hB trivial hg hb (by rw [List.length_map, hdl]; exact hc) hm (by simpa using hcs) (by simp; omega) q #[] w' (by rw [hw, Go.Sort.grow_empty])
    have hTk := scalar_take hS.1 (ks.map some).length (by simp)
    rw [List.take_left] at hTk
    obtain ⟨hown1, hown2⟩ := scalar_R.1 hTk
    have hap : (ks.map RowAt.v).Pairwise Apart := List.Pairwise.sublist (hsub.map RowAt.v) (by rw [e1]; exact hv.apart)
    have hL : ks.map RowAt.l = xs.filter fun x => !p x := by
      rw [hks, ← e2, List.filter_map]
      rfl
    rw [← hL]
    have hmm : (ks.map some).map (encO RowAt.v) = ks.map RowAt.v := by rw [List.map_map]; rfl
    rw [hmm, List.length_map] at hown2
    rw [List.length_map] at hown1
    refine ⟨_, rfl, Kd.S_mono (vals_S (ok := fun k_ => (True ∨ w.heap.size ≤ k_)) (vs := ks.map RowAt.v) hown1 ?_ (rows_back hap (fun k hk hlk2 => ?_) (fun k hk => ⟨.inl trivial, hk.2⟩))) (fun _ _ => trivial), hS.2.1⟩
    · rw [List.length_map]
      exact hown2
    · rw [hw]
      have := sortWorld_other (encO RowAt.v) w g q (ks.map some ++ List.replicate (xs.length - ks.length) none).toArray #[] k hlk2 (hng k hk)
      rwa [Go.Sort.grow_empty] at this

def impl_TriplesWith.f (k : Nat) (a0 : Int) : Option (List (List Int) × Bool) := if inB 1 1000000000 a0 = true then (impl_markovs.f k a0).bind fun l => (if l ≠ [] ∧ l.length < 5864062014805 ∧ l.all prM = true then some (l.filter (fun x => !(rd x 2 != a0)), true) else none) else some ([], false)
theorem impl_TriplesWith.mono : ∀ a0 k, LeO (impl_TriplesWith.f k a0) (impl_TriplesWith.f (k + 1) a0) := by
  intro a0 k
  unfold impl_TriplesWith.f
  repeat' first
    | (with_reducible exact impl_markovs.mono _ _)
    | (with_reducible exact LeO.refl _)
    | (with_reducible exact LeO.none _)
    | (with_reducible refine LeO.ite ?_ ?_)
    | (with_reducible refine LeO.bind ?_ (fun _ => ?_))
set_option maxHeartbeats 4000000 in
set_option maxRecDepth 100000 in
theorem impl_TriplesWith.calls (k : Nat) (a0 : Int) (r1 : List (List Int)) (r2 : Bool) (w : World) (h : impl_TriplesWith.f k a0 = some (r1, r2)) :
    Calls Try.prog 21 #[.int .i64 a0] w fun e w' => ∃ v0_ : Value, e = .returned (.tuple #[v0_, .bool r2]) ∧ Kd.S (Kd.slice 3 (Kd.int .i64)) 30 w' w.heap.size (fun _ => True) v0_ r1 ∧ Below w.heap.size w w' := by
  unfold impl_TriplesWith.f at h
  have hB1 : Below w.heap.size w (w.alloc (.cells #[.int .i64 a0] 3)) := below_alloc (Below.refl _ _) _
  have kb : (w.alloc (.cells #[.int .i64 a0] 3)).heap[w.heap.size]? = some (.cells #[.int .i64 a0] 3 (0, 0)) := blk_new w _
  have hsz : (w.alloc (.cells #[.int .i64 a0] 3)).heap.size = w.heap.size + 1 := by simp
  cases hin : inB 1 1000000000 a0 with
  | false =>
    rw [hin] at h
    have h_ : some (([], false) : List (List Int) × Bool) = some (r1, r2) := h
    obtain ⟨rfl, rfl⟩ := Prod.mk.inj (Option.some.inj h_)
    have hW := impl_within.given a0 1 1000000000
    rw [hin] at hW
    have HB := Aside0.mk hB1
    clear hB1 kb hsz h h_ hin
    go_enter Try.func21, Try.ntmps21
    go_wp2_with (go_at_call 33; refine (hW _).mono ?_; rintro e w' ⟨rfl, rfl⟩)
    go_ret2
    exact ⟨_, rfl, Kd.S_nil _ _ _ _ _, HB.out⟩
  | true =>
    rw [hin] at h
    have h_ : ((impl_markovs.f k a0).bind fun l => (if l ≠ [] ∧ l.length < 5864062014805 ∧ l.all prM = true then some (l.filter (fun x => !(rd x 2 != a0)), true) else none)) = some (r1, r2) := h
    obtain ⟨L, hL, h2⟩ := Option.bind_eq_some_iff.mp h_
    by_cases hq : L ≠ [] ∧ L.length < 5864062014805 ∧ L.all prM = true
    · replace h2 : (if L ≠ [] ∧ L.length < 5864062014805 ∧ L.all prM = true then some (L.filter (fun x => !(rd x 2 != a0)), true) else none) = some (r1, r2) := h2
      rw [if_pos hq] at h2
      obtain ⟨rfl, rfl⟩ := Prod.mk.inj (Option.some.inj h2)
      have hW := impl_within.given a0 1 1000000000
      rw [hin] at hW
      have HB := Aside0.mk hB1
      have KB := Aside0.mk kb
      have HSZ := Aside0.mk hsz
      have HL := Aside0.mk hL
      have HQ := Aside0.mk hq
      have HFL : Aside0 ((L.filter (fun x => !(rd x 2 != a0))).length < 5864062014805) := ⟨by have := List.length_filter_le (fun x => !(rd x 2 != a0)) L; have := hq.2.1; omega⟩
      clear hB1 kb hsz h h_ h2 hin hL hq
      go_enter Try.func21, Try.ntmps21
      go_wp2_with (first
        | (go_at_call 33; refine (hW _).mono ?_; rintro e w' ⟨rfl, rfl⟩)
        | (go_at_call 34; refine (impl_markovs.calls k a0 L _ HL.out).mono ?_; rintro e w2 ⟨v2, rfl, ho, hb⟩; have n0_ := Aside0.mk (Kd.S_lower ho (below_size HB.out)); have n1_ := Aside0.mk (HB.out.trans (hb.mono HB.out.size)); have n2_ := Aside0.mk ((hb.block w.heap.size (by have := HSZ.out; omega)).trans KB.out); have n3_ := Aside0.mk (Nat.lt_of_lt_of_le (show w.heap.size < (w.alloc (.cells #[.int .i64 a0] 3)).heap.size by have := HSZ.out; omega) hb.size); clear HB KB HSZ HL ho hb; have HO := n0_; have HB := n1_; have KB := n2_; have HLT := n3_; clear n0_ n1_ n2_ n3_)
        | (go_at_call 38; refine (rows_delete (fun x => rd x 2 != a0) (fun x => 2 < x.length) 39 #[.pointer (some ⟨w.heap.size, 0, none⟩)] w.heap.size with_enters w _ HLT.out (fun W A c x hW hP hc hl => with_at W A c x w.heap.size a0 hP hc hl (hW.trans KB.out)) (fun cur e => by rw [KB.out] at e; injection e with e; injection e with e1 e2; exact absurd e2 (by decide)) v2 L HB.out (fun x hx => (prM_iff.1 (List.all_eq_true.1 HQ.out.2.2 x hx)).1) HQ.out.1 HO.out).mono ?_; rintro e w3 ⟨v3, rfl, ho, hb⟩; have n0_ := Aside0.mk ho; have n1_ := Aside0.mk hb; clear HO HB KB HLT ho hb; have HO := n0_; have HB := n1_; clear n0_ n1_)
        | (go_at_call 37; refine (rows_clone v3 _ w _ HB.out HFL.out HO.out).mono ?_; rintro e w4 ⟨v4, rfl, ho, hb⟩; have n0_ := Aside0.mk ho; have n1_ := Aside0.mk hb; clear HO HB ho hb; have HO := n0_; have HB := n1_; clear n0_ n1_))
      go_ret2
      exact ⟨_, rfl, HO.out, HB.out⟩
    · have h2_ : (if L ≠ [] ∧ L.length < 5864062014805 ∧ L.all prM = true then some (L.filter (fun x => !(rd x 2 != a0)), true) else none) = some (r1, r2) := h2
      rw [if_neg hq] at h2_
      simp at h2_
end Go.Proofs.Ytkdgpbcecnmdhaa.P

-- PFimplIsMarkovNumber
namespace Go.Proofs.Ytkdgpbcecnmdhaa.P
open Go.RowKit Go.Proofs.YtkdgpbcecnmdhaaW.PrintWords Go.Proofs.YtkdgpbcecnmdhaaW.PrintLast
set_option linter.unusedVariables false
set_option linter.unusedSimpArgs false

/-! ### impl_IsMarkovNumber: function 9 -/
def impl_IsMarkovNumber.f (k : Nat) (a0 : Int) : Option (Bool × Bool) := (impl_TriplesWith.f k a0).bind fun bt197 => (some (decide ((bt197.1.length : Int) > 0), bt197.2))
theorem impl_IsMarkovNumber.mono : ∀ a0 k, LeO (impl_IsMarkovNumber.f k a0) (impl_IsMarkovNumber.f (k + 1) a0) := by
 intro a0 k
 unfold impl_IsMarkovNumber.f
 repeat' first
   | (with_reducible exact impl_TriplesWith.mono _ _)
   | (with_reducible exact LeO.refl _)
   | (with_reducible exact LeO.none _)
   | (with_reducible refine LeO.ite ?_ ?_)
   | (with_reducible refine LeO.bind ?_ (fun _ => ?_))
   | exact impl_TriplesWith.mono _ _
   | exact LeO.none _
   | refine LeO.ite ?_ ?_
   | refine LeO.bind ?_ (fun _ => ?_)
set_option maxHeartbeats 8000000 in
set_option maxRecDepth 100000 in
theorem impl_IsMarkovNumber.calls (k : Nat) (a0 : Int) (r1 : Bool) (r2 : Bool) (w : World) (h : impl_IsMarkovNumber.f k a0 = some (r1, r2)) :
  Calls Try.prog 9 #[.int .i64 a0] w fun e w' => e = .returned (.tuple #[.bool r1, .bool r2]) ∧ Below w.heap.size w w' := by
 have HB := Aside0.mk (Below.refl w.heap.size w)
 have H : ((impl_TriplesWith.f k a0).bind fun bt197 => (some (decide ((bt197.1.length : Int) > 0), bt197.2))) = some (r1, r2) := h
 clear h
 replace H := Option.bind_eq_some_iff.mp H
 obtain ⟨⟨t197, t198⟩, A20, H⟩ := H
 replace H : (some (decide ((t197.length : Int) > 0), t198)) = some (r1, r2) := H
 have A2 := Aside0.mk A20
 clear A20
 simp only [Option.some.injEq, Prod.mk.injEq] at H
 obtain ⟨rfl, rfl⟩ := H
 go_enter Try.func9, Try.ntmps9
 go_wp2_with (first | ((with_reducible refine gate_callee (f := 21) rfl ?_); refine goesL_ (some 8) rfl rfl Try.func21 (by kernel_rfl) rfl #[.int .i64 a0] rfl (by (try simp only [List.map_toArray, List.map_cons, List.map_nil]); first | done | rfl | (simp only [List.length_drop, List.length_take]; rfl)) ?_; (with_reducible refine (impl_TriplesWith.calls k a0 t197 t198 _ A2.out).mono ?_); rintro e w3 ⟨v199, rfl, ho0, hb⟩; refine ⟨_, rfl, ?_⟩; have n0_ := Aside0.mk (Kd.S_lower ho0 (below_size (by repeat (first | (with_reducible first | exact HB.out | apply below_alloc | apply pw_below_drewN | apply below_drew1) | exact HB.out)))); have n1_ := Aside0.mk (below_step (by repeat (first | (with_reducible first | exact HB.out | apply below_alloc | apply pw_below_drewN | apply below_drew1) | exact HB.out)) hb); clear HB; have HO200 := n0_; have HB := n1_; clear n0_ n1_; (try clear hb); (try clear hb2); (try clear hk); (try clear hi); (try clear ho0); obtain ⟨Ao4, co4, eo4⟩ := Kd.S_slice HO200.out; subst eo4))
 go_ret2
 exact ⟨by first | rfl | (simp [errW_none, errW_some] <;> rfl) | (simp [*, errW_none, errW_some] <;> rfl), by repeat (first | (with_reducible first | exact HB.out | apply below_alloc | apply pw_below_drewN | apply below_drew1) | exact HB.out)⟩

end Go.Proofs.Ytkdgpbcecnmdhaa.P

-- PFFnExactIsMarkovNumber
namespace Go.Proofs.Ytkdgpbcecnmdhaa.P
open Go.RowKit Go.Proofs.YtkdgpbcecnmdhaaW.PrintWords Go.Proofs.YtkdgpbcecnmdhaaW.PrintLast
set_option linter.unusedVariables false
set_option linter.unusedSimpArgs false

/-! ### laws_FnExactIsMarkovNumber: function 3 -/
def laws_FnExactIsMarkovNumber.f (k : Nat) (a0 : Int) : Option (Bool) := (spec_IsMarkovNumber.f k a0).bind fun bt201 => ((impl_IsMarkovNumber.f k a0).bind fun bt203 => (if (bt203.1 != bt201.1) = true then (some false) else (if (bt203.2 != bt201.2) = true then (some false) else (some true))))
theorem laws_FnExactIsMarkovNumber.mono : ∀ a0 k, LeO (laws_FnExactIsMarkovNumber.f k a0) (laws_FnExactIsMarkovNumber.f (k + 1) a0) := by
 intro a0 k
 unfold laws_FnExactIsMarkovNumber.f
 repeat' first
   | (with_reducible exact impl_IsMarkovNumber.mono _ _)
   | (with_reducible exact spec_IsMarkovNumber.mono _ _)
   | (with_reducible exact LeO.refl _)
   | (with_reducible exact LeO.none _)
   | (with_reducible refine LeO.ite ?_ ?_)
   | (with_reducible refine LeO.bind ?_ (fun _ => ?_))
   | exact impl_IsMarkovNumber.mono _ _
   | exact spec_IsMarkovNumber.mono _ _
   | exact LeO.none _
   | refine LeO.ite ?_ ?_
   | refine LeO.bind ?_ (fun _ => ?_)
set_option maxHeartbeats 8000000 in
set_option maxRecDepth 100000 in
theorem laws_FnExactIsMarkovNumber.calls (k : Nat) (a0 : Int) (r : Bool) (w : World) (h : laws_FnExactIsMarkovNumber.f k a0 = some r) :
  Calls Try.prog 3 #[.int .i64 a0] w fun e w' => e = .returned (.bool r) ∧ Below w.heap.size w w' := by
 have HB := Aside0.mk (Below.refl w.heap.size w)
 have H : ((spec_IsMarkovNumber.f k a0).bind fun bt201 => ((impl_IsMarkovNumber.f k a0).bind fun bt203 => (if (bt203.1 != bt201.1) = true then (some false) else (if (bt203.2 != bt201.2) = true then (some false) else (some true))))) = some r := h
 clear h
 replace H := Option.bind_eq_some_iff.mp H
 obtain ⟨⟨t201, t202⟩, A20, H⟩ := H
 replace H : ((impl_IsMarkovNumber.f k a0).bind fun bt203 => (if (bt203.1 != t201) = true then (some false) else (if (bt203.2 != t202) = true then (some false) else (some true)))) = some r := H
 have A2 := Aside0.mk A20
 clear A20
 replace H := Option.bind_eq_some_iff.mp H
 obtain ⟨⟨t203, t204⟩, A30, H⟩ := H
 replace H : (if (t203 != t201) = true then (some false) else (if (t204 != t202) = true then (some false) else (some true))) = some r := H
 have A3 := Aside0.mk A30
 clear A30
 by_cases c4 : (t203 != t201) = true
 ·rw [if_pos c4] at H
  have c4b0 : (t203 != t201) = true := c4
  (try (have c4b1 : decide (t203 = t201) = false := by simpa using c4))
  (try (have c4b2 : (t203 == t201) = false := by simpa using c4))
  (try (have c4b3 : ¬ (t203 = t201) := by simpa using c4))
  clear c4
  obtain rfl := Option.some.inj H
  go_enter Try.func3, Try.ntmps3
  go_wp2_with (first | ((with_reducible refine gate_callee (f := 8) rfl ?_); refine goesL_ (some 9) rfl rfl Try.func8 (by kernel_rfl) rfl #[.int .i64 a0] rfl (by (try simp only [List.map_toArray, List.map_cons, List.map_nil]); first | done | rfl | (simp only [List.length_drop, List.length_take]; rfl)) ?_; (with_reducible refine (spec_IsMarkovNumber.calls k a0 t201 t202 _ A2.out).mono ?_); rintro e w5 ⟨rfl, hb⟩; refine ⟨_, rfl, ?_⟩; have n0_ := Aside0.mk (below_step (by repeat (first | (with_reducible first | exact HB.out | apply below_alloc | apply pw_below_drewN | apply below_drew1) | exact HB.out)) hb); clear HB; have HB := n0_; clear n0_; (try clear hb); (try clear hb2); (try clear hk); (try clear hi)) | ((with_reducible refine gate_callee (f := 9) rfl ?_); refine goesL_ (some 14) rfl rfl Try.func9 (by kernel_rfl) rfl #[.int .i64 a0] rfl (by (try simp only [List.map_toArray, List.map_cons, List.map_nil]); first | done | rfl | (simp only [List.length_drop, List.length_take]; rfl)) ?_; (with_reducible refine (impl_IsMarkovNumber.calls k a0 t203 t204 _ A3.out).mono ?_); rintro e w6 ⟨rfl, hb⟩; refine ⟨_, rfl, ?_⟩; have n0_ := Aside0.mk (below_step (by repeat (first | (with_reducible first | exact HB.out | apply below_alloc | apply pw_below_drewN | apply below_drew1) | exact HB.out)) hb); clear HB; have HB := n0_; clear n0_; (try clear hb); (try clear hb2); (try clear hk); (try clear hi)))
  go_ret
  exact ⟨by first | rfl | (simp [errW_none, errW_some] <;> rfl) | (simp [*, errW_none, errW_some] <;> rfl), by repeat (first | (with_reducible first | exact HB.out | apply below_alloc | apply pw_below_drewN | apply below_drew1) | exact HB.out)⟩
 ·rw [if_neg c4] at H
  have c4b0 : (t203 != t201) = false := by simpa using c4
  (try (have c4b1 : decide (t203 = t201) = true := by simpa using c4))
  (try (have c4b2 : (t203 == t201) = true := by simpa using c4))
  clear c4
  by_cases c7 : (t204 != t202) = true
  ·rw [if_pos c7] at H
   have c7b0 : (t204 != t202) = true := c7
   (try (have c7b1 : decide (t204 = t202) = false := by simpa using c7))
   (try (have c7b2 : (t204 == t202) = false := by simpa using c7))
   (try (have c7b3 : ¬ (t204 = t202) := by simpa using c7))
   clear c7
   obtain rfl := Option.some.inj H
   go_enter Try.func3, Try.ntmps3
   go_wp2_with (first | ((with_reducible refine gate_callee (f := 8) rfl ?_); refine goesL_ (some 9) rfl rfl Try.func8 (by kernel_rfl) rfl #[.int .i64 a0] rfl (by (try simp only [List.map_toArray, List.map_cons, List.map_nil]); first | done | rfl | (simp only [List.length_drop, List.length_take]; rfl)) ?_; (with_reducible refine (spec_IsMarkovNumber.calls k a0 t201 t202 _ A2.out).mono ?_); rintro e w8 ⟨rfl, hb⟩; refine ⟨_, rfl, ?_⟩; have n0_ := Aside0.mk (below_step (by repeat (first | (with_reducible first | exact HB.out | apply below_alloc | apply pw_below_drewN | apply below_drew1) | exact HB.out)) hb); clear HB; have HB := n0_; clear n0_; (try clear hb); (try clear hb2); (try clear hk); (try clear hi)) | ((with_reducible refine gate_callee (f := 9) rfl ?_); refine goesL_ (some 14) rfl rfl Try.func9 (by kernel_rfl) rfl #[.int .i64 a0] rfl (by (try simp only [List.map_toArray, List.map_cons, List.map_nil]); first | done | rfl | (simp only [List.length_drop, List.length_take]; rfl)) ?_; (with_reducible refine (impl_IsMarkovNumber.calls k a0 t203 t204 _ A3.out).mono ?_); rintro e w9 ⟨rfl, hb⟩; refine ⟨_, rfl, ?_⟩; have n0_ := Aside0.mk (below_step (by repeat (first | (with_reducible first | exact HB.out | apply below_alloc | apply pw_below_drewN | apply below_drew1) | exact HB.out)) hb); clear HB; have HB := n0_; clear n0_; (try clear hb); (try clear hb2); (try clear hk); (try clear hi)))
   go_ret
   exact ⟨by first | rfl | (simp [errW_none, errW_some] <;> rfl) | (simp [*, errW_none, errW_some] <;> rfl), by repeat (first | (with_reducible first | exact HB.out | apply below_alloc | apply pw_below_drewN | apply below_drew1) | exact HB.out)⟩
  ·rw [if_neg c7] at H
   have c7b0 : (t204 != t202) = false := by simpa using c7
   (try (have c7b1 : decide (t204 = t202) = true := by simpa using c7))
   (try (have c7b2 : (t204 == t202) = true := by simpa using c7))
   clear c7
   obtain rfl := Option.some.inj H
   go_enter Try.func3, Try.ntmps3
   go_wp2_with (first | ((with_reducible refine gate_callee (f := 8) rfl ?_); refine goesL_ (some 9) rfl rfl Try.func8 (by kernel_rfl) rfl #[.int .i64 a0] rfl (by (try simp only [List.map_toArray, List.map_cons, List.map_nil]); first | done | rfl | (simp only [List.length_drop, List.length_take]; rfl)) ?_; (with_reducible refine (spec_IsMarkovNumber.calls k a0 t201 t202 _ A2.out).mono ?_); rintro e w10 ⟨rfl, hb⟩; refine ⟨_, rfl, ?_⟩; have n0_ := Aside0.mk (below_step (by repeat (first | (with_reducible first | exact HB.out | apply below_alloc | apply pw_below_drewN | apply below_drew1) | exact HB.out)) hb); clear HB; have HB := n0_; clear n0_; (try clear hb); (try clear hb2); (try clear hk); (try clear hi)) | ((with_reducible refine gate_callee (f := 9) rfl ?_); refine goesL_ (some 14) rfl rfl Try.func9 (by kernel_rfl) rfl #[.int .i64 a0] rfl (by (try simp only [List.map_toArray, List.map_cons, List.map_nil]); first | done | rfl | (simp only [List.length_drop, List.length_take]; rfl)) ?_; (with_reducible refine (impl_IsMarkovNumber.calls k a0 t203 t204 _ A3.out).mono ?_); rintro e w11 ⟨rfl, hb⟩; refine ⟨_, rfl, ?_⟩; have n0_ := Aside0.mk (below_step (by repeat (first | (with_reducible first | exact HB.out | apply below_alloc | apply pw_below_drewN | apply below_drew1) | exact HB.out)) hb); clear HB; have HB := n0_; clear n0_; (try clear hb); (try clear hb2); (try clear hk); (try clear hi)))
   go_ret
   exact ⟨by first | rfl | (simp [errW_none, errW_some] <;> rfl) | (simp [*, errW_none, errW_some] <;> rfl), by repeat (first | (with_reducible first | exact HB.out | apply below_alloc | apply pw_below_drewN | apply below_drew1) | exact HB.out)⟩

/-- THE ONE PURE STATEMENT of laws_FnExactIsMarkovNumber: yours. -/
def laws_FnExactIsMarkovNumber.Pure : Prop := ∀ (a0 : Int), (Lit.int .i64 a0).wf = true → ∃ k, laws_FnExactIsMarkovNumber.f k a0 = some true
theorem laws_FnExactIsMarkovNumber.walk (P : laws_FnExactIsMarkovNumber.Pure) (a0 : Int) (w : World) (w0 : (Lit.int .i64 a0).wf = true) :
  Calls Try.prog 3 #[.int .i64 a0] w fun e w' => e = .returned (.bool true) ∧ Below w.heap.size w w' := by
 obtain ⟨k, h⟩ := P a0 w0
 refine (laws_FnExactIsMarkovNumber.calls k a0 true w h).mono ?_
 rintro e w' ⟨rfl, hd⟩
 exact ⟨rfl, hd⟩

end Go.Proofs.Ytkdgpbcecnmdhaa.P

-- PFimplsolves
namespace Go.Proofs.Ytkdgpbcecnmdhaa.P
open Go.RowKit Go.Proofs.YtkdgpbcecnmdhaaW.PrintWords Go.Proofs.YtkdgpbcecnmdhaaW.PrintLast
set_option linter.unusedVariables false
set_option linter.unusedSimpArgs false

/-! ### impl_solves: function 43 -/
def impl_solves.f (l0 : List Int) : Option (Bool) := if 0 < (l0.length : Int) then (if 1 < (l0.length : Int) then (if 2 < (l0.length : Int) then (if (wrap64 ((rd l0 0) * (rd l0 1))) ≤ (wrap64 (Int.tdiv (wrap64 ((wrap64 ((wrap64 ((rd l0 0) * (rd l0 0))) + (wrap64 ((rd l0 1) * (rd l0 1))))) + (wrap64 ((rd l0 2) * (rd l0 2))))) 3)) then (if (wrap64 (3 * (wrap64 ((rd l0 0) * (rd l0 1))))) = 0 then (none) else (if (Int.tmod (wrap64 ((wrap64 ((wrap64 ((rd l0 0) * (rd l0 0))) + (wrap64 ((rd l0 1) * (rd l0 1))))) + (wrap64 ((rd l0 2) * (rd l0 2))))) (wrap64 (3 * (wrap64 ((rd l0 0) * (rd l0 1)))))) = 0 then (some ((wrap64 (Int.tdiv (wrap64 ((wrap64 ((wrap64 ((rd l0 0) * (rd l0 0))) + (wrap64 ((rd l0 1) * (rd l0 1))))) + (wrap64 ((rd l0 2) * (rd l0 2))))) (wrap64 (3 * (wrap64 ((rd l0 0) * (rd l0 1))))))) == (rd l0 2))) else (some false))) else (some false)) else (none)) else (none)) else (none)
set_option maxHeartbeats 8000000 in
set_option maxRecDepth 100000 in
theorem impl_solves.calls (A0 : Option Addr) (c0 : Nat) (l0 : List Int) (r : Bool) (w : World) (hr0 : Kd.C (Kd.int .i64) w A0 l0.length l0) (hc0 : l0.length ≤ c0) (h : impl_solves.f l0 = some r) :
  Calls Try.prog 43 #[.slice A0 l0.length c0] w fun e w' => e = .returned (.bool r) ∧ Drawn0 w w' := by
 have HR0 := Aside0.mk hr0
 have HC0 := Aside0.mk hc0
 clear hr0 hc0
 have H : (if 0 < (l0.length : Int) then (if 1 < (l0.length : Int) then (if 2 < (l0.length : Int) then (if (wrap64 ((rd l0 0) * (rd l0 1))) ≤ (wrap64 (Int.tdiv (wrap64 ((wrap64 ((wrap64 ((rd l0 0) * (rd l0 0))) + (wrap64 ((rd l0 1) * (rd l0 1))))) + (wrap64 ((rd l0 2) * (rd l0 2))))) 3)) then (if (wrap64 (3 * (wrap64 ((rd l0 0) * (rd l0 1))))) = 0 then (none) else (if (Int.tmod (wrap64 ((wrap64 ((wrap64 ((rd l0 0) * (rd l0 0))) + (wrap64 ((rd l0 1) * (rd l0 1))))) + (wrap64 ((rd l0 2) * (rd l0 2))))) (wrap64 (3 * (wrap64 ((rd l0 0) * (rd l0 1)))))) = 0 then (some ((wrap64 (Int.tdiv (wrap64 ((wrap64 ((wrap64 ((rd l0 0) * (rd l0 0))) + (wrap64 ((rd l0 1) * (rd l0 1))))) + (wrap64 ((rd l0 2) * (rd l0 2))))) (wrap64 (3 * (wrap64 ((rd l0 0) * (rd l0 1))))))) == (rd l0 2))) else (some false))) else (some false)) else (none)) else (none)) else (none)) = some r := h
 clear h
 by_cases c2 : 0 < (l0.length : Int)
 ·rw [if_pos c2] at H
  have c2b0 : decide (0 < (l0.length : Int)) = true := decide_eq_true c2
  have c2b1 : decide (0 < l0.length) = true := decide_eq_true (by omega)
  clear c2
  by_cases c3 : 1 < (l0.length : Int)
  ·rw [if_pos c3] at H
   have c3b0 : decide (1 < (l0.length : Int)) = true := decide_eq_true c3
   have c3b1 : decide (1 < l0.length) = true := decide_eq_true (by omega)
   clear c3
   by_cases c4 : 2 < (l0.length : Int)
   ·rw [if_pos c4] at H
    have c4b0 : decide (2 < (l0.length : Int)) = true := decide_eq_true c4
    have c4b1 : decide (2 < l0.length) = true := decide_eq_true (by omega)
    clear c4
    by_cases c5 : (wrap64 ((rd l0 0) * (rd l0 1))) ≤ (wrap64 (Int.tdiv (wrap64 ((wrap64 ((wrap64 ((rd l0 0) * (rd l0 0))) + (wrap64 ((rd l0 1) * (rd l0 1))))) + (wrap64 ((rd l0 2) * (rd l0 2))))) 3))
    ·rw [if_pos c5] at H
     have c5b0 : decide ((wrap64 ((rd l0 0) * (rd l0 1))) ≤ (wrap64 (Int.tdiv (wrap64 ((wrap64 ((wrap64 ((rd l0 0) * (rd l0 0))) + (wrap64 ((rd l0 1) * (rd l0 1))))) + (wrap64 ((rd l0 2) * (rd l0 2))))) 3))) = true := decide_eq_true c5
     clear c5
     by_cases c6 : (wrap64 (3 * (wrap64 ((rd l0 0) * (rd l0 1))))) = 0
     ·rw [if_pos c6] at H
      exact absurd H (by simp)
     ·rw [if_neg c6] at H
      have c6b0 : ((wrap64 (3 * (wrap64 ((rd l0 0) * (rd l0 1))))) == 0) = false := beq_eq_false_iff_ne.mpr c6
      have c6b1 : ((wrap64 (3 * (wrap64 ((rd l0 0) * (rd l0 1))))) != 0) = true := bne_iff_ne.mpr c6
      by_cases c7 : (Int.tmod (wrap64 ((wrap64 ((wrap64 ((rd l0 0) * (rd l0 0))) + (wrap64 ((rd l0 1) * (rd l0 1))))) + (wrap64 ((rd l0 2) * (rd l0 2))))) (wrap64 (3 * (wrap64 ((rd l0 0) * (rd l0 1)))))) = 0
      ·rw [if_pos c7] at H
       have c7b0 : ((Int.tmod (wrap64 ((wrap64 ((wrap64 ((rd l0 0) * (rd l0 0))) + (wrap64 ((rd l0 1) * (rd l0 1))))) + (wrap64 ((rd l0 2) * (rd l0 2))))) (wrap64 (3 * (wrap64 ((rd l0 0) * (rd l0 1)))))) == 0) = true := beq_iff_eq.mpr c7
       have c7b1 : ((Int.tmod (wrap64 ((wrap64 ((wrap64 ((rd l0 0) * (rd l0 0))) + (wrap64 ((rd l0 1) * (rd l0 1))))) + (wrap64 ((rd l0 2) * (rd l0 2))))) (wrap64 (3 * (wrap64 ((rd l0 0) * (rd l0 1)))))) != 0) = false := bne_eq_false_iff_eq.mpr c7
       clear c7
       obtain rfl := Option.some.inj H
       have p345 : 0 ≤ (0 : Int) := (by omega)
       have q345 : 0 < (l0.length : Int) := of_decide_eq_true (by first | (with_reducible assumption) | assumption)
       obtain ⟨ad345, e345, hx345_0⟩ := Kd.at_int HR0.out 0 p345 q345
       cases e345
       have qi345 : (0 < l0.length) = True := eq_true (by omega)
       (try rw [show ((0 : Int)).toNat = 0 from rfl] at hx345_0)
       (try rw [Addr.add_zero'] at hx345_0)
       replace p345 := eq_true p345
       replace q345 := eq_true q345
       have p346 : 0 ≤ (0 : Int) := (by omega)
       have q346 : 0 < (l0.length : Int) := of_decide_eq_true (by first | (with_reducible assumption) | assumption)
       obtain ⟨ad346, e346, hx346_0⟩ := Kd.at_int HR0.out 0 p346 q346
       obtain rfl : ad345 = ad346 := (by injection e346)
       have qi346 : (0 < l0.length) = True := eq_true (by omega)
       (try rw [show ((0 : Int)).toNat = 0 from rfl] at hx346_0)
       (try rw [Addr.add_zero'] at hx346_0)
       replace p346 := eq_true p346
       replace q346 := eq_true q346
       have p347 : 0 ≤ (1 : Int) := (by omega)
       have q347 : 1 < (l0.length : Int) := of_decide_eq_true (by first | (with_reducible assumption) | assumption)
       obtain ⟨ad347, e347, hx347_0⟩ := Kd.at_int HR0.out 1 p347 q347
       obtain rfl : ad345 = ad347 := (by injection e347)
       (try simp only [show (1 : Int).toNat = 1 from rfl, Nat.reduceMul, Nat.reduceEqDiff, Go.Addr.add, ↓reduceIte] at hx347_0)
       have qi347 : (1 < l0.length) = True := eq_true (by omega)
       (try rw [show ((1 : Int)).toNat = 1 from rfl] at hx347_0)
       replace p347 := eq_true p347
       replace q347 := eq_true q347
       have p348 : 0 ≤ (1 : Int) := (by omega)
       have q348 : 1 < (l0.length : Int) := of_decide_eq_true (by first | (with_reducible assumption) | assumption)
       obtain ⟨ad348, e348, hx348_0⟩ := Kd.at_int HR0.out 1 p348 q348
       obtain rfl : ad345 = ad348 := (by injection e348)
       (try simp only [show (1 : Int).toNat = 1 from rfl, Nat.reduceMul, Nat.reduceEqDiff, Go.Addr.add, ↓reduceIte] at hx348_0)
       have qi348 : (1 < l0.length) = True := eq_true (by omega)
       (try rw [show ((1 : Int)).toNat = 1 from rfl] at hx348_0)
       replace p348 := eq_true p348
       replace q348 := eq_true q348
       have p349 : 0 ≤ (2 : Int) := (by omega)
       have q349 : 2 < (l0.length : Int) := of_decide_eq_true (by first | (with_reducible assumption) | assumption)
       obtain ⟨ad349, e349, hx349_0⟩ := Kd.at_int HR0.out 2 p349 q349
       obtain rfl : ad345 = ad349 := (by injection e349)
       (try simp only [show (2 : Int).toNat = 2 from rfl, Nat.reduceMul, Nat.reduceEqDiff, Go.Addr.add, ↓reduceIte] at hx349_0)
       have qi349 : (2 < l0.length) = True := eq_true (by omega)
       (try rw [show ((2 : Int)).toNat = 2 from rfl] at hx349_0)
       replace p349 := eq_true p349
       replace q349 := eq_true q349
       have p350 : 0 ≤ (2 : Int) := (by omega)
       have q350 : 2 < (l0.length : Int) := of_decide_eq_true (by first | (with_reducible assumption) | assumption)
       obtain ⟨ad350, e350, hx350_0⟩ := Kd.at_int HR0.out 2 p350 q350
       obtain rfl : ad345 = ad350 := (by injection e350)
       (try simp only [show (2 : Int).toNat = 2 from rfl, Nat.reduceMul, Nat.reduceEqDiff, Go.Addr.add, ↓reduceIte] at hx350_0)
       have qi350 : (2 < l0.length) = True := eq_true (by omega)
       (try rw [show ((2 : Int)).toNat = 2 from rfl] at hx350_0)
       replace p350 := eq_true p350
       replace q350 := eq_true q350
       have p351 : 0 ≤ (0 : Int) := (by omega)
       have q351 : 0 < (l0.length : Int) := of_decide_eq_true (by first | (with_reducible assumption) | assumption)
       obtain ⟨ad351, e351, hx351_0⟩ := Kd.at_int HR0.out 0 p351 q351
       obtain rfl : ad345 = ad351 := (by injection e351)
       have qi351 : (0 < l0.length) = True := eq_true (by omega)
       (try rw [show ((0 : Int)).toNat = 0 from rfl] at hx351_0)
       (try rw [Addr.add_zero'] at hx351_0)
       replace p351 := eq_true p351
       replace q351 := eq_true q351
       have p352 : 0 ≤ (1 : Int) := (by omega)
       have q352 : 1 < (l0.length : Int) := of_decide_eq_true (by first | (with_reducible assumption) | assumption)
       obtain ⟨ad352, e352, hx352_0⟩ := Kd.at_int HR0.out 1 p352 q352
       obtain rfl : ad345 = ad352 := (by injection e352)
       (try simp only [show (1 : Int).toNat = 1 from rfl, Nat.reduceMul, Nat.reduceEqDiff, Go.Addr.add, ↓reduceIte] at hx352_0)
       have qi352 : (1 < l0.length) = True := eq_true (by omega)
       (try rw [show ((1 : Int)).toNat = 1 from rfl] at hx352_0)
       replace p352 := eq_true p352
       replace q352 := eq_true q352
       have p353 : 0 ≤ (2 : Int) := (by omega)
       have q353 : 2 < (l0.length : Int) := of_decide_eq_true (by first | (with_reducible assumption) | assumption)
       obtain ⟨ad353, e353, hx353_0⟩ := Kd.at_int HR0.out 2 p353 q353
       obtain rfl : ad345 = ad353 := (by injection e353)
       (try simp only [show (2 : Int).toNat = 2 from rfl, Nat.reduceMul, Nat.reduceEqDiff, Go.Addr.add, ↓reduceIte] at hx353_0)
       have qi353 : (2 < l0.length) = True := eq_true (by omega)
       (try rw [show ((2 : Int)).toNat = 2 from rfl] at hx353_0)
       replace p353 := eq_true p353
       replace q353 := eq_true q353
       go_enter Try.func43, Try.ntmps43
       go_wp2
       repeat (go_quiet (fail); try go_wp2)
       go_ret
       exact ⟨by first | rfl | (simp; done) | (simp [*]; done), by repeat (first | exact Drawn0.refl _ | apply Drawn0.step)⟩
      ·rw [if_neg c7] at H
       have c7b0 : ((Int.tmod (wrap64 ((wrap64 ((wrap64 ((rd l0 0) * (rd l0 0))) + (wrap64 ((rd l0 1) * (rd l0 1))))) + (wrap64 ((rd l0 2) * (rd l0 2))))) (wrap64 (3 * (wrap64 ((rd l0 0) * (rd l0 1)))))) == 0) = false := beq_eq_false_iff_ne.mpr c7
       have c7b1 : ((Int.tmod (wrap64 ((wrap64 ((wrap64 ((rd l0 0) * (rd l0 0))) + (wrap64 ((rd l0 1) * (rd l0 1))))) + (wrap64 ((rd l0 2) * (rd l0 2))))) (wrap64 (3 * (wrap64 ((rd l0 0) * (rd l0 1)))))) != 0) = true := bne_iff_ne.mpr c7
       obtain rfl := Option.some.inj H
       have p345 : 0 ≤ (0 : Int) := (by omega)
       have q345 : 0 < (l0.length : Int) := of_decide_eq_true (by first | (with_reducible assumption) | assumption)
       obtain ⟨ad345, e345, hx345_0⟩ := Kd.at_int HR0.out 0 p345 q345
       cases e345
       have qi345 : (0 < l0.length) = True := eq_true (by omega)
       (try rw [show ((0 : Int)).toNat = 0 from rfl] at hx345_0)
       (try rw [Addr.add_zero'] at hx345_0)
       replace p345 := eq_true p345
       replace q345 := eq_true q345
       have p346 : 0 ≤ (0 : Int) := (by omega)
       have q346 : 0 < (l0.length : Int) := of_decide_eq_true (by first | (with_reducible assumption) | assumption)
       obtain ⟨ad346, e346, hx346_0⟩ := Kd.at_int HR0.out 0 p346 q346
       obtain rfl : ad345 = ad346 := (by injection e346)
       have qi346 : (0 < l0.length) = True := eq_true (by omega)
       (try rw [show ((0 : Int)).toNat = 0 from rfl] at hx346_0)
       (try rw [Addr.add_zero'] at hx346_0)
       replace p346 := eq_true p346
       replace q346 := eq_true q346
       have p347 : 0 ≤ (1 : Int) := (by omega)
       have q347 : 1 < (l0.length : Int) := of_decide_eq_true (by first | (with_reducible assumption) | assumption)
       obtain ⟨ad347, e347, hx347_0⟩ := Kd.at_int HR0.out 1 p347 q347
       obtain rfl : ad345 = ad347 := (by injection e347)
       (try simp only [show (1 : Int).toNat = 1 from rfl, Nat.reduceMul, Nat.reduceEqDiff, Go.Addr.add, ↓reduceIte] at hx347_0)
       have qi347 : (1 < l0.length) = True := eq_true (by omega)
       (try rw [show ((1 : Int)).toNat = 1 from rfl] at hx347_0)
       replace p347 := eq_true p347
       replace q347 := eq_true q347
       have p348 : 0 ≤ (1 : Int) := (by omega)
       have q348 : 1 < (l0.length : Int) := of_decide_eq_true (by first | (with_reducible assumption) | assumption)
       obtain ⟨ad348, e348, hx348_0⟩ := Kd.at_int HR0.out 1 p348 q348
       obtain rfl : ad345 = ad348 := (by injection e348)
       (try simp only [show (1 : Int).toNat = 1 from rfl, Nat.reduceMul, Nat.reduceEqDiff, Go.Addr.add, ↓reduceIte] at hx348_0)
       have qi348 : (1 < l0.length) = True := eq_true (by omega)
       (try rw [show ((1 : Int)).toNat = 1 from rfl] at hx348_0)
       replace p348 := eq_true p348
       replace q348 := eq_true q348
       have p349 : 0 ≤ (2 : Int) := (by omega)
       have q349 : 2 < (l0.length : Int) := of_decide_eq_true (by first | (with_reducible assumption) | assumption)
       obtain ⟨ad349, e349, hx349_0⟩ := Kd.at_int HR0.out 2 p349 q349
       obtain rfl : ad345 = ad349 := (by injection e349)
       (try simp only [show (2 : Int).toNat = 2 from rfl, Nat.reduceMul, Nat.reduceEqDiff, Go.Addr.add, ↓reduceIte] at hx349_0)
       have qi349 : (2 < l0.length) = True := eq_true (by omega)
       (try rw [show ((2 : Int)).toNat = 2 from rfl] at hx349_0)
       replace p349 := eq_true p349
       replace q349 := eq_true q349
       have p350 : 0 ≤ (2 : Int) := (by omega)
       have q350 : 2 < (l0.length : Int) := of_decide_eq_true (by first | (with_reducible assumption) | assumption)
       obtain ⟨ad350, e350, hx350_0⟩ := Kd.at_int HR0.out 2 p350 q350
       obtain rfl : ad345 = ad350 := (by injection e350)
       (try simp only [show (2 : Int).toNat = 2 from rfl, Nat.reduceMul, Nat.reduceEqDiff, Go.Addr.add, ↓reduceIte] at hx350_0)
       have qi350 : (2 < l0.length) = True := eq_true (by omega)
       (try rw [show ((2 : Int)).toNat = 2 from rfl] at hx350_0)
       replace p350 := eq_true p350
       replace q350 := eq_true q350
       have p351 : 0 ≤ (0 : Int) := (by omega)
       have q351 : 0 < (l0.length : Int) := of_decide_eq_true (by first | (with_reducible assumption) | assumption)
       obtain ⟨ad351, e351, hx351_0⟩ := Kd.at_int HR0.out 0 p351 q351
       obtain rfl : ad345 = ad351 := (by injection e351)
       have qi351 : (0 < l0.length) = True := eq_true (by omega)
       (try rw [show ((0 : Int)).toNat = 0 from rfl] at hx351_0)
       (try rw [Addr.add_zero'] at hx351_0)
       replace p351 := eq_true p351
       replace q351 := eq_true q351
       have p352 : 0 ≤ (1 : Int) := (by omega)
       have q352 : 1 < (l0.length : Int) := of_decide_eq_true (by first | (with_reducible assumption) | assumption)
       obtain ⟨ad352, e352, hx352_0⟩ := Kd.at_int HR0.out 1 p352 q352
       obtain rfl : ad345 = ad352 := (by injection e352)
       (try simp only [show (1 : Int).toNat = 1 from rfl, Nat.reduceMul, Nat.reduceEqDiff, Go.Addr.add, ↓reduceIte] at hx352_0)
       have qi352 : (1 < l0.length) = True := eq_true (by omega)
       (try rw [show ((1 : Int)).toNat = 1 from rfl] at hx352_0)
       replace p352 := eq_true p352
       replace q352 := eq_true q352
       go_enter Try.func43, Try.ntmps43
       go_wp2
       repeat (go_quiet (fail); try go_wp2)
       go_ret
       exact ⟨by first | rfl | (simp; done) | (simp [*]; done), by repeat (first | exact Drawn0.refl _ | apply Drawn0.step)⟩
    ·rw [if_neg c5] at H
     have c5b0 : decide ((wrap64 ((rd l0 0) * (rd l0 1))) ≤ (wrap64 (Int.tdiv (wrap64 ((wrap64 ((wrap64 ((rd l0 0) * (rd l0 0))) + (wrap64 ((rd l0 1) * (rd l0 1))))) + (wrap64 ((rd l0 2) * (rd l0 2))))) 3))) = false := decide_eq_false c5
     clear c5
     obtain rfl := Option.some.inj H
     have p345 : 0 ≤ (0 : Int) := (by omega)
     have q345 : 0 < (l0.length : Int) := of_decide_eq_true (by first | (with_reducible assumption) | assumption)
     obtain ⟨ad345, e345, hx345_0⟩ := Kd.at_int HR0.out 0 p345 q345
     cases e345
     have qi345 : (0 < l0.length) = True := eq_true (by omega)
     (try rw [show ((0 : Int)).toNat = 0 from rfl] at hx345_0)
     (try rw [Addr.add_zero'] at hx345_0)
     replace p345 := eq_true p345
     replace q345 := eq_true q345
     have p346 : 0 ≤ (0 : Int) := (by omega)
     have q346 : 0 < (l0.length : Int) := of_decide_eq_true (by first | (with_reducible assumption) | assumption)
     obtain ⟨ad346, e346, hx346_0⟩ := Kd.at_int HR0.out 0 p346 q346
     obtain rfl : ad345 = ad346 := (by injection e346)
     have qi346 : (0 < l0.length) = True := eq_true (by omega)
     (try rw [show ((0 : Int)).toNat = 0 from rfl] at hx346_0)
     (try rw [Addr.add_zero'] at hx346_0)
     replace p346 := eq_true p346
     replace q346 := eq_true q346
     have p347 : 0 ≤ (1 : Int) := (by omega)
     have q347 : 1 < (l0.length : Int) := of_decide_eq_true (by first | (with_reducible assumption) | assumption)
     obtain ⟨ad347, e347, hx347_0⟩ := Kd.at_int HR0.out 1 p347 q347
     obtain rfl : ad345 = ad347 := (by injection e347)
     (try simp only [show (1 : Int).toNat = 1 from rfl, Nat.reduceMul, Nat.reduceEqDiff, Go.Addr.add, ↓reduceIte] at hx347_0)
     have qi347 : (1 < l0.length) = True := eq_true (by omega)
     (try rw [show ((1 : Int)).toNat = 1 from rfl] at hx347_0)
     replace p347 := eq_true p347
     replace q347 := eq_true q347
     have p348 : 0 ≤ (1 : Int) := (by omega)
     have q348 : 1 < (l0.length : Int) := of_decide_eq_true (by first | (with_reducible assumption) | assumption)
     obtain ⟨ad348, e348, hx348_0⟩ := Kd.at_int HR0.out 1 p348 q348
     obtain rfl : ad345 = ad348 := (by injection e348)
     (try simp only [show (1 : Int).toNat = 1 from rfl, Nat.reduceMul, Nat.reduceEqDiff, Go.Addr.add, ↓reduceIte] at hx348_0)
     have qi348 : (1 < l0.length) = True := eq_true (by omega)
     (try rw [show ((1 : Int)).toNat = 1 from rfl] at hx348_0)
     replace p348 := eq_true p348
     replace q348 := eq_true q348
     have p349 : 0 ≤ (2 : Int) := (by omega)
     have q349 : 2 < (l0.length : Int) := of_decide_eq_true (by first | (with_reducible assumption) | assumption)
     obtain ⟨ad349, e349, hx349_0⟩ := Kd.at_int HR0.out 2 p349 q349
     obtain rfl : ad345 = ad349 := (by injection e349)
     (try simp only [show (2 : Int).toNat = 2 from rfl, Nat.reduceMul, Nat.reduceEqDiff, Go.Addr.add, ↓reduceIte] at hx349_0)
     have qi349 : (2 < l0.length) = True := eq_true (by omega)
     (try rw [show ((2 : Int)).toNat = 2 from rfl] at hx349_0)
     replace p349 := eq_true p349
     replace q349 := eq_true q349
     have p350 : 0 ≤ (2 : Int) := (by omega)
     have q350 : 2 < (l0.length : Int) := of_decide_eq_true (by first | (with_reducible assumption) | assumption)
     obtain ⟨ad350, e350, hx350_0⟩ := Kd.at_int HR0.out 2 p350 q350
     obtain rfl : ad345 = ad350 := (by injection e350)
     (try simp only [show (2 : Int).toNat = 2 from rfl, Nat.reduceMul, Nat.reduceEqDiff, Go.Addr.add, ↓reduceIte] at hx350_0)
     have qi350 : (2 < l0.length) = True := eq_true (by omega)
     (try rw [show ((2 : Int)).toNat = 2 from rfl] at hx350_0)
     replace p350 := eq_true p350
     replace q350 := eq_true q350
     have p351 : 0 ≤ (0 : Int) := (by omega)
     have q351 : 0 < (l0.length : Int) := of_decide_eq_true (by first | (with_reducible assumption) | assumption)
     obtain ⟨ad351, e351, hx351_0⟩ := Kd.at_int HR0.out 0 p351 q351
     obtain rfl : ad345 = ad351 := (by injection e351)
     have qi351 : (0 < l0.length) = True := eq_true (by omega)
     (try rw [show ((0 : Int)).toNat = 0 from rfl] at hx351_0)
     (try rw [Addr.add_zero'] at hx351_0)
     replace p351 := eq_true p351
     replace q351 := eq_true q351
     have p352 : 0 ≤ (1 : Int) := (by omega)
     have q352 : 1 < (l0.length : Int) := of_decide_eq_true (by first | (with_reducible assumption) | assumption)
     obtain ⟨ad352, e352, hx352_0⟩ := Kd.at_int HR0.out 1 p352 q352
     obtain rfl : ad345 = ad352 := (by injection e352)
     (try simp only [show (1 : Int).toNat = 1 from rfl, Nat.reduceMul, Nat.reduceEqDiff, Go.Addr.add, ↓reduceIte] at hx352_0)
     have qi352 : (1 < l0.length) = True := eq_true (by omega)
     (try rw [show ((1 : Int)).toNat = 1 from rfl] at hx352_0)
     replace p352 := eq_true p352
     replace q352 := eq_true q352
     go_enter Try.func43, Try.ntmps43
     go_wp2
     repeat (go_quiet (fail); try go_wp2)
     go_ret
     exact ⟨by first | rfl | (simp; done) | (simp [*]; done), by repeat (first | exact Drawn0.refl _ | apply Drawn0.step)⟩
   ·rw [if_neg c4] at H
    exact absurd H (by simp)
  ·rw [if_neg c3] at H
   exact absurd H (by simp)
 ·rw [if_neg c2] at H
  exact absurd H (by simp)

end Go.Proofs.Ytkdgpbcecnmdhaa.P

-- PFimplareThree
namespace Go.Proofs.Ytkdgpbcecnmdhaa.P
open Go.RowKit Go.Proofs.YtkdgpbcecnmdhaaW.PrintWords Go.Proofs.YtkdgpbcecnmdhaaW.PrintLast
set_option linter.unusedVariables false
set_option linter.unusedSimpArgs false

/-! ### impl_areThree: function 41 -/
def impl_areThree.f (l0 : List Int) : Option (Bool) := if (l0.length : Int) = 3 then ((impl_allWithin.f l0 1 1000000000).bind fun t339 => (some t339)) else (some false)
set_option maxHeartbeats 8000000 in
set_option maxRecDepth 100000 in
theorem impl_areThree.calls (A0 : Option Addr) (c0 : Nat) (l0 : List Int) (r : Bool) (w : World) (hr0 : Kd.C (Kd.int .i64) w A0 l0.length l0) (hc0 : l0.length ≤ c0) (h : impl_areThree.f l0 = some r) :
  Calls Try.prog 41 #[.slice A0 l0.length c0] w fun e w' => e = .returned (.bool r) ∧ Below w.heap.size w w' := by
 have HR0 := Aside0.mk hr0
 have HC0 := Aside0.mk hc0
 clear hr0 hc0
 have HB := Aside0.mk (Below.refl w.heap.size w)
 have H : (if (l0.length : Int) = 3 then ((impl_allWithin.f l0 1 1000000000).bind fun t339 => (some t339)) else (some false)) = some r := h
 clear h
 by_cases c2 : (l0.length : Int) = 3
 ·rw [if_pos c2] at H
  have c2b0 : ((l0.length : Int) == 3) = true := beq_iff_eq.mpr c2
  have c2b1 : ((l0.length : Int) != 3) = false := bne_eq_false_iff_eq.mpr c2
  clear c2
  replace H := Option.bind_eq_some_iff.mp H
  obtain ⟨t339, A30, H⟩ := H
  replace H : (some t339) = some r := H
  have A3 := Aside0.mk A30
  clear A30
  obtain rfl := Option.some.inj H
  go_enter Try.func41, Try.ntmps41
  go_wp2_with (first | (go_at_call 55; (with_reducible refine (impl_allWithin.calls _ _ l0 1 1000000000 t339 _ ?side1 ?side2 A3.out).mono ?_); (case side1 => repeat (first | exact HR0.out | (with_reducible refine Kd.C_alloc ?_ _) | (with_reducible refine Kd.C_drewN ?_ _) | (with_reducible refine Kd.C_drew ?_))); (case side2 => exact HC0.out); rintro e w4 ⟨rfl, hb⟩; have n0_ := Aside0.mk (below_step (by repeat (first | (with_reducible first | exact HB.out | apply below_alloc | apply pw_below_drewN | apply below_drew1) | exact HB.out)) hb); clear HB; have HB := n0_; clear n0_; (try clear hb); (try clear hb2); (try clear hk); (try clear hi)))
  go_ret
  exact ⟨by first | rfl | (simp [errW_none, errW_some] <;> rfl) | (simp [*, errW_none, errW_some] <;> rfl), by repeat (first | (with_reducible first | exact HB.out | apply below_alloc | apply pw_below_drewN | apply below_drew1) | exact HB.out)⟩
 ·rw [if_neg c2] at H
  have c2b0 : ((l0.length : Int) == 3) = false := beq_eq_false_iff_ne.mpr c2
  have c2b1 : ((l0.length : Int) != 3) = true := bne_iff_ne.mpr c2
  obtain rfl := Option.some.inj H
  go_enter Try.func41, Try.ntmps41
  go_wp2
  go_ret
  exact ⟨by first | rfl | (simp [errW_none, errW_some] <;> rfl) | (simp [*, errW_none, errW_some] <;> rfl), by repeat (first | (with_reducible first | exact HB.out | apply below_alloc | apply pw_below_drewN | apply below_drew1) | exact HB.out)⟩

end Go.Proofs.Ytkdgpbcecnmdhaa.P

-- PFcmpLessint
namespace Go.Proofs.Ytkdgpbcecnmdhaa.P
open Go.RowKit Go.Proofs.YtkdgpbcecnmdhaaW.PrintWords Go.Proofs.YtkdgpbcecnmdhaaW.PrintLast
set_option linter.unusedVariables false
set_option linter.unusedSimpArgs false

/-! ### cmp_Less_int: function 56 -/
def cmp_Less_int.f (a0 : Int) (a1 : Int) : Option (Bool) := (cmp_isNaN_int.f a0).bind fun t340 => (if t340 = true then ((cmp_isNaN_int.f a1).bind fun t341 => (if t341 = true then (some (decide (a0 < a1))) else (some true))) else (some (decide (a0 < a1))))
set_option maxHeartbeats 8000000 in
set_option maxRecDepth 100000 in
theorem cmp_Less_int.calls (a0 : Int) (a1 : Int) (r : Bool) (w : World) (h : cmp_Less_int.f a0 a1 = some r) :
  Calls Try.prog 56 #[.int .i64 a0, .int .i64 a1] w fun e w' => e = .returned (.bool r) ∧ Drawn0 w w' := by
 have H : ((cmp_isNaN_int.f a0).bind fun t340 => (if t340 = true then ((cmp_isNaN_int.f a1).bind fun t341 => (if t341 = true then (some (decide (a0 < a1))) else (some true))) else (some (decide (a0 < a1))))) = some r := h
 clear h
 replace H := Option.bind_eq_some_iff.mp H
 obtain ⟨t340, A30, H⟩ := H
 replace H : (if t340 = true then ((cmp_isNaN_int.f a1).bind fun t341 => (if t341 = true then (some (decide (a0 < a1))) else (some true))) else (some (decide (a0 < a1)))) = some r := H
 have A3 := Aside0.mk A30
 clear A30
 by_cases c4 : t340 = true
 ·subst c4
  have H1 : ((cmp_isNaN_int.f a1).bind fun t341 => (if t341 = true then (some (decide (a0 < a1))) else (some true))) = some r := by rw [if_pos rfl] at H; exact H
  clear H
  have H := H1
  clear H1
  replace H := Option.bind_eq_some_iff.mp H
  obtain ⟨t341, A50, H⟩ := H
  replace H : (if t341 = true then (some (decide (a0 < a1))) else (some true)) = some r := H
  have A5 := Aside0.mk A50
  clear A50
  by_cases c6 : t341 = true
  ·subst c6
   have H1 : (some (decide (a0 < a1))) = some r := by rw [if_pos rfl] at H; exact H
   clear H
   have H := H1
   clear H1
   obtain rfl := Option.some.inj H
   go_enter Try.func56, Try.ntmps56
   go_wp2_with (first | ((with_reducible refine gate_callee (f := 71) rfl ?_); refine goesL_ (some 6) rfl rfl Try.func71 (by kernel_rfl) rfl #[.int .i64 a0] rfl (by (try simp only [List.map_toArray, List.map_cons, List.map_nil]); first | done | rfl | (simp only [List.length_drop, List.length_take]; rfl)) ?_; (with_reducible refine (cmp_isNaN_int.calls a0 true _ A3.out).mono ?_); rintro e w' ⟨rfl, ⟨nd, rfl⟩⟩; refine ⟨_, rfl, ?_⟩) | (go_at_call 71; (with_reducible refine (cmp_isNaN_int.calls a1 true _ A5.out).mono ?_); rintro e w' ⟨rfl, ⟨nd, rfl⟩⟩))
   go_ret
   exact ⟨by first | rfl | (simp; done) | (simp [*]; done), by repeat (first | exact Drawn0.refl _ | apply Drawn0.step)⟩
  ·replace c6 := Bool.eq_false_iff.mpr c6
   subst c6
   have H1 : (some true) = some r := by rw [if_neg (show ¬ (false = true) by decide)] at H; exact H
   clear H
   have H := H1
   clear H1
   obtain rfl := Option.some.inj H
   go_enter Try.func56, Try.ntmps56
   go_wp2_with (first | ((with_reducible refine gate_callee (f := 71) rfl ?_); refine goesL_ (some 6) rfl rfl Try.func71 (by kernel_rfl) rfl #[.int .i64 a0] rfl (by (try simp only [List.map_toArray, List.map_cons, List.map_nil]); first | done | rfl | (simp only [List.length_drop, List.length_take]; rfl)) ?_; (with_reducible refine (cmp_isNaN_int.calls a0 true _ A3.out).mono ?_); rintro e w' ⟨rfl, ⟨nd, rfl⟩⟩; refine ⟨_, rfl, ?_⟩) | (go_at_call 71; (with_reducible refine (cmp_isNaN_int.calls a1 false _ A5.out).mono ?_); rintro e w' ⟨rfl, ⟨nd, rfl⟩⟩))
   go_ret
   exact ⟨by first | rfl | (simp; done) | (simp [*]; done), by repeat (first | exact Drawn0.refl _ | apply Drawn0.step)⟩
 ·replace c4 := Bool.eq_false_iff.mpr c4
  subst c4
  have H1 : (some (decide (a0 < a1))) = some r := by rw [if_neg (show ¬ (false = true) by decide)] at H; exact H
  clear H
  have H := H1
  clear H1
  obtain rfl := Option.some.inj H
  go_enter Try.func56, Try.ntmps56
  go_wp2_with (first | ((with_reducible refine gate_callee (f := 71) rfl ?_); refine goesL_ (some 6) rfl rfl Try.func71 (by kernel_rfl) rfl #[.int .i64 a0] rfl (by (try simp only [List.map_toArray, List.map_cons, List.map_nil]); first | done | rfl | (simp only [List.length_drop, List.length_take]; rfl)) ?_; (with_reducible refine (cmp_isNaN_int.calls a0 false _ A3.out).mono ?_); rintro e w' ⟨rfl, ⟨nd, rfl⟩⟩; refine ⟨_, rfl, ?_⟩))
  go_ret
  exact ⟨by first | rfl | (simp; done) | (simp [*]; done), by repeat (first | exact Drawn0.refl _ | apply Drawn0.step)⟩

end Go.Proofs.Ytkdgpbcecnmdhaa.P
