/- What is reached by jumps up is told in order and closed under them, and nothing in it has a less sum than where it begins. No condition. -/
import Derived.Test.YtgpoljimomfbbaaPackFnTreesOfHurwitz5
import Derived.Shelf.RegionOpenPlain
import Derived.WalkKit
import Derived.Deep.LoopGhost
import Derived.Deep.Draws
import Derived.Lib.Walk
import Derived.Sort.WalkB12
import Derived.Lib.SliceRun
import Derived.Lib.SlKept
import Derived.Shelf.SlicesE.Kit
import Derived.Sort.WalkA
import Derived.Test.YtgpoljimomfbbaaLib
import Derived.Shelf.SlSortCmp.NoneTotal
-- UrowsCompact
namespace Go.Proofs.Ytgpoljimomfbbaa.P
set_option linter.unusedVariables false
set_option linter.unusedSimpArgs false
open Go.Shelf Go.Lib Go.Sort Go.RowKit Go.Proofs.YtgpoljimomfbbaaW.PrintWords Go.Proofs.YtgpoljimomfbbaaW.PrintLast

/-- Which places are kept. -/
def kpOf {α : Type} [Inhabited α] (p : α → α → Bool) (d : Array α) (j : Nat) : Bool := j == 0 || !p d[j]! d[j - 1]!

set_option maxHeartbeats 4000000 in
set_option maxRecDepth 1000000 in
theorem compact_walk {α : Type} [Inhabited α] (enc : α → Value) (hO : OneCell enc) (p : α → α → Bool) (zr : α) (hz : enc zr = .slice none 0 0) (blk off cap : Nat) (d : Array α) (w : World)
    (hp : ∀ (dk : Array α) (u v : α) (q : Nat), dk.size = d.size → Calls Try.prog 61 #[enc u, enc v] (putRow enc (Sort.ahead w q) blk off dk) fun e w' => e = .returned (.bool (p u v)) ∧ ∃ qq, w' = (putRow enc (Sort.ahead w q) blk off dk).drewN qq)
    (hH : Holds enc w blk off d) (hsz : d.size ≤ 9223372036854775807) (hcap : d.size ≤ cap) :
    Calls Try.prog 93 #[.slice (some ⟨blk, off, none⟩) d.size cap, .func (.func 61) #[] #[]] w fun e w' => e = .returned (.slice (some ⟨blk, off, none⟩) (keptUpTo (kpOf p d) d d.size).length cap) ∧ ∃ q, w' = putRow enc (Sort.ahead w q) blk off (keptUpTo (kpOf p d) d d.size ++ List.replicate (d.size - (keptUpTo (kpOf p d) d d.size).length) zr).toArray := by
  have eg : ∀ args w, (callFunc 61 args).run Try.prog w = .ok (.enter 61 args) w := fun args w => enters_of Try.func61 (by kernel_rfl) rfl args w
  have t39 := Try.underlying23
  have t22 := Try.underlying22
  have hcl0 := hO.cells
  simp only [Value.cells] at hcl0
  have hst := hO.store Try.prog
  obtain ⟨kp, HK⟩ : ∃ kp : Nat → Bool, Hid (kp = kpOf p d) := ⟨_, rfl⟩
  rw [← HK.out]
  have hk0 : kp 0 = true := by rw [HK.out]; rfl
  have same : ∀ q, (∀ j, j < d.size → kp j = true) → (keptUpTo kp d d.size).length = d.size ∧ putRow enc (Sort.ahead w q) blk off d = putRow enc (Sort.ahead w q) blk off (keptUpTo kp d d.size ++ List.replicate (d.size - (keptUpTo kp d d.size).length) zr).toArray := by
    intro q hall
    have e : keptUpTo kp d d.size = d.toList := by rw [keptUpTo_all kp d _ hall, range_map_get]
    rw [e]
    refine ⟨by simp, ?_⟩
    simp only [Array.length_toList, Nat.sub_self, List.replicate_zero, List.append_nil, Array.toArray_toList]
  have HS : Aside (∀ q, (∀ j, j < d.size → kp j = true) → (keptUpTo kp d d.size).length = d.size ∧ putRow enc (Sort.ahead w q) blk off d = putRow enc (Sort.ahead w q) blk off (keptUpTo kp d d.size ++ List.replicate (d.size - (keptUpTo kp d d.size).length) zr).toArray) := same
  have HP : Aside (∀ (dk : Array α) (u v : α) (q : Nat), dk.size = d.size → Calls Try.prog 61 #[enc u, enc v] (putRow enc (Sort.ahead w q) blk off dk) fun e w' => e = .returned (.bool (p u v)) ∧ ∃ qq, w' = (putRow enc (Sort.ahead w q) blk off dk).drewN qq) := hp
  have HH : Aside (Holds enc w blk off d) := hH
  have ZR : Aside (enc zr = .slice none 0 0) := hz
  have HCL : Aside (OneCell enc) := hO
  clear same hp hH hz hO
  by_cases h2 : d.size < 2
  · have hsm : Aside (∀ j, j < d.size → kp j = true) := fun j hj => by
      obtain rfl : j = 0 := by omega
      exact hk0
    go_enter Try.func93, Try.ntmps93
    go_wp2
    go_ret
    obtain ⟨e1, e2⟩ := HS.out 0 hsm.out
    refine ⟨by rw [e1]; rfl, 0, ?_⟩
    rw [← e2]
    exact (putRow_self enc (Sort.ahead w 0) blk off d (holds_ahead enc w 0 blk off d HH.out)).symm
  · go_enter Try.func93, Try.ntmps93
    go_wp2
    go_loopg [5] d.size (fun g s3 wr => ∃ k q : Nat, 1 ≤ k ∧ k ≤ d.size ∧ d.size - k ≤ g ∧ s3 = .int .i64 k ∧ wr = putRow enc (Sort.ahead w q) blk off d ∧ Aside (∀ j, j < k → kp j = true))
    case atStart =>
      refine ⟨1, 0, Nat.le_refl _, by omega, by omega, rfl, (putRow_self enc (Sort.ahead w 0) blk off d (holds_ahead enc w 0 blk off d HH.out)).symm, (show Aside _ from fun j hj => ?_)⟩
      obtain rfl : j = 0 := by omega
      exact hk0
    case round =>
      obtain ⟨k, q, hk1, hk, hg, rfl, hwr, A⟩ := hrel
      have W2 : Aside (wr = putRow enc (Sort.ahead w q) blk off d) := hwr
      have hHk : Holds enc wr blk off d := by rw [hwr]; exact holds_putRow enc _ blk off d d (holds_ahead enc w q blk off d HH.out) rfl
      by_cases hlt : k < d.size
      · have hc : ∀ n, Calls Try.prog 61 #[enc d[k]!, enc d[k - 1]!] (wr.drewN n) fun e w' => e = .returned (.bool (p d[k]! d[k - 1]!)) ∧ ∃ m, w' = (wr.drewN n).drewN m := fun n => by
          have := HP.out d d[k]! d[k - 1]! (q + n) rfl
          rw [← putRow_drewN, ← hwr] at this
          exact this
        obtain ⟨c1, f1⟩ := hHk k hlt
        obtain ⟨c0, f0⟩ := hHk (k - 1) (by omega)
        clear hHk hwr
        generalize hx : d[k]! = x at c1 hc
        generalize hy : d[k - 1]! = y at c0 hc
        have B : Aside (d[k]! = x ∧ d[k - 1]! = y) := ⟨hx, hy⟩
        clear hx hy
        obtain ⟨jp, rfl⟩ : ∃ jp, k = jp + 1 := ⟨k - 1, by omega⟩
        simp only [Nat.add_sub_cancel] at c0 f0
        have hwp : IntKind.i64.wrap (jp : Int) = (jp : Int) := by rw [IntKind.wrap_i64]; omega
        have jz : (jp : Int) + 1 < (d.size : Int) := by omega
        have jz1 : (jp : Int) < (d.size : Int) := by omega
        have p0 : (0 : Int) ≤ (jp : Int) + 1 := by omega
        have e0 : ((jp : Int) + 1).toNat = jp + 1 := by omega
        have c1' : wr.cell? ⟨blk, off + (jp + 1), none⟩ = some (enc x) := c1
        have c0' : wr.cell? ⟨blk, off + jp, none⟩ = some (enc y) := c0
        clear c1 c0 f1 f0
        cases hq : p x y with
        | true =>
          rw [hq] at hc
          have hdup : Aside (kp (jp + 1) = false) := (by
            show kp (jp + 1) = false
            rw [HK.out]
            unfold kpOf
            rw [B.out.1, B.out.2, hq]
            simp)
          go_wp2_with fail
          go_quiet (first | (go_at_call 61; refine Calls.quiet_of (hc _)))
          clear c1' c0' hc
          have W3 : Aside (wr.drewN nq = putRow enc (Sort.ahead w (q + nq)) blk off d) := by show _ = _; rw [W2.out]; exact putRow_drewN _ _ _ _ _ _ _
          generalize wr.drewN nq = wr3 at W3 ⊢
          go_wp2
          go_loopg [5, 7] d.size (fun g s5 s7 wr => ∃ (kk k2 q2 : Nat) (dk : Array α), s5 = .int .i64 kk ∧ s7 = .int .i64 k2 ∧ 1 ≤ k2 ∧ jp + 1 + k2 ≤ d.size ∧ d.size - (jp + 1 + k2) ≤ g ∧ wr = putRow enc (Sort.ahead w q2) blk off dk ∧ Aside (KeptInv kp d (jp + 1 + k2) kk dk))
          case atStart => exact ⟨jp + 1, 1, q + nq, d, by go_num, rfl, Nat.le_refl _, by omega, by omega, W3.out, KeptInv.start A.out hdup.out⟩
          case round =>
            clear W3 W2 hdup
            obtain ⟨kk, k2, q2, dk, rfl, rfl, h1, hle, hg2, hwr, I2⟩ := hrel
            have hkk := I2.out.lt
            have hds := I2.out.size
            have hHk : Holds enc wr blk off dk := by rw [hwr]; exact holds_putRow enc _ blk off d dk (holds_ahead enc w q2 blk off d HH.out) hds
            have W5 : Aside (wr = putRow enc (Sort.ahead w q2) blk off dk) := hwr
            obtain ⟨j2, rfl⟩ : ∃ j2, k2 = j2 + 1 := ⟨k2 - 1, by omega⟩
            by_cases hlt2 : jp + 1 + (j2 + 1) < d.size
            · have hc : ∀ n, Calls Try.prog 61 #[enc d[jp + 1 + (j2 + 1)]!, enc d[jp + 1 + j2]!] (wr.drewN n) fun e w' => e = .returned (.bool (p d[jp + 1 + (j2 + 1)]! d[jp + 1 + j2]!)) ∧ ∃ m, w' = (wr.drewN n).drewN m := fun n => by
                have := HP.out dk d[jp + 1 + (j2 + 1)]! d[jp + 1 + j2]! (q2 + n) hds
                rw [← putRow_drewN, ← hwr] at this
                exact this
              obtain ⟨cm, _⟩ := hHk (jp + 1 + (j2 + 1)) (by omega)
              obtain ⟨cp, _⟩ := hHk (jp + 1 + j2) (by omega)
              obtain ⟨ck, fk⟩ := hHk kk (by omega)
              rw [I2.out.high (jp + 1 + (j2 + 1)) (by omega)] at cm
              rw [I2.out.high (jp + 1 + j2) (by omega)] at cp
              have cm' : wr.cell? ⟨blk, off + (jp + 1) + (j2 + 1), none⟩ = some (enc d[jp + 1 + (j2 + 1)]!) := by rw [← cm]; congr 2; omega
              have cp' : wr.cell? ⟨blk, off + (jp + 1) + j2, none⟩ = some (enc d[jp + 1 + j2]!) := by rw [← cp]; congr 2; omega
              clear hHk hwr cm cp
              generalize hu : d[jp + 1 + (j2 + 1)]! = u at cm' hc
              generalize hv : d[jp + 1 + j2]! = v at cp' hc
              generalize dk[kk]! = old at ck
              have C : Aside (d[jp + 1 + (j2 + 1)]! = u ∧ d[jp + 1 + j2]! = v) := ⟨hu, hv⟩
              clear hu hv
              have hwp2 : IntKind.i64.wrap (j2 : Int) = (j2 : Int) := by rw [IntKind.wrap_i64]; omega
              have y1 : (jp : Int) + 1 + ((j2 : Int) + 1) < (d.size : Int) := by omega
              have y2 : (j2 : Int) + 1 < (d.size : Int) - ((jp : Int) + 1) := by omega
              have y3 : (j2 : Int) < (d.size : Int) - ((jp : Int) + 1) := by omega
              have y4 : (0 : Int) ≤ (j2 : Int) + 1 := by omega
              have y5 : ((j2 : Int) + 1).toNat = j2 + 1 := by omega
              have y6 : (kk : Int) < (d.size : Int) := by omega
              have y7 : ((d.size - (jp + 1) : Nat) : Int) = (d.size : Int) - ((jp : Int) + 1) := by omega
              cases hq2 : p u v with
              | true =>
                rw [hq2] at hc
                go_wp2_with fail
                go_quiet (first | (go_at_call 61; refine Calls.quiet_of (hc _)))
                go_wp2
                go_roundg (d.size - (jp + 1 + (j2 + 1 + 1)))
                case measure => omega
                case rel => exact ⟨kk, j2 + 1 + 1, q2 + nq, dk, rfl, by go_num, by omega, by omega, Nat.le_refl _, by rw [W5.out]; exact putRow_drewN _ _ _ _ _ _ _, I2.out.skip (by rw [HK.out]; unfold kpOf; rw [show jp + 1 + (j2 + 1) - 1 = jp + 1 + j2 by omega, C.out.1, C.out.2, hq2]; simp)⟩
              | false =>
                rw [hq2] at hc
                go_wp2_with fail
                go_quiet (first | (go_at_call 61; refine Calls.quiet_of (hc _)))
                go_wp2_with fail
                have W6 : Aside (wr.drewN nq = putRow enc (Sort.ahead w (q2 + nq)) blk off dk) := by show _ = _; rw [W5.out]; exact putRow_drewN _ _ _ _ _ _ _
                have cm2 : (wr.drewN nq).cell? ⟨blk, off + (jp + 1) + (j2 + 1), none⟩ = some (enc u) := cm'
                have ck2 : (wr.drewN nq).cell? ⟨blk, off + kk, none⟩ = some (enc old) := ck
                have fk2 : (wr.drewN nq).frozen? ⟨blk, off + kk, none⟩ = false := fk
                clear cm' cp' ck fk hc
                generalize wr.drewN nq = wr6 at W6 cm2 ck2 fk2 ⊢
                go_wp2
                go_roundg (d.size - (jp + 1 + (j2 + 1 + 1)))
                case measure => omega
                case rel =>
                  refine ⟨kk + 1, j2 + 1 + 1, q2 + nq, dk.setIfInBounds kk u, by go_num, by go_num, by omega, by omega, Nat.le_refl _, ?_, (show Aside _ from ?_)⟩
                  · rw [W6.out]
                    exact putRow_set enc _ blk off dk kk u (by omega)
                  · have := I2.out.keep hlt2 (by rw [HK.out]; unfold kpOf; rw [show jp + 1 + (j2 + 1) - 1 = jp + 1 + j2 by omega, C.out.1, C.out.2, hq2]; simp)
                    rwa [C.out.1] at this
            · have hend : jp + 1 + (j2 + 1) = d.size := by omega
              have hcl : ∀ ty, (Builtin.clear_ #[23] ty #[.slice (some ⟨blk, off + kk, none⟩) (d.size - kk) (cap - kk)]).run Try.prog wr = .ok (.tuple #[]) (wr.setCells blk (off + kk) (List.replicate (d.size - kk) (enc zr))) :=
                fun ty => Lib.run_clear_slice wr _ _ ty _ t39 (fun w => by rw [ZR.out]; exact Try.zeroValue22 w) (HCL.out.cells zr) (HCL.out zr) blk (off + kk) _ _ (by omega) (fun j hj => by rw [show off + kk + j = off + (kk + j) by omega, (hHk (kk + j) (by omega)).1]; rfl) (fun j hj => by rw [show off + kk + j = off + (kk + j) by omega]; exact (hHk (kk + j) (by omega)).2)
              have y4 : (0 : Int) ≤ (j2 : Int) + 1 := by omega
              have y2 : ¬ (j2 : Int) + 1 < (d.size : Int) - ((jp : Int) + 1) := by omega
              have y7 : ((d.size - (jp + 1) : Nat) : Int) = (d.size : Int) - ((jp : Int) + 1) := by omega
              clear hHk hwr
              go_wp2
              go_ret
              have hI := I2.out
              rw [hend] at hI
              refine ⟨by rw [hI.len]; rfl, q2, ?_⟩
              rw [hI.len, ← hI.done zr, ← putRow_setCells enc _ blk off _ dk kk (by simp; omega), ← W5.out, List.map_replicate]
        | false =>
          rw [hq] at hc
          go_wp2_with fail
          go_quiet (first | (go_at_call 61; refine Calls.quiet_of (hc _)))
          go_wp2
          go_roundg (d.size - (jp + 1 + 1))
          case measure => omega
          case rel =>
            refine ⟨jp + 1 + 1, q + nq, by omega, by omega, Nat.le_refl _, by go_num, by rw [W2.out]; exact putRow_drewN _ _ _ _ _ _ _, (show Aside _ from fun j hj => ?_)⟩
            by_cases e : j = jp + 1
            · subst e
              rw [HK.out]
              unfold kpOf
              rw [B.out.1, B.out.2, hq]
              simp
            · exact A.out j (by omega)
      · have : k = d.size := by omega
        subst this
        clear hHk hwr
        go_wp2
        go_ret
        obtain ⟨e1, e2⟩ := HS.out q A.out
        exact ⟨by rw [e1]; rfl, q, by rw [← e2]; exact W2.out⟩
end Go.Proofs.Ytgpoljimomfbbaa.P

-- UrowsSort
namespace Go.Proofs.Ytgpoljimomfbbaa.P
set_option linter.unusedVariables false
set_option linter.unusedSimpArgs false
open Go.RowKit Go.Proofs.YtgpoljimomfbbaaW.PrintWords Go.Proofs.YtgpoljimomfbbaaW.PrintLast

/-- A row's inner row: its value, and what it holds. -/
structure RowAt (w : World) (base : Nat) (ok : Nat → Prop) (Pr : List Int → Prop) where
  l : List Int
  v : Value
  hR : Kd.R (Kd.int .i64) 3 w base ok v l
  hP : Pr l
theorem RowAt.one {w : World} {base : Nat} {ok : Nat → Prop} {Pr : List Int → Prop} (x : RowAt w base ok Pr) : x.v.oneCell' = true := by
  obtain ⟨A, c, e⟩ := Kd.R_slice x.hR
  rw [e]
  rfl
theorem rows_at {w : World} {base : Nat} {ok : Nat → Prop} {Pr : List Int → Prop} : ∀ (vs : List Value) (L : List (List Int)), vs.length = L.length → (∀ (j : Nat) (u : Value) (x : List Int), vs[j]? = some u → L[j]? = some x → Kd.R (Kd.int .i64) 3 w base ok u x) → (∀ x ∈ L, Pr x) → ∃ ds : List (RowAt w base ok Pr), ds.map RowAt.v = vs ∧ ds.map RowAt.l = L
  | [], [], _, _, _ => ⟨[], rfl, rfl⟩
  | [], _ :: _, h, _, _ => by simp at h
  | _ :: _, [], h, _, _ => by simp at h
  | u :: vs, x :: L, hl, h, hP => by
    obtain ⟨ds, e1, e2⟩ := rows_at vs L (by simpa using hl) (fun j u x hu hx => h (j + 1) u x (by simpa using hu) (by simpa using hx)) (fun x hx => hP x (List.mem_cons_of_mem _ hx))
    exact ⟨⟨x, u, h 0 u x rfl rfl, hP x (by simp)⟩ :: ds, by simp [e1], by simp [e2]⟩
theorem sortWorld_other {α : Type} [Inhabited α] (enc : α → Value) (w : World) (g n : Nat) (d : Array α) (os : Array Obj) (k : Nat) (hk : k < w.heap.size) (hg : k ≠ g) : (Go.Sort.grow (Go.Sort.putRow enc (Go.Sort.ahead w n) g 0 d) os).heap[k]? = w.heap[k]? := by
  have hsz : (Go.Sort.putRow enc (Go.Sort.ahead w n) g 0 d).heap.size = w.heap.size := by simp
  rw [Go.Sort.heap_grow_old _ _ (by rw [hsz]; exact hk)]
  simp only [Go.Sort.putRow, Go.Sort.mapBlock, Array.getElem?_modify]
  rw [if_neg (by omega)]
  rfl
/-- Rows whose values are those of some others, in another order or fewer, behind a world that turned the row alone. -/
theorem rows_back {w w' : World} {base : Nat} {ok ok' : Nat → Prop} {Pr : List Int → Prop} {ds' : List (RowAt w base ok Pr)} (hap : (ds'.map RowAt.v).Pairwise Apart) (hm : ∀ k, ok k → k < w.heap.size → w'.heap[k]? = w.heap[k]?) (ho : ∀ k, ok k → ok' k) : RowVals w' base ok' (ds'.map RowAt.v) (ds'.map RowAt.l) where
  len := by simp
  row := fun j u x hu hx => by
    rw [List.getElem?_map] at hu hx
    cases hz : ds'[j]? with
    | none => rw [hz] at hu; simp at hu
    | some z =>
      rw [hz] at hu hx
      obtain rfl := Option.some.inj hu
      obtain rfl := Option.some.inj hx
      exact Kd.R_mono (Kd.R_step z.hR hm) ho
  apart := hap

set_option maxHeartbeats 1000000 in
theorem rows_sort (cf : List Int → List Int → Int) (hT : Total cf) (Pr : List Int → Prop) (gf : Nat) (cb : Array Value)
    (eg : ∀ args w, (callFunc gf args).run Try.prog w = .ok (.enter gf args) w)
    (hcmp : ∀ (W : World) (A B : Option Addr) (c c' : Nat) (x y : List Int), Pr x → Pr y → Kd.C (Kd.int .i64) W A x.length x → x.length ≤ c → Kd.C (Kd.int .i64) W B y.length y → y.length ≤ c' → Calls Try.prog gf (#[.slice A x.length c, .slice B y.length c'] ++ cb) W fun e w' => e = .returned (.int .i64 (cf x y)) ∧ Drawn0 W w')
    (P0_ : Nat → Prop) (v : Value) (xs : List (List Int)) (w0 w : World) (hB : Below w0.heap.size w0 w) (hP : ∀ x ∈ xs, Pr x) (hz : xs.length < 4611686018427387904) (ho : Kd.S KII 22 w w0.heap.size P0_ v xs) :
    Calls Try.prog 62 #[v, .func (.func gf) #[] cb] w fun e w' => e = .returned (.tuple #[]) ∧ ∃ ys, ys.Perm xs ∧ (ys.Pairwise fun a b => ¬ cf b a < 0) ∧ Kd.S KII 22 w' w0.heap.size (fun k_ => (P0_ k_ ∨ w.heap.size ≤ k_)) v ys ∧ Below w0.heap.size w0 w' ∧ Kept w w' (fun k_ => P0_ k_) := by
  obtain ⟨vs, h0, hown, hv⟩ := S_vals ho
  obtain ⟨hlen, hcase⟩ := hown
  have hnone : ∀ (p : Option Addr) (cap : Nat), v = .slice p 0 cap → xs = [] → Calls Try.prog 62 #[v, .func (.func gf) #[] cb] w fun e w' => e = .returned (.tuple #[]) ∧ ∃ ys, ys.Perm xs ∧ (ys.Pairwise fun a b => ¬ cf b a < 0) ∧ Kd.S KII 22 w' w0.heap.size (fun k_ => (P0_ k_ ∨ w.heap.size ≤ k_)) v ys ∧ Below w0.heap.size w0 w' ∧ Kept w w' (fun k_ => P0_ k_) := by
    intro p cap ev ex
    subst ev ex
    refine (AnyF.slices_SortFunc_none (P := Try.prog) { Try.laysSlF6_f62 with } p cap (.func (.func gf) #[] cb) w).mono ?_
    rintro e w' ⟨rfl, rfl⟩
    exact ⟨rfl, [], .refl _, .nil, Kd.S_mono ho (fun _ h_ => .inl h_), hB, Kept.refl _ _⟩
  rcases hcase with ⟨ev, hn⟩ | ⟨g, cap, cur, ev, hg, hb, hc, hm, hs, ht⟩
  · exact hnone _ _ ev (List.eq_nil_of_length_eq_zero hn)
  · by_cases hx : xs = []
    · exact hnone _ cap (by rw [ev, hx]; rfl) hx
    · subst ev
      obtain ⟨ds, e1, e2⟩ := rows_at (Pr := Pr) vs xs hv.len hv.row hP
      have hds : ds ≠ [] := fun e => hx (by rw [← e2, e]; rfl)
      letI : Inhabited (RowAt w w0.heap.size (fun k => P0_ k ∧ some k ≠ (Value.slice (some ⟨g, 0, none⟩) xs.length cap).ownBlock) Pr) := ⟨ds.head hds⟩
      have hdl : ds.length = xs.length := by have := congrArg List.length e2; simpa using this
      have ht' : cur.toList.take ds.length = ds.map RowAt.v := by rw [hdl, e1]; simpa using ht
      have hok : P0_ g := h0 g rfl
      have hlt : g < w.heap.size := (Array.getElem?_eq_some_iff.1 hb).1
      have hng : ∀ k, (P0_ k ∧ some k ≠ (Value.slice (some ⟨g, 0, none⟩) xs.length cap).ownBlock) → k ≠ g := fun k hk e => hk.2 (by rw [e]; rfl)
      have hC := Go.Proofs.Any.slices_SortFunc (P := Try.prog) Try.laysSlF6_f62 (RowAt.v (w := w) (base := w0.heap.size) (ok := fun k => P0_ k ∧ some k ≠ (Value.slice (some ⟨g, 0, none⟩) xs.length cap).ownBlock) (Pr := Pr)) RowAt.one (fun a b => cf a.l b.l)
        { irrefl := fun x => hT.swo.irrefl x.l, trans := fun x y z => hT.swo.trans x.l y.l z.l, ntrans := fun x y z => hT.swo.ntrans x.l y.l z.l } gf cb g 0 cap ds.toArray w eg
        (CmpReads.lays fun m os dk hsd x y => by
          have hx := Kd.R_step (w1 := sortWorld RowAt.v w g 0 m dk os) x.hR (fun k hk hlk => sortWorld_other _ _ _ _ _ _ k hlk (hng k hk))
          have hy := Kd.R_step (w1 := sortWorld RowAt.v w g 0 m dk os) y.hR (fun k hk hlk => sortWorld_other _ _ _ _ _ _ k hlk (hng k hk))
          obtain ⟨A, c, ea, ha, hra⟩ := Kd.R_reads hx
          obtain ⟨B, c', eb, hbb, hrb⟩ := Kd.R_reads hy
          rw [ea, eb]
          refine (hcmp _ A B c c' x.l y.l x.hP y.hP hra ha hrb hbb).mono ?_
          rintro e w' ⟨rfl, ⟨q, rfl⟩⟩
          exact ⟨rfl, q, rfl⟩)
        (scalar_holds hb ht') hlt (by simpa [hdl] using hz)
      rw [show ds.toArray.size = xs.length by simpa using hdl] at hC
      refine hC.mono ?_
      rintro e w' ⟨rfl, d', n, os, hp, hso, hw⟩
      have hsz : d'.size = ds.length := by simpa using hp.1
      have hperm : d'.toList.Perm ds := by
        have := hp.2.2
        rw [show d'.extract 0 xs.length = d' by rw [← hdl, ← hsz]; exact Array.extract_size, show ds.toArray.extract 0 xs.length = ds.toArray by rw [show xs.length = ds.toArray.size by simpa using hdl.symm]; exact Array.extract_size] at this
        simpa using this
      have hS := scalar_sorted (enc := RowAt.v) (h1 := RowAt.one) (xs := ds) (ys := d'.toList) (cap := cap) (ok := P0_) hB hok hg hb (by rw [hdl]; exact hc) hm (by simpa using hs) (by simpa using hsz) n os w' (by rw [hw]; simp [sortWorld])
      obtain ⟨hown1, hown2⟩ := scalar_R.1 hS.1
      have hap : (d'.toList.map RowAt.v).Pairwise Apart := by
        refine ((hperm.map RowAt.v).pairwise_iff (fun h => Apart.symm h)).2 ?_
        rw [e1]
        exact hv.apart
      refine ⟨rfl, d'.toList.map RowAt.l, by rw [← e2]; exact hperm.map _, ?_, ?_, hS.2⟩
      · rw [List.pairwise_map, List.pairwise_iff_getElem]
        intro i j hi hj hij
        have h1 := hso i j (Nat.zero_le _) hij (by rw [← hdl, ← hsz]; simpa using hj)
        have h2 : i < d'.size := by simpa using hi
        have h3 : j < d'.size := by simpa using hj
        rw [getElem!_pos d' i h2, getElem!_pos d' j h3] at h1
        simpa [ltOf] using h1
      · have hl2 : (d'.toList.map RowAt.l).length = xs.length := by simp [hsz, hdl]
        refine vals_S (vs := d'.toList.map RowAt.v) (fun k hk => .inl (by simp [Value.ownBlock] at hk; exact hk ▸ hok)) ?_ (rows_back hap (fun k hk hlk => ?_) (fun k hk => ⟨.inl hk.1, hk.2⟩))
        · rw [List.length_map]
          rw [hdl] at hown2
          exact hown2
        · rw [hw]
          exact sortWorld_other _ _ _ _ _ _ k hlk (hng k hk)

/-- What is kept of a sorted row: its elements, once each. -/
theorem kept_sorted {α : Type} [Inhabited α] (key : α → List Int) (p : α → α → Bool) (hp : ∀ u v, p u v = decide (key u = key v)) (d : Array α) (hs : (d.toList.map key).Pairwise fun a b => ¬ cmpL b a < 0) :
    ((Go.Lib.keptUpTo (kpOf p d) d d.size).map key).Pairwise (fun a b => cmpL a b < 0) ∧ ∀ z, z ∈ (Go.Lib.keptUpTo (kpOf p d) d d.size).map key ↔ z ∈ d.toList.map key := by
  have hle : ∀ i j, i ≤ j → j < d.size → ¬ cmpL (key d[j]!) (key d[i]!) < 0 := by
    intro i j hij hj
    rcases Nat.lt_or_eq_of_le hij with h | h
    · rw [List.pairwise_map, List.pairwise_iff_getElem] at hs
      have := hs i j (by simp; omega) (by simpa using hj) h
      rw [getElem!_pos d i (by omega), getElem!_pos d j hj]
      simpa using this
    · subst h
      rw [cmpL_self]
      omega
  constructor
  · rw [List.pairwise_map]
    unfold Go.Lib.keptUpTo
    rw [List.pairwise_map]
    have hr : ((List.range d.size).filter (kpOf p d)).Pairwise fun i j => i < j ∧ j < d.size ∧ kpOf p d j = true := by
      have h1 : ((List.range d.size).filter (kpOf p d)).Pairwise (· < ·) := List.Pairwise.sublist List.filter_sublist List.pairwise_lt_range
      rw [List.pairwise_iff_getElem] at h1 ⊢
      intro i j hi hj hij
      have h2 := List.getElem_mem hj
      rw [List.mem_filter, List.mem_range] at h2
      exact ⟨h1 i j hi hj hij, h2⟩
    refine hr.imp ?_
    rintro i j ⟨hij, hj, hk⟩
    have h1 := hle i (j - 1) (by omega) (by omega)
    have h2 := hle (j - 1) j (by omega) hj
    have h3 : key d[j]! ≠ key d[j - 1]! := by
      unfold kpOf at hk
      rw [hp] at hk
      simp at hk
      rcases hk with h | h
      · omega
      · exact h
    by_cases e1 : cmpL (key d[j - 1]!) (key d[j]!) = 0
    · exact absurd (cmpL_eq _ _ e1).symm h3
    · have h4 : cmpL (key d[j - 1]!) (key d[j]!) < 0 := by rw [cmpL_anti] at h2; omega
      by_cases e2 : cmpL (key d[i]!) (key d[j - 1]!) = 0
      · rw [cmpL_eq _ _ e2]; exact h4
      · refine cmpL_trans _ _ _ ?_ h4
        rw [cmpL_anti] at h1
        omega
  · intro z
    constructor
    · intro hz
      obtain ⟨x, hx, rfl⟩ := List.mem_map.1 hz
      unfold Go.Lib.keptUpTo at hx
      obtain ⟨j, hj, rfl⟩ := List.mem_map.1 hx
      rw [List.mem_filter, List.mem_range] at hj
      refine List.mem_map.2 ⟨_, ?_, rfl⟩
      rw [getElem!_pos d j hj.1]
      simp
    · intro hz
      obtain ⟨x, hx, rfl⟩ := List.mem_map.1 hz
      obtain ⟨j, hj, rfl⟩ := List.getElem_of_mem hx
      have hj' : j < d.size := by simpa using hj
      have hgo : ∀ m, m < d.size → ∃ i, i < d.size ∧ kpOf p d i = true ∧ key d[i]! = key d[m]! := by
        intro m
        induction m with
        | zero => intro hm; exact ⟨0, hm, rfl, rfl⟩
        | succ m ih =>
          intro hm
          by_cases hk : kpOf p d (m + 1) = true
          · exact ⟨m + 1, hm, hk, rfl⟩
          · obtain ⟨i, hi, hki, he⟩ := ih (by omega)
            refine ⟨i, hi, hki, he.trans ?_⟩
            unfold kpOf at hk
            rw [hp] at hk
            simp at hk
            exact hk.symm
      obtain ⟨i, hi, hki, he⟩ := hgo j hj'
      refine List.mem_map.2 ⟨d[i]!, ?_, ?_⟩
      · unfold Go.Lib.keptUpTo
        exact List.mem_map.2 ⟨i, List.mem_filter.2 ⟨List.mem_range.2 hi, hki⟩, rfl⟩
      · rw [he, getElem!_pos d j hj']
        simp

set_option maxHeartbeats 1000000 in
theorem rows_compact (P0_ : Nat → Prop) (v : Value) (xs : List (List Int)) (w0 w : World) (hB : Below w0.heap.size w0 w) (hP : ∀ x ∈ xs, x.length < 9223372036854775807) (hs : xs.Pairwise fun a b => ¬ cmpL b a < 0) (ho : Kd.S KII 22 w w0.heap.size P0_ v xs) :
    Calls Try.prog 93 #[v, .func (.func 61) #[] #[]] w fun e w' => ∃ v', e = .returned v' ∧ ∃ ys, (ys.Pairwise fun a b => cmpL a b < 0) ∧ (∀ z, z ∈ ys ↔ z ∈ xs) ∧ Kd.S KII 22 w' w0.heap.size (fun k_ => (P0_ k_ ∨ w.heap.size ≤ k_)) v' ys ∧ Below w0.heap.size w0 w' ∧ Kept w w' (fun k_ => P0_ k_) := by
  obtain ⟨vs, h0, hown, hv⟩ := S_vals ho
  obtain ⟨hlen, hcase⟩ := hown
  rcases hcase with ⟨ev, hn⟩ | ⟨g, cap, cur, ev, hg, hb, hc, hm, hcs, ht⟩
  · obtain rfl : xs = [] := List.eq_nil_of_length_eq_zero hn
    subst ev
    go_enter Try.func93, Try.ntmps93
    go_wp2
    go_ret
    exact ⟨_, rfl, [], .nil, by simp, Kd.S_nil _ _ _ _ _, hB, Kept.refl _ _⟩
  · subst ev
    obtain ⟨ds, e1, e2⟩ := rows_at (Pr := fun x => x.length < 9223372036854775807) vs xs hv.len hv.row hP
    let nil_ : RowAt w w0.heap.size (fun k => P0_ k ∧ some k ≠ (Value.slice (some ⟨g, 0, none⟩) xs.length cap).ownBlock) (fun x => x.length < 9223372036854775807) := ⟨[], .slice none 0 0, Kd.R_nil _ _ _ _ _, by decide⟩
    letI : Inhabited (RowAt w w0.heap.size (fun k => P0_ k ∧ some k ≠ (Value.slice (some ⟨g, 0, none⟩) xs.length cap).ownBlock) (fun x => x.length < 9223372036854775807)) := ⟨nil_⟩
    have hdl : ds.length = xs.length := by have := congrArg List.length e2; simpa using this
    have ht' : cur.toList.take ds.length = ds.map RowAt.v := by rw [hdl, e1]; simpa using ht
    have hok : P0_ g := h0 g rfl
    have hlt : g < w.heap.size := (Array.getElem?_eq_some_iff.1 hb).1
    have hng : ∀ k, (P0_ k ∧ some k ≠ (Value.slice (some ⟨g, 0, none⟩) xs.length cap).ownBlock) → k ≠ g := fun k hk e => hk.2 (by rw [e]; rfl)
    have hgrow0 : ∀ W : World, Go.Sort.grow W #[] = W := fun W => Go.Sort.grow_empty W
    have hC := compact_walk (RowAt.v (w := w) (base := w0.heap.size) (ok := fun k => P0_ k ∧ some k ≠ (Value.slice (some ⟨g, 0, none⟩) xs.length cap).ownBlock) (Pr := fun x => x.length < 9223372036854775807)) RowAt.one (fun a b => decide (a.l = b.l)) nil_ rfl g 0 cap ds.toArray w
      (fun dk x y q hsd => by
        have hst : ∀ k, (P0_ k ∧ some k ≠ (Value.slice (some ⟨g, 0, none⟩) xs.length cap).ownBlock) → k < w.heap.size → (Go.Sort.putRow RowAt.v (Go.Sort.ahead w q) g 0 dk).heap[k]? = w.heap[k]? := fun k hk hlk => by
          have := sortWorld_other RowAt.v w g q dk #[] k hlk (hng k hk)
          rwa [hgrow0] at this
        have hx := Kd.R_step (w1 := Go.Sort.putRow RowAt.v (Go.Sort.ahead w q) g 0 dk) x.hR hst
        have hy := Kd.R_step (w1 := Go.Sort.putRow RowAt.v (Go.Sort.ahead w q) g 0 dk) y.hR hst
        obtain ⟨A, c, ea, ha, hra⟩ := Kd.R_reads hx
        obtain ⟨B, c', eb, hbb, hrb⟩ := Kd.R_reads hy
        rw [ea, eb]
        refine (slices_Equal_int_int.calls (x.l.length + 1) A c x.l B c' y.l (decide (x.l = y.l)) _ hra ha hrb hbb (equal_ev x.l y.l x.hP)).mono ?_
        rintro e w' ⟨rfl, ⟨q', rfl⟩⟩
        exact ⟨rfl, q', rfl⟩)
      (scalar_holds hb ht') (by have : cap ≤ 9223372036854775807 := hm; simp only [List.size_toArray]; omega) (by simp only [List.size_toArray]; omega)
    rw [show ds.toArray.size = xs.length by simpa using hdl] at hC
    refine hC.mono ?_
    rintro e w' ⟨rfl, q, hw⟩
    obtain ⟨ks, hks⟩ : ∃ ks, ks = Go.Lib.keptUpTo (kpOf (fun a b : RowAt w w0.heap.size (fun k => P0_ k ∧ some k ≠ (Value.slice (some ⟨g, 0, none⟩) xs.length cap).ownBlock) (fun x => x.length < 9223372036854775807) => decide (a.l = b.l)) ds.toArray) ds.toArray ds.toArray.size := ⟨_, rfl⟩
    have hks2 : Go.Lib.keptUpTo (kpOf (fun a b : RowAt w w0.heap.size (fun k => P0_ k ∧ some k ≠ (Value.slice (some ⟨g, 0, none⟩) xs.length cap).ownBlock) (fun x => x.length < 9223372036854775807) => decide (a.l = b.l)) ds.toArray) ds.toArray xs.length = ks := by rw [hks]; congr 1; simpa using hdl.symm
    rw [hks2] at hw ⊢
    have hrange : (List.range ds.toArray.size).map (fun j => ds.toArray[j]!) = ds := by
      apply List.ext_getElem
      · simp
      · intro i hi1 hi2
        simp [hi2]
    have hsub : ks.Sublist ds := by
      rw [hks]
      unfold Go.Lib.keptUpTo
      have h1 := List.Sublist.map (fun j => ds.toArray[j]!) (List.filter_sublist (p := kpOf (fun a b : RowAt w w0.heap.size (fun k => P0_ k ∧ some k ≠ (Value.slice (some ⟨g, 0, none⟩) xs.length cap).ownBlock) (fun x => x.length < 9223372036854775807) => decide (a.l = b.l)) ds.toArray) (l := List.range ds.toArray.size))
      rw [hrange] at h1
      exact h1
    have hlk : ks.length ≤ ds.length := hsub.length_le
    have hS := scalar_sorted (enc := RowAt.v) (h1 := RowAt.one) (xs := ds) (ys := ks ++ List.replicate (xs.length - ks.length) nil_) (cap := cap) (ok := P0_) hB hok hg hb (by rw [hdl]; exact hc) hm (by simpa using hcs) (by simp; omega) q #[] w' (by rw [hw, hgrow0])
    have hTk := scalar_take hS.1 ks.length (by simp)
    rw [List.take_left] at hTk
    obtain ⟨hown1, hown2⟩ := scalar_R.1 hTk
    have hKS := kept_sorted (fun a : RowAt w w0.heap.size (fun k => P0_ k ∧ some k ≠ (Value.slice (some ⟨g, 0, none⟩) xs.length cap).ownBlock) (fun x => x.length < 9223372036854775807) => a.l) (fun a b => decide (a.l = b.l)) (fun u v => rfl) ds.toArray (by rw [show ds.toArray.toList.map (fun a => a.l) = xs from e2]; exact hs)
    rw [← hks] at hKS
    have hap : (ks.map RowAt.v).Pairwise Apart := List.Pairwise.sublist (hsub.map RowAt.v) (by rw [e1]; exact hv.apart)
    refine ⟨_, rfl, ks.map RowAt.l, hKS.1, fun z => (hKS.2 z).trans (by rw [show ds.toArray.toList.map (fun a => a.l) = xs from e2]), ?_, hS.2⟩
    refine vals_S (vs := ks.map RowAt.v) hown1 ?_ (rows_back hap (fun k hk hlk2 => ?_) (fun k hk => ⟨.inl hk.1, hk.2⟩))
    · rw [List.length_map]
      exact hown2
    · rw [hw]
      have := sortWorld_other RowAt.v w g q (ks ++ List.replicate (xs.length - ks.length) nil_).toArray #[] k hlk2 (hng k hk)
      rwa [hgrow0] at this
end Go.Proofs.Ytgpoljimomfbbaa.P

-- UrowsCat
namespace Go.Proofs.Ytgpoljimomfbbaa.P
set_option linter.unusedVariables false
set_option linter.unusedSimpArgs false
open Go.RowKit Go.Proofs.YtgpoljimomfbbaaW.PrintWords Go.Proofs.YtgpoljimomfbbaaW.PrintLast

abbrev OneV := {v : Value // v.oneCell' = true}
theorem rows_one {w : World} {base : Nat} {ok : Nat → Prop} {vs : List Value} {L : List (List Int)} (h : RowVals w base ok vs L) : ∃ us : List OneV, us.map (·.1) = vs := by
  have hone : ∀ u ∈ vs, u.oneCell' = true := by
    intro u hu
    obtain ⟨j, hj, rfl⟩ := List.getElem_of_mem hu
    have hL : j < L.length := by have := h.len; omega
    obtain ⟨A, c, e⟩ := Kd.R_slice (h.row j vs[j] L[j] (List.getElem?_eq_getElem hj) (List.getElem?_eq_getElem hL))
    rw [e]
    rfl
  exact ⟨vs.attach.map (fun u => ⟨u.1, hone u.1 u.2⟩), by simp⟩
/-- A row of rows, seen as a row of values. -/
theorem S_scal {w : World} {base : Nat} {ok : Nat → Prop} {v : Value} {L : List (List Int)} (h : Kd.S KII 22 w base ok v L) :
    ∃ us : List OneV, (Kd.scalar (fun x : OneV => x.1) (fun x => x.2)).R 22 w base ok v us ∧ us.length = L.length ∧ RowVals w base (fun k => ok k ∧ some k ≠ v.ownBlock) (us.map (·.1)) L := by
  obtain ⟨vs, h0, hown, hv⟩ := S_vals h
  obtain ⟨us, rfl⟩ := rows_one hv
  have hl : us.length = L.length := by have := hv.len; simpa using this
  exact ⟨us, scalar_R.2 ⟨h0, by rw [hl]; exact hown⟩, hl, hv⟩
theorem scal_S {w : World} {base : Nat} {ok : Nat → Prop} {v : Value} {us : List OneV} {L : List (List Int)} (h : (Kd.scalar (fun x : OneV => x.1) (fun x => x.2)).R 22 w base ok v us) (hv : RowVals w base (fun k => ok k ∧ some k ≠ v.ownBlock) (us.map (·.1)) L) : Kd.S KII 22 w base ok v L := by
  obtain ⟨h1, h2⟩ := scalar_R.1 h
  have hl : us.length = L.length := by have := hv.len; simpa using this
  exact vals_S h1 (by rw [← hl]; exact h2) hv
theorem RowVals.own {w : World} {base : Nat} {ok : Nat → Prop} {vs : List Value} {L : List (List Int)} (h : RowVals w base ok vs L) {u : Value} (hu : u ∈ vs) {k : Nat} (hk : u.ownBlock = some k) : ok k ∧ base ≤ k ∧ k < w.heap.size := by
  obtain ⟨j, hj, rfl⟩ := List.getElem_of_mem hu
  have hL : j < L.length := by have := h.len; omega
  have hr := Kd.R_bound (h.row j vs[j] L[j] (List.getElem?_eq_getElem hj) (List.getElem?_eq_getElem hL))
  have := hr.1 k hk
  exact ⟨this.1, this.2.1, this.2.2.1⟩
/-- Rows in a later world. -/
theorem RowVals.step {w w1 : World} {base : Nat} {ok ok' : Nat → Prop} {vs : List Value} {L : List (List Int)} (h : RowVals w base ok vs L) (hm : ∀ k, ok k → k < w.heap.size → w1.heap[k]? = w.heap[k]?) (ho : ∀ k, ok k → k < w.heap.size → ok' k) : RowVals w1 base ok' vs L where
  len := h.len
  row := fun j u x hu hx => by
    have hr := h.row j u x hu hx
    exact Kd.R_mono (Kd.R_step (Kd.R_bound hr) (fun k hk hlt => hm k hk.1 hlt)) (fun k hk => ho k hk.1 hk.2.2.1)
  apart := h.apart
end Go.Proofs.Ytgpoljimomfbbaa.P

-- UrowsClone
namespace Go.Proofs.Ytgpoljimomfbbaa.P
set_option linter.unusedVariables false
set_option linter.unusedSimpArgs false
open Go.RowKit Go.Proofs.YtgpoljimomfbbaaW.PrintWords Go.Proofs.YtgpoljimomfbbaaW.PrintLast

set_option maxHeartbeats 1000000 in
set_option maxRecDepth 100000 in
theorem rows_clone (v : Value) (xs : List (List Int)) (w0 w : World) (hB : Below w0.heap.size w0 w) (hz : xs.length < 5864062014805) (ho : Kd.S KII 22 w w0.heap.size (fun _ => True) v xs) :
    Calls Try.prog 51 #[v] w fun e w' => ∃ v', e = .returned v' ∧ Kd.S KII 22 w' w0.heap.size (fun _ => True) v' xs ∧ Below w0.heap.size w0 w' := by
  obtain ⟨us, hs1, hs2, hs3⟩ := S_scal ho
  have q22 : ∀ (w : World) (a : Option Addr) (n c n' c' : Nat), (binOp .eql 23 (.slice a n c) (.slice none n' c')).run Try.prog w = .ok (.bool a.isNone) w := fun w a n c n' c' => Lib.run_eql_slice_nil w _ _ a n c n' c' Try.underlying23
  rcases scalar_open hs1 with ⟨ev, hn⟩ | ⟨g, cap, cur, ev, hok, hg, hb, hc, hm, hcs, ht⟩
  · subst ev
    have hx : xs = [] := List.eq_nil_of_length_eq_zero (by rw [← hs2, hn]; rfl)
    subst hx
    have HB := Aside0.mk hB
    clear hB ho hs1 hs2 hs3 hn
    go_enter Try.func51, Try.ntmps51
    go_wp2
    go_ret
    exact ⟨_, rfl, Kd.S_nil _ _ _ _ _, HB.out⟩
  · subst ev
    have hr := (Kd.R_reads' hs1).2.2
    have hR := Aside0.mk hr
    have HS := Aside0.mk hs3
    have HB := Aside0.mk hB
    have HN := Aside0.mk hs2
    have HZ := Aside0.mk hz
    clear ho hs1 hb hg hcs ht hok hr hs3 hB hs2 hz
    go_enter Try.func51, Try.ntmps51
    go_wp2_with (first
      | ((with_reducible refine gate_builtin (b := .append) (xs := #[.tmp 5, .tmp 6]) rfl ?_); at_builtin; refine Kd.R_append_row (fun x : OneV => x.1) ⟨.slice none 0 0, rfl⟩ (h1 := fun x => x.2) (w0 := w0) w0.heap.size rfl (.tmp 5) (.tmp 6) 23 22 (.slice none 0 0) 24 rfl Try.underlying23 info22 rfl (by decide) (.slice (some ⟨w.heap.size, 0, none⟩) 0 0) [] us (some ⟨g, 0, none⟩) us.length cap (fun _ => True) rfl rfl (fun _ _ => trivial) (scalar_R.2 ⟨fun _ _ => trivial, World.ownsRow_made w #[] 0 HB.out.size (Nat.zero_le _) (by simp)⟩) (Kd.C_alloc hR.out _) (below_alloc HB.out _) (by have := HB.out.size; simp; omega) (by have := HN.out; have := HZ.out; simp; omega) ?_; intro v7 w7 ho hb hg hat; have n0_ := Aside0.mk ho; have n1_ := Aside0.mk hb; have n2_ := Aside0.mk hg; have n3_ := Aside0.mk hat; clear ho hb hg hat))
    go_ret
    have hsz : ∀ o : Obj, (w.alloc o).heap.size = w.heap.size + 1 := fun o => by simp
    refine ⟨_, rfl, scal_S n0_.out ?_, n1_.out⟩
    refine HS.out.step (fun k hk hlt => ?_) (fun k hk hlt => ⟨trivial, fun e => ?_⟩)
    · have h1 := n2_.out.block k (by rw [hsz]; omega) (fun e => by simp [Value.ownBlock] at e; omega)
      rw [h1]
      exact (below_alloc (Below.refl w.heap.size w) _).block k hlt
    · rcases n3_.out with h1 | ⟨b, h1, h2⟩
      · have e2 : some k = v7.ownBlock := e
        rw [h1] at e2
        simp [Value.ownBlock] at e2
        omega
      · have e2 : some k = v7.ownBlock := e
        rw [h1] at e2
        injection e2 with e
        rw [hsz] at h2
        omega
end Go.Proofs.Ytgpoljimomfbbaa.P

-- Gbranches
namespace Go.Proofs.Ytgpoljimomfbbaa.P
open Go.Shelf Go.RowKit Go.Proofs.YtgpoljimomfbbaaW.PrintWords Go.Proofs.YtgpoljimomfbbaaW.PrintLast
set_option linter.unusedVariables false
set_option linter.unusedSimpArgs false

theorem compare_enters : ∀ args w, (callFunc 63 args).run Try.prog w = .ok (.enter 63 args) w := fun args w => enters_of Try.func63 (by kernel_rfl) rfl args w
theorem compare_at (W : World) (A B : Option Addr) (c c' : Nat) (x y : List Int) (hx : x.length < 9223372036854775807) (hy : y.length < 9223372036854775807) (h1 : Kd.C (Kd.int .i64) W A x.length x) (h2 : x.length ≤ c) (h3 : Kd.C (Kd.int .i64) W B y.length y) (h4 : y.length ≤ c') : Calls Try.prog 63 (#[.slice A x.length c, .slice B y.length c'] ++ #[]) W fun e w' => e = .returned (.int .i64 (cmpL x y)) ∧ Drawn0 W w' :=
  slices_Compare_int_int.calls (x.length + 1) A c x B c' y (cmpL x y) W h1 h2 h3 h4 (compare_ev x y hx)

def impl_branches.l0 : Nat → List Int → Int → List (List Int) → Int → Option (List (List Int))
  | 0, _, _, _, _ => none
  | k + 1, l, a, o, i => if i < (l.length : Int) then (impl_jump.f k l a i).bind fun bt => (if bt.2 = true then (impl_sumOf.f k bt.1).bind fun s1 => ((impl_sumOf.f k l).bind fun s2 => (if s2 < s1 then (if o.length < 1000000000 then (if bt.1.length < 9223372036854775807 then impl_branches.l0 k l a (o ++ [bt.1]) (wrap64 (i + 1)) else none) else none) else impl_branches.l0 k l a o (wrap64 (i + 1)))) else impl_branches.l0 k l a o (wrap64 (i + 1))) else some (sortDedup o)
def impl_branches.f (k : Nat) (l0 : List Int) (a1 : Int) : Option (List (List Int)) := impl_branches.l0 k l0 a1 [] 0
theorem impl_branches.mono_l : ∀ k, (∀ y0 y1 y2 y3, LeO (impl_branches.l0 k y0 y1 y2 y3) (impl_branches.l0 (k + 1) y0 y1 y2 y3))
  | 0 => fun _ _ _ _ r h => by simp [impl_branches.l0] at h
  | k + 1 => by
    have ih0 := impl_branches.mono_l k
    intro y0 y1 y2 y3
    unfold impl_branches.l0
    repeat' first
      | (with_reducible exact ih0 _ _ _ _)
      | (with_reducible exact impl_jump.mono _ _ _ _)
      | (with_reducible exact impl_sumOf.mono _ _)
      | (with_reducible exact LeO.refl _)
      | (with_reducible exact LeO.none _)
      | (with_reducible refine LeO.ite ?_ ?_)
      | (with_reducible refine LeO.bind ?_ (fun _ => ?_))
theorem impl_branches.mono : ∀ a0 a1 k, LeO (impl_branches.f k a0 a1) (impl_branches.f (k + 1) a0 a1) := by
  intro a0 a1 k
  unfold impl_branches.f
  exact impl_branches.mono_l k _ _ _ _

set_option maxHeartbeats 4000000 in
set_option maxRecDepth 100000 in
theorem impl_branches.calls (k : Nat) (A0 : Option Addr) (c0 : Nat) (l0 : List Int) (a1 : Int) (r : List (List Int)) (w : World) (hr0 : Kd.C (Kd.int .i64) w A0 l0.length l0) (hc0 : l0.length ≤ c0) (h : impl_branches.f k l0 a1 = some r) :
    Calls Try.prog 52 #[.slice A0 l0.length c0, .int .i64 a1] w fun e w' => ∃ v0_ : Value, e = .returned (v0_) ∧ Kd.S (Kd.slice 3 (Kd.int .i64)) 22 w' w.heap.size (fun _ => True) v0_ r ∧ Below w.heap.size w w' := by
  have hl0 := hr0.2.1
  have HR0 := Aside0.mk hr0
  have HC0 := Aside0.mk hc0
  have HL0 := Aside0.mk hl0
  have H' := Aside0.mk (show impl_branches.l0 k l0 a1 [] 0 = some r from h)
  have HB := Aside0.mk (Below.refl w.heap.size w)
  clear hr0 hc0 h hl0
  go_enter Try.func52, Try.ntmps52
  go_wp2_with (first
    | ((with_reducible refine gate_dst (N := 9) rfl ?_); refine Kd.S_lits (Kd.slice 3 (Kd.int .i64)) (w0 := w) w.heap.size 22 ?hg (N := 9) ?hd (xs := []) (inner := []) (ok := fun _ => True) (fun j k_ => False) ?hr rfl ?hp ?ha (fun _ _ _ => trivial) trivial ?hB ?hs (by simp) ?_; (case hd => rfl); (case hg => rfl); (case hr => first | (go_simp; done) | (go_simp; rfl)); (case hp => intro j x hj; simp at hj); (case ha => intro i j k_ h1 _; exact h1.elim); (case hB => exact HB.out); (case hs => exact below_size HB.out); intro v2 w2 ho hb hg hat; have n2_ := Aside0.mk ho; have n3_ := Aside0.mk hb; clear HB; have HO6 := n2_; have HB := n3_; clear n2_ n3_ ho hb hg hat))
  go_loopg [5, 12] k (fun kq v5 v12 w' => ∃ (o : List (List Int)) (i : Int), v12 = .int .i64 i ∧ Aside0 (0 ≤ i ∧ i ≤ 9223372036854775807) ∧ Aside0 (impl_branches.l0 kq l0 a1 o i = some r) ∧ Aside0 (kq ≤ k) ∧ Aside0 (∀ x ∈ o, x.length < 9223372036854775807) ∧ Aside0 (o.length < 1000000001) ∧ Aside0 (Kd.S (Kd.slice 3 (Kd.int .i64)) 22 w' w.heap.size (fun _ => True) v5 o) ∧ Aside0 (Below w.heap.size w w'))
  case atStart => exact ⟨[], 0, rfl, ⟨by omega⟩, H', ⟨Nat.le_refl _⟩, ⟨by simp⟩, ⟨by simp⟩, ⟨HO6.out⟩, ⟨HB.out⟩⟩
  case round =>
    clear H' HO6 HB
    obtain ⟨o, i, rfl, HI, HA, HK1, HP, HL, HO6, HB⟩ := hrel
    cases gk with
    | zero => exact absurd HA.out (by simp [impl_branches.l0])
    | succ k1 =>
      have H := HA.out
      clear HA
      simp only [impl_branches.l0] at H
      by_cases c2 : i < (l0.length : Int)
      · have HI3 := Aside0.mk (show i < 9223372036854775807 by have h_ := HL0.out; omega)
        rw [if_pos c2] at H
        have c2b0 : decide (i < (l0.length : Int)) = true := decide_eq_true c2
        clear c2
        obtain ⟨⟨u, b⟩, A3, H⟩ := Option.bind_eq_some_iff.mp H
        have HA3 := Aside0.mk A3
        clear A3
        cases b with
        | false =>
          have H' : Aside0 (impl_branches.l0 k1 l0 a1 o (wrap64 (i + 1)) = some r) := ⟨by simpa using H⟩
          clear H
          go_wp2_with (first | (go_at_call 76; refine (impl_jump.calls k1 _ _ l0 a1 i u false _ (by repeat (first | exact (Kd.C_below HR0.out HB.out) | (with_reducible refine Kd.C_alloc ?_ _) | (with_reducible refine Kd.C_drewN ?_ _) | (with_reducible refine Kd.C_drew ?_))) HC0.out HA3.out).mono ?_; rintro e w4 ⟨v4, rfl, ho0, hb⟩; have n1_ := Aside0.mk (Kd.S_elder' (by (with_reducible repeat (first | apply Kd.S_alloc | apply Kd.S_drewN | apply Kd.S_drew)); exact HO6.out) (Kd.R_base ho0) hb); have n2_ := Aside0.mk (below_step (by repeat (first | (with_reducible first | exact HB.out | apply below_alloc | apply pw_below_drewN | apply below_drew1) | exact HB.out)) hb); have n0_ := Aside0.mk (Kd.R_lower ho0 (below_size (by repeat (first | (with_reducible first | exact HB.out | apply below_alloc | apply pw_below_drewN | apply below_drew1) | exact HB.out)))); clear HO6 HB; have HO5 := n0_; have HO6 := n1_; have HB := n2_; clear n0_ n1_ n2_ hb ho0; obtain ⟨Ao4, co4, eo4⟩ := Kd.R_slice HO5.out; subst eo4))
          repeat (go_quiet (fail); try go_wp2_with (first | (go_at_call 76; refine (impl_jump.calls k1 _ _ l0 a1 i u false _ (by repeat (first | exact (Kd.C_below HR0.out HB.out) | (with_reducible refine Kd.C_alloc ?_ _) | (with_reducible refine Kd.C_drewN ?_ _) | (with_reducible refine Kd.C_drew ?_))) HC0.out HA3.out).mono ?_; rintro e w4 ⟨v4, rfl, ho0, hb⟩; have n1_ := Aside0.mk (Kd.S_elder' (by (with_reducible repeat (first | apply Kd.S_alloc | apply Kd.S_drewN | apply Kd.S_drew)); exact HO6.out) (Kd.R_base ho0) hb); have n2_ := Aside0.mk (below_step (by repeat (first | (with_reducible first | exact HB.out | apply below_alloc | apply pw_below_drewN | apply below_drew1) | exact HB.out)) hb); have n0_ := Aside0.mk (Kd.R_lower ho0 (below_size (by repeat (first | (with_reducible first | exact HB.out | apply below_alloc | apply pw_below_drewN | apply below_drew1) | exact HB.out)))); clear HO6 HB; have HO5 := n0_; have HO6 := n1_; have HB := n2_; clear n0_ n1_ n2_ hb ho0; obtain ⟨Ao4, co4, eo4⟩ := Kd.R_slice HO5.out; subst eo4)))
          go_roundg k1
          case measure => have := HK1.out; omega
          case rel => exact ⟨o, wrap64 (i + 1), (by first | rfl | (simp; done) | (simp [*]; done)), ⟨by have := HI.out; have := HI3.out; unfold wrap64; omega⟩, H', ⟨by have := HK1.out; omega⟩, HP, HL, ⟨by (with_reducible repeat (first | apply Kd.S_alloc | apply Kd.S_drewN | apply Kd.S_drew)); exact Kd.S_mono HO6.out (fun _ _ => trivial)⟩, ⟨by repeat (first | (with_reducible first | exact HB.out | apply below_alloc | apply pw_below_drewN | apply below_drew1) | exact HB.out)⟩⟩
        | true =>
          replace H : ((impl_sumOf.f k1 u).bind fun s1 => ((impl_sumOf.f k1 l0).bind fun s2 => (if s2 < s1 then (if o.length < 1000000000 then (if u.length < 9223372036854775807 then impl_branches.l0 k1 l0 a1 (o ++ [u]) (wrap64 (i + 1)) else none) else none) else impl_branches.l0 k1 l0 a1 o (wrap64 (i + 1))))) = some r := by simpa using H
          obtain ⟨s1, A4, H⟩ := Option.bind_eq_some_iff.mp H
          obtain ⟨s2, A5, H⟩ := Option.bind_eq_some_iff.mp H
          have HA4 := Aside0.mk A4
          have HA5 := Aside0.mk A5
          clear A4 A5
          by_cases c7 : s2 < s1
          · replace H : (if o.length < 1000000000 then (if u.length < 9223372036854775807 then impl_branches.l0 k1 l0 a1 (o ++ [u]) (wrap64 (i + 1)) else none) else none) = some r := by
              have H2 : (if s2 < s1 then (if o.length < 1000000000 then (if u.length < 9223372036854775807 then impl_branches.l0 k1 l0 a1 (o ++ [u]) (wrap64 (i + 1)) else none) else none) else impl_branches.l0 k1 l0 a1 o (wrap64 (i + 1))) = some r := H
              rw [if_pos c7] at H2
              exact H2
            have c7b0 : decide (s2 < s1) = true := decide_eq_true c7
            clear c7
            by_cases c9 : o.length < 1000000000
            · rw [if_pos c9] at H
              have LM := Aside0.mk c9
              clear c9
              by_cases c10 : u.length < 9223372036854775807
              · rw [if_pos c10] at H
                have HU := Aside0.mk c10
                have H' := Aside0.mk H
                clear H c10
                go_wp2_with (first | (go_at_call 76; refine (impl_jump.calls k1 _ _ l0 a1 i u true _ (by repeat (first | exact (Kd.C_below HR0.out HB.out) | (with_reducible refine Kd.C_alloc ?_ _) | (with_reducible refine Kd.C_drewN ?_ _) | (with_reducible refine Kd.C_drew ?_))) HC0.out HA3.out).mono ?_; rintro e w4 ⟨v4, rfl, ho0, hb⟩; have n1_ := Aside0.mk (Kd.S_elder' (by (with_reducible repeat (first | apply Kd.S_alloc | apply Kd.S_drewN | apply Kd.S_drew)); exact HO6.out) (Kd.R_base ho0) hb); have n2_ := Aside0.mk (below_step (by repeat (first | (with_reducible first | exact HB.out | apply below_alloc | apply pw_below_drewN | apply below_drew1) | exact HB.out)) hb); have n0_ := Aside0.mk (Kd.R_lower ho0 (below_size (by repeat (first | (with_reducible first | exact HB.out | apply below_alloc | apply pw_below_drewN | apply below_drew1) | exact HB.out)))); clear HO6 HB; have HO5 := n0_; have HO6 := n1_; have HB := n2_; clear n0_ n1_ n2_ hb ho0; obtain ⟨Ao4, co4, eo4⟩ := Kd.R_slice HO5.out; subst eo4) | (go_at_call 92; (with_reducible refine (impl_sumOf.calls k1 Ao4 co4 u s1 _ ?side1 ?side2 HA4.out).mono ?_); (case side1 => repeat (first | (with_reducible exact (Kd.R_reads' HO5.out).2.2) | (with_reducible refine Kd.C_alloc ?_ _) | (with_reducible refine Kd.C_drewN ?_ _) | (with_reducible refine Kd.C_drew ?_))); (case side2 => exact (Kd.R_reads' HO5.out).2.1); rintro e w' ⟨rfl, ⟨nd1, rfl⟩⟩) | (go_at_call 92; (with_reducible refine (impl_sumOf.calls k1 A0 c0 l0 s2 _ ?side1 ?side2 HA5.out).mono ?_); (case side1 => repeat (first | (with_reducible exact (Kd.C_below HR0.out HB.out)) | (with_reducible refine Kd.C_alloc ?_ _) | (with_reducible refine Kd.C_drewN ?_ _) | (with_reducible refine Kd.C_drew ?_))); (case side2 => exact HC0.out); rintro e w' ⟨rfl, ⟨nd2, rfl⟩⟩) | ((with_reducible refine gate_builtin (b := .append) (xs := #[.tmp 30, .tmp 32]) rfl ?_); at_builtin; refine Kd.S_append (Kd.slice 3 (Kd.int .i64)) (w0 := w) w.heap.size rfl (.tmp 30) (.tmp 32) 23 22 (.slice none 0 0) 24 rfl Try.underlying23 info22 rfl (by decide) (by omega) u5 o u [.slice Ao4 u.length co4] (fun _ => True) (fun k_ => some k_ = (Value.slice Ao4 u.length co4).ownBlock) rfl rfl ?aP ?aK (fun _ _ => trivial) ?aO ?aB ?aS ?aL ?_; (case aP => have q5 := Kd.R_drewN HO5.out (nd1 + nd2); have q6 := Kd.R_tight rfl q5; exact ⟨_, rfl, q6⟩); (case aK => have q5 := Kd.R_drewN HO5.out (nd1 + nd2); have q6 := Kd.S_drewN HO6.out (nd1 + nd2); have q7 := Kd.S_typed q6; have q8 := Kd.R_apart' q5 q7 (by decide); exact fun k_ hk => ⟨trivial, (q8.1 k_ hk.symm).2⟩); (case aO => exact Kd.S_mono (Kd.S_drewN HO6.out (nd1 + nd2)) (fun k_ hk => ⟨trivial, hk.2⟩)); (case aB => exact pw_below_drewN HB.out (nd1 + nd2)); (case aS => exact below_size (pw_below_drewN HB.out (nd1 + nd2))); (case aL => have := LM.out; omega); intro v7 w7 ho hb hg hat; clear HO5 HO6 HB; have HO6 := Aside0.mk ho; have HB := Aside0.mk hb; clear ho hb hg hat))
                repeat (go_quiet (fail); try go_wp2_with (first | (go_at_call 76; refine (impl_jump.calls k1 _ _ l0 a1 i u true _ (by repeat (first | exact (Kd.C_below HR0.out HB.out) | (with_reducible refine Kd.C_alloc ?_ _) | (with_reducible refine Kd.C_drewN ?_ _) | (with_reducible refine Kd.C_drew ?_))) HC0.out HA3.out).mono ?_; rintro e w4 ⟨v4, rfl, ho0, hb⟩; have n1_ := Aside0.mk (Kd.S_elder' (by (with_reducible repeat (first | apply Kd.S_alloc | apply Kd.S_drewN | apply Kd.S_drew)); exact HO6.out) (Kd.R_base ho0) hb); have n2_ := Aside0.mk (below_step (by repeat (first | (with_reducible first | exact HB.out | apply below_alloc | apply pw_below_drewN | apply below_drew1) | exact HB.out)) hb); have n0_ := Aside0.mk (Kd.R_lower ho0 (below_size (by repeat (first | (with_reducible first | exact HB.out | apply below_alloc | apply pw_below_drewN | apply below_drew1) | exact HB.out)))); clear HO6 HB; have HO5 := n0_; have HO6 := n1_; have HB := n2_; clear n0_ n1_ n2_ hb ho0; obtain ⟨Ao4, co4, eo4⟩ := Kd.R_slice HO5.out; subst eo4) | (go_at_call 92; (with_reducible refine (impl_sumOf.calls k1 Ao4 co4 u s1 _ ?side1 ?side2 HA4.out).mono ?_); (case side1 => repeat (first | (with_reducible exact (Kd.R_reads' HO5.out).2.2) | (with_reducible refine Kd.C_alloc ?_ _) | (with_reducible refine Kd.C_drewN ?_ _) | (with_reducible refine Kd.C_drew ?_))); (case side2 => exact (Kd.R_reads' HO5.out).2.1); rintro e w' ⟨rfl, ⟨nd1, rfl⟩⟩) | (go_at_call 92; (with_reducible refine (impl_sumOf.calls k1 A0 c0 l0 s2 _ ?side1 ?side2 HA5.out).mono ?_); (case side1 => repeat (first | (with_reducible exact (Kd.C_below HR0.out HB.out)) | (with_reducible refine Kd.C_alloc ?_ _) | (with_reducible refine Kd.C_drewN ?_ _) | (with_reducible refine Kd.C_drew ?_))); (case side2 => exact HC0.out); rintro e w' ⟨rfl, ⟨nd2, rfl⟩⟩) | ((with_reducible refine gate_builtin (b := .append) (xs := #[.tmp 30, .tmp 32]) rfl ?_); at_builtin; refine Kd.S_append (Kd.slice 3 (Kd.int .i64)) (w0 := w) w.heap.size rfl (.tmp 30) (.tmp 32) 23 22 (.slice none 0 0) 24 rfl Try.underlying23 info22 rfl (by decide) (by omega) u5 o u [.slice Ao4 u.length co4] (fun _ => True) (fun k_ => some k_ = (Value.slice Ao4 u.length co4).ownBlock) rfl rfl ?aP ?aK (fun _ _ => trivial) ?aO ?aB ?aS ?aL ?_; (case aP => have q5 := Kd.R_drewN HO5.out (nd1 + nd2); have q6 := Kd.R_tight rfl q5; exact ⟨_, rfl, q6⟩); (case aK => have q5 := Kd.R_drewN HO5.out (nd1 + nd2); have q6 := Kd.S_drewN HO6.out (nd1 + nd2); have q7 := Kd.S_typed q6; have q8 := Kd.R_apart' q5 q7 (by decide); exact fun k_ hk => ⟨trivial, (q8.1 k_ hk.symm).2⟩); (case aO => exact Kd.S_mono (Kd.S_drewN HO6.out (nd1 + nd2)) (fun k_ hk => ⟨trivial, hk.2⟩)); (case aB => exact pw_below_drewN HB.out (nd1 + nd2)); (case aS => exact below_size (pw_below_drewN HB.out (nd1 + nd2))); (case aL => have := LM.out; omega); intro v7 w7 ho hb hg hat; clear HO5 HO6 HB; have HO6 := Aside0.mk ho; have HB := Aside0.mk hb; clear ho hb hg hat)))
                go_roundg k1
                case measure => have := HK1.out; omega
                case rel => exact ⟨o ++ [u], wrap64 (i + 1), (by first | rfl | (simp; done) | (simp [*]; done)), ⟨by have := HI.out; have := HI3.out; unfold wrap64; omega⟩, H', ⟨by have := HK1.out; omega⟩, ⟨fun x hx => by rcases List.mem_append.1 hx with h_ | h_; exact HP.out x h_; (simp at h_; exact h_ ▸ HU.out)⟩, ⟨by have := LM.out; simp; omega⟩, ⟨by (with_reducible repeat (first | apply Kd.S_alloc | apply Kd.S_drewN | apply Kd.S_drew)); exact Kd.S_mono HO6.out (fun _ _ => trivial)⟩, ⟨by repeat (first | (with_reducible first | exact HB.out | apply below_alloc | apply pw_below_drewN | apply below_drew1) | exact HB.out)⟩⟩
              · rw [if_neg c10] at H
                exact absurd H (by simp)
            · rw [if_neg c9] at H
              exact absurd H (by simp)
          · have H' : Aside0 (impl_branches.l0 k1 l0 a1 o (wrap64 (i + 1)) = some r) := ⟨by
              have H2 : (if s2 < s1 then (if o.length < 1000000000 then (if u.length < 9223372036854775807 then impl_branches.l0 k1 l0 a1 (o ++ [u]) (wrap64 (i + 1)) else none) else none) else impl_branches.l0 k1 l0 a1 o (wrap64 (i + 1))) = some r := H
              rw [if_neg c7] at H2
              exact H2⟩
            have c7b0 : decide (s2 < s1) = false := decide_eq_false c7
            clear c7 H
            go_wp2_with (first | (go_at_call 76; refine (impl_jump.calls k1 _ _ l0 a1 i u true _ (by repeat (first | exact (Kd.C_below HR0.out HB.out) | (with_reducible refine Kd.C_alloc ?_ _) | (with_reducible refine Kd.C_drewN ?_ _) | (with_reducible refine Kd.C_drew ?_))) HC0.out HA3.out).mono ?_; rintro e w4 ⟨v4, rfl, ho0, hb⟩; have n1_ := Aside0.mk (Kd.S_elder' (by (with_reducible repeat (first | apply Kd.S_alloc | apply Kd.S_drewN | apply Kd.S_drew)); exact HO6.out) (Kd.R_base ho0) hb); have n2_ := Aside0.mk (below_step (by repeat (first | (with_reducible first | exact HB.out | apply below_alloc | apply pw_below_drewN | apply below_drew1) | exact HB.out)) hb); have n0_ := Aside0.mk (Kd.R_lower ho0 (below_size (by repeat (first | (with_reducible first | exact HB.out | apply below_alloc | apply pw_below_drewN | apply below_drew1) | exact HB.out)))); clear HO6 HB; have HO5 := n0_; have HO6 := n1_; have HB := n2_; clear n0_ n1_ n2_ hb ho0; obtain ⟨Ao4, co4, eo4⟩ := Kd.R_slice HO5.out; subst eo4) | (go_at_call 92; (with_reducible refine (impl_sumOf.calls k1 Ao4 co4 u s1 _ ?side1 ?side2 HA4.out).mono ?_); (case side1 => repeat (first | (with_reducible exact (Kd.R_reads' HO5.out).2.2) | (with_reducible refine Kd.C_alloc ?_ _) | (with_reducible refine Kd.C_drewN ?_ _) | (with_reducible refine Kd.C_drew ?_))); (case side2 => exact (Kd.R_reads' HO5.out).2.1); rintro e w' ⟨rfl, ⟨nd1, rfl⟩⟩) | (go_at_call 92; (with_reducible refine (impl_sumOf.calls k1 A0 c0 l0 s2 _ ?side1 ?side2 HA5.out).mono ?_); (case side1 => repeat (first | (with_reducible exact (Kd.C_below HR0.out HB.out)) | (with_reducible refine Kd.C_alloc ?_ _) | (with_reducible refine Kd.C_drewN ?_ _) | (with_reducible refine Kd.C_drew ?_))); (case side2 => exact HC0.out); rintro e w' ⟨rfl, ⟨nd2, rfl⟩⟩))
            repeat (go_quiet (fail); try go_wp2_with (first | (go_at_call 76; refine (impl_jump.calls k1 _ _ l0 a1 i u true _ (by repeat (first | exact (Kd.C_below HR0.out HB.out) | (with_reducible refine Kd.C_alloc ?_ _) | (with_reducible refine Kd.C_drewN ?_ _) | (with_reducible refine Kd.C_drew ?_))) HC0.out HA3.out).mono ?_; rintro e w4 ⟨v4, rfl, ho0, hb⟩; have n1_ := Aside0.mk (Kd.S_elder' (by (with_reducible repeat (first | apply Kd.S_alloc | apply Kd.S_drewN | apply Kd.S_drew)); exact HO6.out) (Kd.R_base ho0) hb); have n2_ := Aside0.mk (below_step (by repeat (first | (with_reducible first | exact HB.out | apply below_alloc | apply pw_below_drewN | apply below_drew1) | exact HB.out)) hb); have n0_ := Aside0.mk (Kd.R_lower ho0 (below_size (by repeat (first | (with_reducible first | exact HB.out | apply below_alloc | apply pw_below_drewN | apply below_drew1) | exact HB.out)))); clear HO6 HB; have HO5 := n0_; have HO6 := n1_; have HB := n2_; clear n0_ n1_ n2_ hb ho0; obtain ⟨Ao4, co4, eo4⟩ := Kd.R_slice HO5.out; subst eo4) | (go_at_call 92; (with_reducible refine (impl_sumOf.calls k1 Ao4 co4 u s1 _ ?side1 ?side2 HA4.out).mono ?_); (case side1 => repeat (first | (with_reducible exact (Kd.R_reads' HO5.out).2.2) | (with_reducible refine Kd.C_alloc ?_ _) | (with_reducible refine Kd.C_drewN ?_ _) | (with_reducible refine Kd.C_drew ?_))); (case side2 => exact (Kd.R_reads' HO5.out).2.1); rintro e w' ⟨rfl, ⟨nd1, rfl⟩⟩) | (go_at_call 92; (with_reducible refine (impl_sumOf.calls k1 A0 c0 l0 s2 _ ?side1 ?side2 HA5.out).mono ?_); (case side1 => repeat (first | (with_reducible exact (Kd.C_below HR0.out HB.out)) | (with_reducible refine Kd.C_alloc ?_ _) | (with_reducible refine Kd.C_drewN ?_ _) | (with_reducible refine Kd.C_drew ?_))); (case side2 => exact HC0.out); rintro e w' ⟨rfl, ⟨nd2, rfl⟩⟩)))
            go_roundg k1
            case measure => have := HK1.out; omega
            case rel => exact ⟨o, wrap64 (i + 1), (by first | rfl | (simp; done) | (simp [*]; done)), ⟨by have := HI.out; have := HI3.out; unfold wrap64; omega⟩, H', ⟨by have := HK1.out; omega⟩, HP, HL, ⟨by (with_reducible repeat (first | apply Kd.S_alloc | apply Kd.S_drewN | apply Kd.S_drew)); exact Kd.S_mono HO6.out (fun _ _ => trivial)⟩, ⟨by repeat (first | (with_reducible first | exact HB.out | apply below_alloc | apply pw_below_drewN | apply below_drew1) | exact HB.out)⟩⟩
      · rw [if_neg c2] at H
        have c2b0 : decide (i < (l0.length : Int)) = false := decide_eq_false c2
        clear c2
        obtain rfl : sortDedup o = r := by simpa using H
        clear H
        go_wp2_with (first
          | (go_at_call 62; refine (rows_sort cmpL cmpL_total (fun x => x.length < 9223372036854775807) 63 #[] compare_enters compare_at (fun _ => True) _ o w _ HB.out HP.out (by have := HL.out; omega) HO6.out).mono ?_; rintro e w3 ⟨rfl, ys, hp, hs, ho, hb, hk⟩; have n1_ := Aside0.mk (Kd.S_mono ho (fun _ _ => trivial)); have n2_ := Aside0.mk hb; have n3_ := Aside0.mk hp; have n4_ := Aside0.mk hs; clear HO6 HB; have HO6 := n1_; have HB := n2_; have HPM := n3_; have HSO := n4_; clear n1_ n2_ n3_ n4_ ho hb hk hp hs)
          | (go_at_call 93; refine (rows_compact (fun _ => True) _ ys w _ HB.out (fun x hx => HP.out x ((HPM.out.mem_iff).1 hx)) (HSO.out.imp (fun h_ => by omega)) HO6.out).mono ?_; rintro e w4 ⟨v4, rfl, zs, hz1, hz2, ho, hb, hk⟩; have n1_ := Aside0.mk (Kd.S_mono ho (fun _ _ => trivial)); have n2_ := Aside0.mk hb; have n3_ := Aside0.mk (sortDedup_is hz1 (fun z => (hz2 z).trans HPM.out.mem_iff)); clear HO6 HB; have HO6 := n1_; have HB := n2_; have HZ := n3_; clear n1_ n2_ n3_ ho hb hk hz1 hz2))
        go_ret
        exact ⟨_, rfl, by rw [← HZ.out]; exact HO6.out, HB.out⟩

def impl_BranchesOf.f (k : Nat) (l0 : List Int) (a1 a2 : Int) : Option (List (List Int) × Bool) := (impl_isSolution.f k l0 a1 a2).bind fun t => (if t = true then ((impl_branches.f k l0 a1).bind fun o => (if o.length < 5864062014805 then some (o, true) else none)) else some ([], false))
theorem impl_BranchesOf.mono : ∀ a0 a1 a2 k, LeO (impl_BranchesOf.f k a0 a1 a2) (impl_BranchesOf.f (k + 1) a0 a1 a2) := by
  intro a0 a1 a2 k
  unfold impl_BranchesOf.f
  repeat' first
    | (with_reducible exact impl_isSolution.mono _ _ _ _)
    | (with_reducible exact impl_branches.mono _ _ _)
    | (with_reducible exact LeO.refl _)
    | (with_reducible exact LeO.none _)
    | (with_reducible refine LeO.ite ?_ ?_)
    | (with_reducible refine LeO.bind ?_ (fun _ => ?_))
set_option maxHeartbeats 4000000 in
set_option maxRecDepth 100000 in
theorem impl_BranchesOf.calls (k : Nat) (A0 : Option Addr) (c0 : Nat) (l0 : List Int) (a1 : Int) (a2 : Int) (r1 : List (List Int)) (r2 : Bool) (w : World) (hr0 : Kd.C (Kd.int .i64) w A0 l0.length l0) (hc0 : l0.length ≤ c0) (h : impl_BranchesOf.f k l0 a1 a2 = some (r1, r2)) :
    Calls Try.prog 11 #[.slice A0 l0.length c0, .int .i64 a1, .int .i64 a2] w fun e w' => ∃ v0_ : Value, e = .returned (.tuple #[v0_, .bool r2]) ∧ Kd.S (Kd.slice 3 (Kd.int .i64)) 22 w' w.heap.size (fun _ => True) v0_ r1 ∧ Below w.heap.size w w' := by
  unfold impl_BranchesOf.f at h
  obtain ⟨t, A3, h⟩ := Option.bind_eq_some_iff.mp h
  have HR0 := Aside0.mk hr0
  have HC0 := Aside0.mk hc0
  have HB := Aside0.mk (Below.refl w.heap.size w)
  have HA3 := Aside0.mk A3
  clear hr0 hc0 A3
  cases t with
  | false =>
    obtain ⟨rfl, rfl⟩ : ([] : List (List Int)) = r1 ∧ false = r2 := by simpa using h
    clear h
    go_enter Try.func11, Try.ntmps11
    go_wp2_with (go_at_call 50; refine (impl_isSolution.calls k A0 c0 l0 a1 a2 false _ (by repeat (first | exact (Kd.C_below HR0.out HB.out) | (with_reducible refine Kd.C_alloc ?_ _) | (with_reducible refine Kd.C_drewN ?_ _) | (with_reducible refine Kd.C_drew ?_))) HC0.out HA3.out).mono ?_; rintro e w4 ⟨rfl, hb⟩; have n2_ := Aside0.mk (below_step (by repeat (first | (with_reducible first | exact HB.out | apply below_alloc | apply pw_below_drewN | apply below_drew1) | exact HB.out)) hb); clear HB hb; have HB := n2_; clear n2_)
    go_ret2
    exact ⟨_, rfl, Kd.S_nil _ _ _ _ _, (by repeat (first | (with_reducible first | exact HB.out | apply below_alloc | apply pw_below_drewN | apply below_drew1) | exact HB.out))⟩
  | true =>
    replace h : ((impl_branches.f k l0 a1).bind fun o => (if o.length < 5864062014805 then some (o, true) else none)) = some (r1, r2) := by simpa using h
    obtain ⟨o, A4, h⟩ := Option.bind_eq_some_iff.mp h
    by_cases c5 : o.length < 5864062014805
    · obtain ⟨rfl, rfl⟩ : o = r1 ∧ true = r2 := by simpa [c5] using h
      have HA4 := Aside0.mk A4
      have HZ := Aside0.mk c5
      clear h A4 c5
      go_enter Try.func11, Try.ntmps11
      go_wp2_with (first
        | (go_at_call 50; refine (impl_isSolution.calls k A0 c0 l0 a1 a2 true _ (by repeat (first | exact (Kd.C_below HR0.out HB.out) | (with_reducible refine Kd.C_alloc ?_ _) | (with_reducible refine Kd.C_drewN ?_ _) | (with_reducible refine Kd.C_drew ?_))) HC0.out HA3.out).mono ?_; rintro e w4 ⟨rfl, hb⟩; have n2_ := Aside0.mk (below_step (by repeat (first | (with_reducible first | exact HB.out | apply below_alloc | apply pw_below_drewN | apply below_drew1) | exact HB.out)) hb); clear HB hb; have HB := n2_; clear n2_)
        | (go_at_call 52; refine (impl_branches.calls k A0 c0 l0 a1 o _ (by repeat (first | exact (Kd.C_below HR0.out HB.out) | (with_reducible refine Kd.C_alloc ?_ _) | (with_reducible refine Kd.C_drewN ?_ _) | (with_reducible refine Kd.C_drew ?_))) HC0.out HA4.out).mono ?_; rintro e w5 ⟨v5, rfl, ho0, hb⟩; have n1_ := Aside0.mk (Kd.S_lower ho0 (below_size (by repeat (first | (with_reducible first | exact HB.out | apply below_alloc | apply pw_below_drewN | apply below_drew1) | exact HB.out)))); have n2_ := Aside0.mk (below_step (by repeat (first | (with_reducible first | exact HB.out | apply below_alloc | apply pw_below_drewN | apply below_drew1) | exact HB.out)) hb); clear HB hb ho0; have HO6 := n1_; have HB := n2_; clear n1_ n2_)
        | (go_at_call 51; refine (rows_clone v5 o w _ (by repeat (first | (with_reducible first | exact HB.out | apply below_alloc | apply pw_below_drewN | apply below_drew1) | exact HB.out)) HZ.out (by (with_reducible repeat (first | apply Kd.S_alloc | apply Kd.S_drewN | apply Kd.S_drew)); exact HO6.out)).mono ?_; rintro e w6 ⟨v6, rfl, ho, hb⟩; have n0_ := Aside0.mk ho; have n1_ := Aside0.mk hb; clear HO6 HB ho hb; have HO6 := n0_; have HB := n1_; clear n0_ n1_))
      go_ret2
      exact ⟨_, rfl, HO6.out, HB.out⟩
    · exact absurd h (by simp [c5])
end Go.Proofs.Ytgpoljimomfbbaa.P

-- UtreeL
namespace Go.Proofs.Ytgpoljimomfbbaa.P
open Go.RowKit Go.Proofs.YtgpoljimomfbbaaW.PrintWords Go.Proofs.YtgpoljimomfbbaaW.PrintLast
set_option linter.unusedVariables false
set_option linter.unusedSimpArgs false
def addAll (most : Int) : List (List Int) → List (List Int) → List (List Int)
  | o, [] => o
  | o, u :: us => if rd u 0 ≤ most ∧ u ∉ o then addAll most (o ++ [u]) us else addAll most o us
/-- What the walk needs to know of the rows: they are no empty ones, and not too many. -/
def goodB (o bs : List (List Int)) : Bool := decide (o.length + bs.length < 1000000000) && bs.all (fun u => decide (0 < u.length) && decide (u.length < 9223372036854775807))
theorem goodB_is {o bs : List (List Int)} (h : goodB o bs = true) : o.length + bs.length < 1000000000 ∧ ∀ u ∈ bs, 0 < u.length ∧ u.length < 9223372036854775807 := by
  unfold goodB at h
  rw [Bool.and_eq_true] at h
  refine ⟨of_decide_eq_true h.1, fun u hu => ?_⟩
  have h2 := List.all_eq_true.1 h.2 u hu
  rw [Bool.and_eq_true] at h2
  exact ⟨of_decide_eq_true h2.1, of_decide_eq_true h2.2⟩
def treeL (a most : Int) : Nat → List (List Int) → Int → Option (List (List Int) × Bool)
  | 0, _, _ => none
  | k + 1, o, i => if i < (o.length : Int) then (impl_branches.f k (rd_L1 o i) a).bind fun bs => (if goodB o bs = true then (if ((addAll most o bs).length : Int) > 500 then some (([] : List (List Int)), false) else treeL a most k (addAll most o bs) (wrap64 (i + 1))) else none) else some (sortDedup o, true)
theorem treeL_mono (a most : Int) : ∀ k, (∀ o i, LeO (treeL a most k o i) (treeL a most (k + 1) o i))
  | 0 => fun _ _ r h => by simp [treeL] at h
  | k + 1 => by
    have ih0 := treeL_mono a most k
    intro o i
    unfold treeL
    repeat' first
      | (with_reducible exact ih0 _ _)
      | (with_reducible exact impl_branches.mono _ _ _)
      | (with_reducible exact LeO.refl _)
      | (with_reducible exact LeO.none _)
      | (with_reducible refine LeO.ite ?_ ?_)
      | (with_reducible refine LeO.bind ?_ (fun _ => ?_))
end Go.Proofs.Ytgpoljimomfbbaa.P

-- UrowsRest
namespace Go.Proofs.Ytgpoljimomfbbaa.P
set_option linter.unusedVariables false
set_option linter.unusedSimpArgs false
open Go.RowKit Go.Proofs.YtgpoljimomfbbaaW.PrintWords Go.Proofs.YtgpoljimomfbbaaW.PrintLast

/-- A block that is none of those that are left. -/
def Free (g : Nat) (ns : List Value) (k : Nat) : Prop := k ≠ g ∧ ∀ u ∈ ns, u.ownBlock ≠ some k
theorem Free.tail {g : Nat} {n : Value} {ns : List Value} {k : Nat} (h : Free g (n :: ns) k) : Free g ns k := ⟨h.1, fun u hu => h.2 u (List.mem_cons_of_mem _ hu)⟩
/-- What is left of a row of rows behind its first off rows. -/
structure Rest (w : World) (base g off : Nat) (ns : List Value) (bs : List (List Int)) : Prop where
  lt : ns ≠ [] → g < w.heap.size
  cell : ∀ (j : Nat) (u : Value), ns[j]? = some u → w.cell? ⟨g, off + j, none⟩ = some u
  rows : RowVals w base (fun k => k ≠ g ∧ k < w.heap.size ∧ ∃ u ∈ ns, u.ownBlock = some k) ns bs
theorem Rest.step {w w1 : World} {base g off : Nat} {ns : List Value} {bs : List (List Int)} (h : Rest w base g off ns bs) (hs : w.heap.size ≤ w1.heap.size) (hm : ∀ k, ¬ Free g ns k → k < w.heap.size → w1.heap[k]? = w.heap[k]?) : Rest w1 base g off ns bs where
  lt := fun hne => by have := h.lt hne; omega
  cell := fun j u hu => by
    rw [← h.cell j u hu]
    unfold World.cell?
    have hne : ns ≠ [] := by rintro rfl; simp at hu
    rw [hm g (fun hf => hf.1 rfl) (h.lt hne)]
  rows := h.rows.step (fun k hk hlt => hm k (fun hf => by obtain ⟨_, _, u, hu, e⟩ := hk; exact hf.2 u hu e) hlt) (fun k hk hlt => ⟨hk.1, by omega, hk.2.2⟩)
theorem Rest.below {w w1 : World} {base g off : Nat} {ns : List Value} {bs : List (List Int)} (h : Rest w base g off ns bs) (hb : Below w.heap.size w w1) : Rest w1 base g off ns bs :=
  h.step hb.size (fun k _ hk => hb.block k hk)
theorem Rest.tail {w : World} {base g off : Nat} {n : Value} {ns : List Value} {b : List Int} {bs : List (List Int)} (h : Rest w base g off (n :: ns) (b :: bs)) : Rest w base g (off + 1) ns bs where
  lt := fun _ => h.lt (by simp)
  cell := fun j u hu => by
    have := h.cell (j + 1) u (by simpa using hu)
    rw [show off + 1 + j = off + (j + 1) from by omega]
    exact this
  rows := {
    len := by have := h.rows.len; simpa using this
    row := fun j u x hu hx => by
      have hr := h.rows.row (j + 1) u x (by simpa using hu) (by simpa using hx)
      have hr2 := Kd.R_bound (Kd.R_tight rfl hr)
      refine Kd.R_mono hr2 (fun k hk => ?_)
      have := hr.1 k hk.1.symm
      exact ⟨this.1, this.2.1, u, List.mem_of_getElem? hu, hk.1.symm⟩
    apart := (List.pairwise_cons.1 h.rows.apart).2 }
theorem Rest.head {w : World} {base g off : Nat} {n : Value} {ns : List Value} {b : List Int} {bs : List (List Int)} (h : Rest w base g off (n :: ns) (b :: bs)) :
    ∃ A c, n = .slice A b.length c ∧ b.length ≤ c ∧ w.cell? ⟨g, off, none⟩ = some (.slice A b.length c) ∧ Kd.R (Kd.int .i64) 3 w base (fun k => some k = n.ownBlock) n b ∧ (∀ k, some k = n.ownBlock → Free g ns k ∧ k < w.heap.size) := by
  have hr := h.rows.row 0 n b rfl rfl
  have hr2 := Kd.R_tight rfl hr
  obtain ⟨A, c, e⟩ := Kd.R_slice hr
  refine ⟨A, c, e, ?_, ?_, hr2, fun k hk => ?_⟩
  · rw [e] at hr
    exact (Kd.R_reads' hr).2.1
  · rw [← e]
    have := h.cell 0 n rfl
    simpa using this
  · have h1 := hr.1 k hk.symm
    refine ⟨⟨h1.1, fun u hu e2 => ?_⟩, h1.2.1⟩
    exact (List.pairwise_cons.1 h.rows.apart).1 u hu k hk.symm e2
/-- What a call has made, to be walked. -/
theorem rest_of {w : World} {base B : Nat} {v : Value} {bs : List (List Int)} (h : Kd.S KII 22 w B (fun _ => True) v bs) (hb : base ≤ B) :
    ∃ A g c ns, v = .slice A bs.length c ∧ (bs ≠ [] → ∃ ad : Addr, A = some ad ∧ ad = ⟨g, 0, none⟩) ∧ Rest w base g 0 ns bs ∧ B ≤ g ∧ (∀ u ∈ ns, ∀ k, u.ownBlock = some k → B ≤ k) := by
  obtain ⟨vs, h0, hown, hv⟩ := S_vals h
  obtain ⟨hlen, hcase⟩ := hown
  have hge : ∀ u ∈ vs, ∀ k, u.ownBlock = some k → B ≤ k := fun u hu k hk => (hv.own hu hk).2.1
  rcases hcase with ⟨ev, hn⟩ | ⟨g, cap, cur, ev, hg, hb2, hc, hm, hcs, ht⟩
  · have e0 : bs = [] := List.eq_nil_of_length_eq_zero hn
    subst e0
    have e1 : vs = [] := List.eq_nil_of_length_eq_zero (by simpa using hlen)
    subst e1
    subst ev
    exact ⟨none, B, 0, [], rfl, fun h => absurd rfl h, ⟨fun h => absurd rfl h, fun j u hu => by simp at hu, ⟨rfl, fun j u x hu => by simp at hu, List.Pairwise.nil⟩⟩, Nat.le_refl _, fun u hu => by simp at hu⟩
  · subst ev
    have hgl : g < w.heap.size := by
      rcases Nat.lt_or_ge g w.heap.size with h1 | h1
      · exact h1
      · rw [Array.getElem?_eq_none h1] at hb2
        simp at hb2
    refine ⟨some ⟨g, 0, none⟩, g, cap, vs, rfl, fun _ => ⟨_, rfl, rfl⟩, ⟨fun _ => hgl, fun j u hu => ?_, ?_⟩, hg, hge⟩
    · have hj := (List.getElem?_eq_some_iff.1 hu).1
      have h1 : cur[j]? = some u := by
        have h2 : (cur.toList.take (bs.length * 1))[j]? = vs[j]? := by rw [ht]
        have hjb : j < bs.length * 1 := by omega
        rw [List.getElem?_take_of_lt hjb] at h2
        rw [← hu]
        simpa using h2
      simp [World.cell?, hb2, h1]
    · refine { len := hv.len, row := fun j u x hu hx => ?_, apart := hv.apart }
      have hr := hv.row j u x hu hx
      have hr2 := Kd.R_bound (Kd.R_tight rfl hr)
      refine Kd.R_lower (Kd.R_mono hr2 (fun k hk => ?_)) hb
      have h1 := hr.1 k hk.1.symm
      refine ⟨fun e => h1.2 (by rw [e]; rfl), hk.2.2.1, u, List.mem_of_getElem? hu, hk.1.symm⟩
end Go.Proofs.Ytgpoljimomfbbaa.P

-- UrowsHas
namespace Go.Proofs.Ytgpoljimomfbbaa.P
open Go Go.Shelf Go.RowKit Go.Proofs.YtgpoljimomfbbaaW.PrintWords Go.Proofs.YtgpoljimomfbbaaW.PrintLast
set_option linter.unusedVariables false
set_option linter.unusedSimpArgs false
set_option maxHeartbeats 1000000 in
theorem rows_contains (p : List Int → Bool) (Pr : List Int → Prop) (gf : Nat) (lb : Array Value)
    (eg : ∀ args w, (callFunc gf args).run Try.prog w = .ok (.enter gf args) w) (w0 w : World)
    (hp : ∀ (W : World) (A : Option Addr) (c : Nat) (x : List Int), Below w.heap.size w W → Pr x → Kd.C (Kd.int .i64) W A x.length x → x.length ≤ c → Go.Proofs.FnGives Try.prog gf lb #[.slice A x.length c] (.bool (p x)) W)
    (v : Value) (xs : List (List Int)) (hP : ∀ x ∈ xs, Pr x) (hne : xs ≠ []) (hl : xs.length ≤ 9223372036854775807) (ho : Kd.S KII 22 w w0.heap.size (fun _ => True) v xs) :
    Calls Try.prog 59 #[v, .func (.func gf) #[] lb] w fun e w' => e = .returned (.bool (xs.any p)) ∧ ∃ q, w' = w.drewN q := by
  obtain ⟨vs, h0, hown, hv⟩ := S_vals ho
  obtain ⟨hlen, hcase⟩ := hown
  rcases hcase with ⟨ev, hn⟩ | ⟨g, cap, cur, ev, hg, hb, hc, hm, hcs, ht⟩
  · exact absurd (List.eq_nil_of_length_eq_zero hn) hne
  · subst ev
    obtain ⟨ds, e1, e2⟩ := rows_at (Pr := Pr) vs xs hv.len hv.row hP
    have hds : ds ≠ [] := fun e => hne (by rw [← e2, e]; rfl)
    letI : Inhabited (RowAt w w0.heap.size (fun k => True ∧ some k ≠ (Value.slice (some ⟨g, 0, none⟩) xs.length cap).ownBlock) Pr) := ⟨ds.head hds⟩
    have hdl : ds.length = xs.length := by have := congrArg List.length e2; simpa using this
    have ht' : cur.toList.take ds.length = ds.map RowAt.v := by rw [hdl, e1]; simpa using ht
    have hC := AnyE.slices_ContainsFunc (P := Try.prog) Try.laysSlH8_f59 (RowAt.v (w := w) (base := w0.heap.size) (ok := fun k => True ∧ some k ≠ (Value.slice (some ⟨g, 0, none⟩) xs.length cap).ownBlock) (Pr := Pr)) (fun a => p a.l) gf lb eg g 0 xs.length cap ds w
      (fun W x hB => by
        have hx := Kd.R_step (w1 := W) x.hR (fun k hk hlk => hB.block k hlk)
        obtain ⟨A, c, ea, ha, hra⟩ := Kd.R_reads hx
        rw [ea]
        exact hp W A c x.l hB x.hP hra ha) (by omega) hl (fun j hj => by
        have h1 : cur[j]? = some (ds[j]!).v := by
          have h2 : (cur.toList.take ds.length)[j]? = (ds.map RowAt.v)[j]? := by rw [ht']
          rw [List.getElem?_take_of_lt hj, List.getElem?_map, List.getElem?_eq_getElem hj] at h2
          rw [getElem!_pos ds j hj]
          simpa using h2
        simp [World.cell?, hb, h1])
    have hany : (ds.take xs.length).any (fun a => p a.l) = xs.any p := by
      rw [List.take_of_length_le (by omega)]
      have h1 := congrArg (fun l => List.any l p) e2
      simp only [List.any_map] at h1
      exact h1
    refine hC.mono ?_
    rintro e w' ⟨rfl, hw⟩
    rw [hany]
    exact ⟨rfl, hw⟩
end Go.Proofs.Ytgpoljimomfbbaa.P

-- GtreeUpTo
namespace Go.Proofs.Ytgpoljimomfbbaa.P
open Go Go.Shelf Go.RowKit Go.Proofs.YtgpoljimomfbbaaW.PrintWords Go.Proofs.YtgpoljimomfbbaaW.PrintLast
set_option linter.unusedVariables false
set_option linter.unusedSimpArgs false

/-- The closure of TreeUpTo: told to be the row that the variable holds. -/
theorem tree_closure (W : World) (A : Option Addr) (c : Nat) (x : List Int) (B : Nat) (A2 : Option Addr) (c2 : Nat) (y : List Int) (hx : x.length < 9223372036854775807) (h1 : Kd.C (Kd.int .i64) W A x.length x) (h2 : x.length ≤ c) (h3 : Kd.C (Kd.int .i64) W A2 y.length y) (h4 : y.length ≤ c2)
    (hb : W.cell? ⟨B, 0, none⟩ = some (.slice A2 y.length c2)) :
    Go.Proofs.FnGives Try.prog 60 #[.pointer (some ⟨B, 0, none⟩)] #[.slice A x.length c] (.bool (decide (x = y))) W := by
  show Calls Try.prog 60 #[.slice A x.length c, .pointer (some ⟨B, 0, none⟩)] W fun e w' => e = .returned (.bool (decide (x = y))) ∧ ∃ q, w' = W.drewN q
  have H1 := Aside0.mk h1
  have H3 := Aside0.mk h3
  clear h1 h3
  go_enter Try.func60, Try.ntmps60
  go_wp2_with (go_at_call 61; refine (slices_Equal_int_int.calls (x.length + 1) A c x A2 c2 y (decide (x = y)) _ H1.out h2 H3.out h4 (equal_ev x y hx)).mono ?_; rintro e w' ⟨rfl, ⟨n, rfl⟩⟩)
  go_ret
  exact ⟨rfl, _, rfl⟩

def impl_TreeUpTo.f (k : Nat) (l0 : List Int) (a1 a2 a3 : Int) : Option (List (List Int) × Bool) := (impl_isSolution.f k l0 a1 a2).bind fun t => (if t = true then ((impl_within.f a3 1 100000).bind fun t2 => (if t2 = true then (if 0 < (l0.length : Int) then (if rd l0 0 ≤ a3 then ((slices_Clone_int_int.f l0).bind fun l1 => treeL a1 a3 k [l1] 0) else some ([], false)) else none) else some ([], false))) else some ([], false))
theorem impl_TreeUpTo.mono : ∀ a0 a1 a2 a3 k, LeO (impl_TreeUpTo.f k a0 a1 a2 a3) (impl_TreeUpTo.f (k + 1) a0 a1 a2 a3) := by
  intro a0 a1 a2 a3 k
  unfold impl_TreeUpTo.f
  repeat' first
    | (with_reducible exact impl_isSolution.mono _ _ _ _)
    | (with_reducible exact treeL_mono _ _ _ _ _)
    | (with_reducible exact LeO.refl _)
    | (with_reducible exact LeO.none _)
    | (with_reducible refine LeO.ite ?_ ?_)
    | (with_reducible refine LeO.bind ?_ (fun _ => ?_))
theorem equal_enters : ∀ args w, (callFunc 60 args).run Try.prog w = .ok (.enter 60 args) w := fun args w => enters_of Try.func60 (by kernel_rfl) rfl args w
theorem any_is (o : List (List Int)) (b : List Int) : o.any (fun x => decide (x = b)) = decide (b ∈ o) := by
  rw [Bool.eq_iff_iff]
  simp
theorem tree_sorted {o ys : List (List Int)} (hn : o.Nodup) (hp : ys.Perm o) (hs : ys.Pairwise fun a b => 0 ≤ cmpL b a) : ys = sortDedup o := by
  refine sortDedup_is ?_ (fun z => hp.mem_iff)
  have h2 : ys.Nodup := hp.nodup_iff.2 hn
  refine (hs.and h2).imp ?_
  rintro a b ⟨h3, h4⟩
  have h5 := cmpL_anti a b
  have h6 : cmpL a b ≠ 0 := fun e => h4 (cmpL_eq a b e)
  omega
set_option maxHeartbeats 1000000 in
/-- Is the row there? -/
theorem tree_has (base0 : World) (w : World) (v : Value) (o : List (List Int)) (b : List Int) (B : Nat) (A2 : Option Addr) (c2 : Nat) (ok : Nat → Prop) (hP : ∀ x ∈ o, x.length < 9223372036854775807) (hne : 0 < o.length) (hl : o.length ≤ 9223372036854775807) (ho : Kd.S KII 22 w base0.heap.size ok v o)
    (hb : Kd.C (Kd.int .i64) w A2 b.length b) (hc : b.length ≤ c2) (hx : w.cell? ⟨B, 0, none⟩ = some (.slice A2 b.length c2)) :
    Calls Try.prog 59 #[v, .func (.func 60) #[] #[.pointer (some ⟨B, 0, none⟩)]] w fun e w' => e = .returned (.bool (decide (b ∈ o))) ∧ ∃ q, w' = w.drewN q := by
  have h := rows_contains (fun x => decide (x = b)) (fun x => x.length < 9223372036854775807) 60 #[.pointer (some ⟨B, 0, none⟩)] equal_enters base0 w (fun W A c x hB hP1 h1 h2 => tree_closure W A c x B A2 c2 b hP1 h1 h2 (Kd.C_below hb hB) hc (pw_cell_below hB hx)) v o hP (fun e => by rw [e] at hne; simp at hne) hl (Kd.S_mono ho (fun _ _ => trivial))
  rw [any_is] at h
  exact h

set_option maxHeartbeats 4000000 in
set_option maxRecDepth 100000 in
theorem impl_TreeUpTo.calls (k : Nat) (A0 : Option Addr) (c0 : Nat) (l0 : List Int) (a1 : Int) (a2 : Int) (a3 : Int) (r1 : List (List Int)) (r2 : Bool) (w : World) (hr0 : Kd.C (Kd.int .i64) w A0 l0.length l0) (hc0 : l0.length ≤ c0) (h : impl_TreeUpTo.f k l0 a1 a2 a3 = some (r1, r2)) :
    Calls Try.prog 18 #[.slice A0 l0.length c0, .int .i64 a1, .int .i64 a2, .int .i64 a3] w fun e w' => ∃ v0_ : Value, e = .returned (.tuple #[v0_, .bool r2]) ∧ Kd.S (Kd.slice 3 (Kd.int .i64)) 22 w' w.heap.size (fun _ => True) v0_ r1 ∧ Below w.heap.size w w' := by
  unfold impl_TreeUpTo.f at h
  obtain ⟨t, A3, h⟩ := Option.bind_eq_some_iff.mp h
  have HR0 := Aside0.mk hr0
  have HC0 := Aside0.mk hc0
  have HL0 := Aside0.mk hr0.2.1
  have HB := Aside0.mk (Below.refl w.heap.size w)
  have HA3 := Aside0.mk A3
  clear hr0 hc0 A3
  cases t with
  | false =>
    obtain ⟨rfl, rfl⟩ : ([] : List (List Int)) = r1 ∧ false = r2 := by simpa using h
    clear h
    go_enter Try.func18, Try.ntmps18
    go_wp2_with (go_at_call 50; refine (impl_isSolution.calls k _ c0 l0 a1 a2 false _ (by repeat (first | exact (Kd.C_below HR0.out HB.out) | (with_reducible refine Kd.C_alloc ?_ _) | (with_reducible refine Kd.C_drewN ?_ _) | (with_reducible refine Kd.C_drew ?_))) HC0.out HA3.out).mono ?_; rintro e w4 ⟨rfl, hb⟩; have n2_ := Aside0.mk (below_step (by repeat (first | (with_reducible first | exact HB.out | apply below_alloc | apply pw_below_drewN | apply below_drew1) | exact HB.out)) hb); clear HB hb; have HB := n2_; clear n2_)
    go_ret2
    exact ⟨_, rfl, Kd.S_nil _ _ _ _ _, (by repeat (first | (with_reducible first | exact HB.out | apply below_alloc | apply pw_below_drewN | apply below_drew1) | exact HB.out))⟩
  | true =>
    replace h : ((impl_within.f a3 1 100000).bind fun t2 => (if t2 = true then (if 0 < (l0.length : Int) then (if rd l0 0 ≤ a3 then ((slices_Clone_int_int.f l0).bind fun l1 => treeL a1 a3 k [l1] 0) else some ([], false)) else none) else some ([], false))) = some (r1, r2) := by simpa using h
    obtain ⟨t2, A4, h⟩ := Option.bind_eq_some_iff.mp h
    have HA4 := Aside0.mk A4
    clear A4
    cases t2 with
    | false =>
      obtain ⟨rfl, rfl⟩ : ([] : List (List Int)) = r1 ∧ false = r2 := by simpa using h
      clear h
      go_enter Try.func18, Try.ntmps18
      go_wp2_with (first
        | (go_at_call 50; refine (impl_isSolution.calls k _ c0 l0 a1 a2 true _ (by repeat (first | exact (Kd.C_below HR0.out HB.out) | (with_reducible refine Kd.C_alloc ?_ _) | (with_reducible refine Kd.C_drewN ?_ _) | (with_reducible refine Kd.C_drew ?_))) HC0.out HA3.out).mono ?_; rintro e w4 ⟨rfl, hb⟩; have n2_ := Aside0.mk (below_step (by repeat (first | (with_reducible first | exact HB.out | apply below_alloc | apply pw_below_drewN | apply below_drew1) | exact HB.out)) hb); clear HB hb; have HB := n2_; clear n2_)
        | (go_at_call 57; refine (impl_within.calls a3 1 100000 false _ HA4.out).mono ?_; rintro e w5 ⟨rfl, ⟨nd1, rfl⟩⟩))
      go_ret2
      exact ⟨_, rfl, Kd.S_nil _ _ _ _ _, (by repeat (first | (with_reducible first | exact HB.out | apply below_alloc | apply pw_below_drewN | apply below_drew1) | exact HB.out))⟩
    | true =>
      replace h : (if 0 < (l0.length : Int) then (if rd l0 0 ≤ a3 then ((slices_Clone_int_int.f l0).bind fun l1 => treeL a1 a3 k [l1] 0) else some ([], false)) else none) = some (r1, r2) := by simpa using h
      by_cases c1 : 0 < (l0.length : Int)
      · rw [if_pos c1] at h
        have p1 : 0 ≤ (0 : Int) := by omega
        obtain ⟨ad1, e1, hx1⟩ := Kd.at_int HR0.out 0 p1 c1
        cases e1
        (try simp only [show (0 : Int).toNat = 0 from rfl, Nat.reduceMul, Nat.reduceEqDiff, Go.Addr.add, ↓reduceIte] at hx1)
        have qi1 : (0 < l0.length) = True := eq_true (by omega)
        have c1b0 : decide (0 < (l0.length : Int)) = true := decide_eq_true c1
        have q1 := eq_true c1
        clear c1
        by_cases c2 : rd l0 0 ≤ a3
        · rw [if_pos c2] at h
          obtain ⟨l1, A5, h⟩ := Option.bind_eq_some_iff.mp h
          have HA5 := Aside0.mk A5
          have c2b0 : decide (a3 < rd l0 0) = false := decide_eq_false (by omega)
          have c2b1 : decide (rd l0 0 > a3) = false := decide_eq_false (by omega)
          have H' := Aside0.mk h
          have HE : Aside0 (l1 = l0 ∧ l0.length < 9223372036854775807) := ⟨by
            have h2 := HA5.out
            unfold slices_Clone_int_int.f at h2
            split at h2
            · exact ⟨(Option.some.inj h2).symm, by omega⟩
            · simp at h2⟩
          clear A5 h c2
          go_enter Try.func18, Try.ntmps18
          go_wp2_with (first
            | (go_at_call 50; refine (impl_isSolution.calls k _ c0 l0 a1 a2 true _ (by repeat (first | exact (Kd.C_below HR0.out HB.out) | (with_reducible refine Kd.C_alloc ?_ _) | (with_reducible refine Kd.C_drewN ?_ _) | (with_reducible refine Kd.C_drew ?_))) HC0.out HA3.out).mono ?_; rintro e w4 ⟨rfl, hb⟩; have n2_ := Aside0.mk (below_step (by repeat (first | (with_reducible first | exact HB.out | apply below_alloc | apply pw_below_drewN | apply below_drew1) | exact HB.out)) hb); clear HB hb; have HB := n2_; clear n2_; replace hx1 := (HB.out.cell (World.block_lt_of_cell? w _ hx1)).trans hx1)
            | (go_at_call 57; refine (impl_within.calls a3 1 100000 true _ HA4.out).mono ?_; rintro e w5 ⟨rfl, ⟨nd1, rfl⟩⟩)
            | (go_at_call 58; refine (slices_Clone_int_int.calls _ c0 l0 l1 _ (by repeat (first | exact (Kd.C_below HR0.out HB.out) | (with_reducible refine Kd.C_alloc ?_ _) | (with_reducible refine Kd.C_drewN ?_ _) | (with_reducible refine Kd.C_drew ?_))) HC0.out HA5.out).mono ?_; rintro e w6 ⟨v6, rfl, ho0, hb⟩; have n2_ := Aside0.mk (below_step (by repeat (first | (with_reducible first | exact HB.out | apply below_alloc | apply pw_below_drewN | apply below_drew1) | exact HB.out)) hb); have n0_ := Aside0.mk (Kd.R_lower ho0 (below_size (by repeat (first | (with_reducible first | exact HB.out | apply below_alloc | apply pw_below_drewN | apply below_drew1) | exact HB.out)))); clear HB; have HO5 := n0_; have HB := n2_; clear n0_ n2_ hb ho0; obtain ⟨Ao1, co1, eo1⟩ := Kd.R_slice HO5.out; subst eo1)
            | ((with_reducible refine gate_dst (N := 33) rfl ?_); refine Kd.S_lits (Kd.slice 3 (Kd.int .i64)) (w0 := w) w.heap.size 22 ?hg (N := 33) ?hd (xs := [l1]) (inner := [.slice Ao1 l1.length co1]) (ok := fun _ => True) (fun j k_ => j = 0 ∧ some k_ = (Value.slice Ao1 l1.length co1).ownBlock) ?hr rfl ?hp ?ha (fun _ _ _ => trivial) trivial ?hB ?hs (by simp) ?_; (case hd => rfl); (case hg => rfl); (case hr => first | (go_simp; done) | (go_simp; rfl)); (case hp => intro j x hj; match j, hj with | 0, hj => (obtain rfl : l1 = x := by simpa using hj); exact ⟨_, rfl, Kd.R_mono (Kd.R_tight rfl HO5.out) (fun k_ hk => ⟨rfl, hk⟩)⟩); (case ha => rintro i j k_ ⟨rfl, _⟩ ⟨rfl, _⟩; rfl); (case hB => exact HB.out); (case hs => exact below_size HB.out); intro v2 w2 ho hb hg hat; have n2_ := Aside0.mk ho; have n3_ := Aside0.mk hb; clear HB HO5; have HO6 := n2_; have HB := n3_; clear n2_ n3_ ho hb hg hat))
          go_loopg [10, 11] k (fun kq v10 v11 w' => ∃ (o : List (List Int)) (i : Int), v11 = .int .i64 i ∧ Aside0 (0 ≤ i ∧ i < 100000000000) ∧ Aside0 (treeL a1 a3 kq o i = some (r1, r2)) ∧ Aside0 (kq ≤ k) ∧ Aside0 o.Nodup ∧ Aside0 (∀ x ∈ o, x.length < 9223372036854775807) ∧ Aside0 (o.length < 1000000000) ∧ Aside0 (Kd.S (Kd.slice 3 (Kd.int .i64)) 22 w' w.heap.size (fun _ => True) v10 o) ∧ Aside0 (Below w.heap.size w w'))
          case atStart => exact ⟨[l1], 0, rfl, ⟨by omega⟩, H', ⟨Nat.le_refl _⟩, ⟨by simp⟩, ⟨by intro x hx; rw [List.mem_singleton] at hx; rw [hx, HE.out.1]; have := HE.out.2; omega⟩, ⟨by simp⟩, ⟨HO6.out⟩, ⟨HB.out⟩⟩
          case round =>
            clear H' HO6 HB hx1 HA3 HA4 HA5
            obtain ⟨o, i, rfl, HI, HA, HK1, HN, HP, HLN, HO6, HB⟩ := hrel
            cases gk with
            | zero => exact absurd HA.out (by simp [treeL])
            | succ k1 =>
              have H := HA.out
              clear HA
              simp only [treeL] at H
              by_cases c2 : i < (o.length : Int)
              · rw [if_pos c2] at H
                obtain ⟨bs, A4, H⟩ := Option.bind_eq_some_iff.mp H
                have HA4 := Aside0.mk A4
                clear A4
                by_cases c5 : goodB o bs = true
                · replace H : (if ((addAll a3 o bs).length : Int) > 500 then some (([] : List (List Int)), false) else treeL a1 a3 k1 (addAll a3 o bs) (wrap64 (i + 1))) = some (r1, r2) := by
                    have H2 : (if goodB o bs = true then (if ((addAll a3 o bs).length : Int) > 500 then some (([] : List (List Int)), false) else treeL a1 a3 k1 (addAll a3 o bs) (wrap64 (i + 1))) else none) = some (r1, r2) := H
                    rw [if_pos c5] at H2
                    exact H2
                  have HG := Aside0.mk (goodB_is c5)
                  have H' := Aside0.mk H
                  clear H c5
                  obtain ⟨A3, c3, e3⟩ := Kd.S_slice HO6.out
                  subst e3
                  have HPO : Aside0 (0 < o.length) := ⟨by have := HI.out; omega⟩
                  have c2b0 : decide (i < (o.length : Int)) = true := decide_eq_true c2
                  have p1 : 0 ≤ i := HI.out.1
                  have q1 : i < (o.length : Int) := c2
                  obtain ⟨ad1, A1, cc1, e1, hx1, hl1, hi1⟩ := at_L1 (Kd.S_reads' HO6.out).2.2 i p1 q1
                  cases e1
                  have HC1 := Aside0.mk hl1
                  have HR1 := Aside0.mk hi1
                  have qi1 : (i.toNat < o.length) = True := eq_true (by omega)
                  have HI2 := Aside0.mk q1
                  clear hl1 hi1 c2
                  replace p1 := eq_true p1
                  replace q1 := eq_true q1
                  go_wp2_with (first
                    | (go_at_call 52; refine (impl_branches.calls k1 _ _ (rd_L1 o i) a1 bs _ (by repeat (first | exact HR1.out | (with_reducible refine Kd.C_alloc ?_ _) | (with_reducible refine Kd.C_drewN ?_ _) | (with_reducible refine Kd.C_drew ?_))) HC1.out HA4.out).mono ?_; rintro e w4 ⟨v4, rfl, ho0, hb⟩; obtain ⟨A4, g, c4, ns, e4, hA4, hrest, hg4, hn4⟩ := rest_of ho0 (below_size HB.out); have n0_ := Aside0.mk (Kd.S_mono (ok' := Free g ns) (Kd.S_old HO6.out hb) (fun k_ hk_ => ⟨by have := hk_.2; omega, fun u_ hu_ e_ => by have := hn4 u_ hu_ k_ e_; have := hk_.2; omega⟩)); have n1_ := Aside0.mk hrest; have n2_ := Aside0.mk (below_step (by repeat (first | (with_reducible first | exact HB.out | apply below_alloc | apply pw_below_drewN | apply below_drew1) | exact HB.out)) hb); have HA4' := Aside0.mk hA4; clear HO6 HB HR1 HC1 hx1; have HO6 := n0_; have HRS := n1_; have HB := n2_; subst e4; clear n0_ n1_ n2_ ho0 hb hrest hg4 hn4 hA4))
                  go_loopg [10, 47] (bs.length + 1) (fun kj v10 v47 w' => ∃ (o' : List (List Int)) (ns' : List Value) (us : List (List Int)) (off : Nat), v47 = .int .i64 (off : Int) ∧ Aside0 (off + us.length = bs.length) ∧ Aside0 (us.length < kj) ∧ Aside0 (addAll a3 o' us = addAll a3 o bs) ∧ Aside0 o'.Nodup ∧ Aside0 (∀ x ∈ o', x.length < 9223372036854775807) ∧ Aside0 (∀ x ∈ us, 0 < x.length ∧ x.length < 9223372036854775807) ∧ Aside0 (o'.length + us.length ≤ o.length + bs.length) ∧ Aside0 (0 < o'.length) ∧ Aside0 (Kd.S (Kd.slice 3 (Kd.int .i64)) 22 w' w.heap.size (Free g ns') v10 o') ∧ Aside0 (Rest w' w.heap.size g off ns' us) ∧ Aside0 (Below w.heap.size w w'))
                  case atStart => exact ⟨o, ns, bs, 0, rfl, ⟨by omega⟩, ⟨by omega⟩, ⟨rfl⟩, HN, HP, ⟨HG.out.2⟩, ⟨by omega⟩, HPO, HO6, HRS, HB⟩
                  case round =>
                    clear HO6 HRS HB HN HP HPO
                    obtain ⟨o', ns', us, off, rfl, HOF, HKJ, HAD, HN, HP, HG2, HLN2, HPO, HO6, HRS, HB⟩ := hrel
                    cases us with
                    | nil =>
                      have HF : Aside0 (addAll a3 o bs = o') := ⟨by rw [← HAD.out]; rfl⟩
                      have HOF' : Aside0 (off = bs.length) := ⟨by simpa using HOF.out⟩
                      have d1b0 : decide ((off : Int) < (bs.length : Int)) = false := decide_eq_false (by have := HOF'.out; omega)
                      have d1b1 : decide (off < bs.length) = false := decide_eq_false (by have := HOF'.out; omega)
                      have H := H'.out
                      rw [HF.out] at H
                      obtain ⟨A3', c3', e3'⟩ := Kd.S_slice HO6.out
                      subst e3'
                      by_cases c6 : (o'.length : Int) > 500
                      · rw [if_pos c6] at H
                        have c6b0 : decide (500 < (o'.length : Int)) = true := decide_eq_true c6
                        have c6b1 : decide (500 < o'.length) = true := decide_eq_true (by omega)
                        obtain ⟨rfl, rfl⟩ : ([] : List (List Int)) = r1 ∧ false = r2 := by simpa using H
                        clear H H' c6
                        go_wp2
                        go_ret2
                        exact ⟨_, rfl, Kd.S_nil _ _ _ _ _, (by repeat (first | (with_reducible first | exact HB.out | apply below_alloc | apply pw_below_drewN | apply below_drew1) | exact HB.out))⟩
                      · rw [if_neg c6] at H
                        have c6b0 : decide (500 < (o'.length : Int)) = false := decide_eq_false c6
                        have c6b1 : decide (500 < o'.length) = false := decide_eq_false (by omega)
                        have H2 := Aside0.mk H
                        have HS6 : Aside0 (o'.length ≤ 500) := ⟨by omega⟩
                        clear H H' c6
                        go_wp2
                        go_roundg k1
                        case measure => have := HK1.out; omega
                        case rel => exact ⟨o', wrap64 (i + 1), (by first | rfl | (simp; done) | (simp [*]; done)), ⟨by have := HI.out; have := HI2.out; have := HLN.out; unfold wrap64; omega⟩, H2, ⟨by have := HK1.out; omega⟩, HN, HP, ⟨by have := HS6.out; omega⟩, ⟨by (with_reducible repeat (first | apply Kd.S_alloc | apply Kd.S_drewN | apply Kd.S_drew)); exact Kd.S_mono HO6.out (fun _ _ => trivial)⟩, ⟨by repeat (first | (with_reducible first | exact HB.out | apply below_alloc | apply pw_below_drewN | apply below_drew1) | exact HB.out)⟩⟩
                    | cons b us =>
                      obtain ⟨n, ns2, rfl⟩ : ∃ n ns2, ns' = n :: ns2 := by
                        have := HRS.out.rows.len
                        cases ns' with
                        | nil => simp at this
                        | cons n ns2 => exact ⟨n, ns2, rfl⟩
                      obtain ⟨ad4, e5, had4⟩ := HA4'.out (fun e_ => by have := HOF.out; rw [e_] at this; simp at this)
                      subst e5
                      obtain ⟨Ab, cb, en, hcb, hcell, hRb, hfree⟩ := HRS.out.head
                      subst en
                      subst had4
                      have HCB := Aside0.mk hcb
                      have HRB := Aside0.mk hRb
                      have HFR := Aside0.mk hfree
                      have HOL : Aside0 (off < bs.length) := ⟨by have := HOF.out; simp at this; omega⟩
                      have hlt : off < bs.length := HOL.out
                      have hltz : (off : Int) < (bs.length : Int) := by omega
                      have d1b0 : decide ((off : Int) < (bs.length : Int)) = true := decide_eq_true hltz
                      have d1b1 : decide (off < bs.length) = true := decide_eq_true hlt
                      have HGB := Aside0.mk (HG2.out b List.mem_cons_self)
                      have hCb : Kd.C (Kd.int .i64) wr Ab b.length b := (Kd.R_reads' hRb).2.2
                      have p3 : 0 < (b.length : Int) := by have := HGB.out; omega
                      obtain ⟨ad3, e6, hx3⟩ := Kd.at_int hCb 0 (by omega) p3
                      cases e6
                      (try simp only [show (0 : Int).toNat = 0 from rfl, Nat.reduceMul, Nat.reduceEqDiff, Go.Addr.add, ↓reduceIte] at hx3)
                      have qi3 : (0 < b.length) = True := eq_true (by have := HGB.out; omega)
                      have q3 := eq_true p3
                      have HLT : Aside0 (wr.alloc (.cells #[.slice (some ad3) b.length cb] 22) = wr.alloc (.cells #[.slice (some ad3) b.length cb] 22)) := ⟨rfl⟩
                      have hb1 : Below wr.heap.size wr (wr.alloc (.cells #[.slice (some ad3) b.length cb] 22)) := below_alloc (Below.refl _ _) _
                      obtain ⟨A3', c3', e3'⟩ := Kd.S_slice HO6.out
                      subst e3'
                      have hH := tree_has w (wr.alloc (.cells #[.slice (some ad3) b.length cb] 22)) (.slice A3' o'.length c3') o' b wr.heap.size (some ad3) cb _ HP.out HPO.out (by have := HLN2.out; have := HG.out.1; omega) (Kd.S_below HO6.out hb1) (Kd.C_below hCb hb1) hcb (by simp)
                      have hx4 : (wr.alloc (.cells #[.slice (some ad3) b.length cb] 22)).cell? ad3 = some (.int .i64 (rd b 0)) := pw_cell_below hb1 hx3
                      clear hb1 hcb hRb hfree hCb p3 HLT
                      have HW : Aside0 (wrap64 ((off : Int) + 1) = ((off + 1 : Nat) : Int)) := ⟨by have := HOL.out; have := HG.out.1; unfold wrap64; omega⟩
                      by_cases d2 : rd b 0 ≤ a3
                      · have d2b0 : decide (rd b 0 ≤ a3) = true := decide_eq_true d2
                        by_cases d3 : b ∈ o'
                        · rw [decide_eq_true d3] at hH
                          have HAD' : Aside0 (addAll a3 o' us = addAll a3 o bs) := ⟨by rw [← HAD.out, addAll, if_neg (fun h_ => h_.2 d3)]⟩
                          have hHH := Aside0.mk hH
                          clear hH d3 d2
                          go_wp2_with (go_at_call 59; refine hHH.out.mono ?_; rintro e w' ⟨rfl, ⟨nd, rfl⟩⟩)
                          go_roundg (us.length + 1)
                          case measure => have := HKJ.out; simp at this; omega
                          case rel => exact ⟨o', ns2, us, off + 1, (by rw [← HW.out]), ⟨by have := HOF.out; simp at this; omega⟩, ⟨by omega⟩, HAD', HN, HP, ⟨fun x hx => HG2.out x (List.mem_cons_of_mem _ hx)⟩, ⟨by have := HLN2.out; simp at this; omega⟩, HPO, ⟨by (with_reducible repeat (first | apply Kd.S_alloc | apply Kd.S_drewN | apply Kd.S_drew)); exact Kd.S_mono HO6.out (fun _ h_ => Free.tail h_)⟩, ⟨HRS.out.tail.below (pw_below_drewN (below_alloc (Below.refl _ _) _) _)⟩, ⟨by repeat (first | (with_reducible first | exact HB.out | apply below_alloc | apply pw_below_drewN | apply below_drew1) | exact HB.out)⟩⟩
                        · rw [decide_eq_false d3] at hH
                          have HAD' : Aside0 (addAll a3 (o' ++ [b]) us = addAll a3 o bs) := ⟨by rw [← HAD.out, addAll, if_pos ⟨d2, d3⟩]⟩
                          have hHH := Aside0.mk hH
                          have HD3 := Aside0.mk d3
                          clear hH d3 d2
                          go_wp2_with (first
                            | (go_at_call 59; refine hHH.out.mono ?_; rintro e w5 ⟨rfl, ⟨nd, hw5⟩⟩; have hB5 : Below wr.heap.size wr w5 := (by rw [hw5]; exact pw_below_drewN (below_alloc (Below.refl _ _) _) nd); have hx5 : w5.cell? ⟨wr.heap.size, 0, none⟩ = some (.slice (some ad3) b.length cb) := (by rw [hw5]; simp); have n0_ := Aside0.mk (Kd.S_below HO6.out hB5); have n1_ := Aside0.mk (HRS.out.below hB5); have n2_ := Aside0.mk (below_step HB.out hB5); have n3_ := Aside0.mk (Kd.R_below HRB.out hB5); clear hw5 hB5 HO6 HRS HB HRB hHH; have HO6 := n0_; have HRS := n1_; have HB := n2_; have HRB := n3_; clear n0_ n1_ n2_ n3_)
                            | ((with_reducible refine gate_builtin (b := .append) (xs := #[.tmp 62, .tmp 64]) rfl ?_); at_builtin; (refine Kd.S_append (Kd.slice 3 (Kd.int .i64)) (w0 := w) w.heap.size rfl (.tmp 62) (.tmp 64) 23 22 (.slice none 0 0) 24 rfl Try.underlying23 info22 rfl (by decide) (by omega) (.slice A3' o'.length c3') o' b [.slice (some ad3) b.length cb] (Free g ns2) (fun k_ => some k_ = (Value.slice (some ad3) b.length cb).ownBlock) rfl rfl ?aP ?aK ?aF ?aO ?aB ?aS ?aL ?_; (case aP => exact ⟨_, rfl, HRB.out⟩); (case aK => exact fun k_ hk => ⟨(HFR.out k_ hk).1, fun e_ => ((S_vals HO6.out).choose_spec.1 k_ e_.symm).2 _ List.mem_cons_self hk.symm⟩); (case aF => exact fun k_ hk => ⟨fun e_ => by have h1_ := HRS.out.lt (by simp); omega, fun u_ hu_ e_ => by have h1_ := (HRS.out.rows.own (List.mem_cons_of_mem _ hu_) e_).2.2; omega⟩); (case aO => exact Kd.S_mono HO6.out (fun k_ hk => ⟨Free.tail hk, fun e_ => hk.2 _ List.mem_cons_self e_.symm⟩)); (case aB => exact HB.out); (case aS => exact below_size HB.out); (case aL => have := HLN2.out; have := HG.out.1; simp at *; omega); intro v7 w7 ho hb hg hat; have n0_ := Aside0.mk ho; have n1_ := Aside0.mk hb; have n2_ := Aside0.mk (HRS.out.tail.step hg.size (fun k_ hk_ hlt_ => hg.block k_ hlt_ (fun e_ => hk_ (Free.tail ((S_vals HO6.out).choose_spec.1 k_ e_.symm))))); clear HO6 HB HRS hg hat ho hb; have HO6 := n0_; have HB := n1_; have HRS := n2_; clear n0_ n1_ n2_)))
                          go_roundg (us.length + 1)
                          case measure => have := HKJ.out; simp at this; omega
                          case rel => exact ⟨o' ++ [b], ns2, us, off + 1, (by rw [← HW.out]), ⟨by have := HOF.out; simp at this; omega⟩, ⟨by omega⟩, HAD', ⟨by rw [List.nodup_append]; exact ⟨HN.out, by simp, fun a_ ha_ b_ hb_ e_ => HD3.out (by rw [List.mem_singleton] at hb_; rw [← hb_, ← e_]; exact ha_)⟩⟩, ⟨fun x hx => by rcases List.mem_append.1 hx with h_ | h_; exact HP.out x h_; (rw [List.mem_singleton] at h_; rw [h_]; exact HGB.out.2)⟩, ⟨fun x hx => HG2.out x (List.mem_cons_of_mem _ hx)⟩, ⟨by have := HLN2.out; simp at this ⊢; omega⟩, ⟨by simp⟩, HO6, HRS, HB⟩
                      · have d2b0 : decide (rd b 0 ≤ a3) = false := decide_eq_false d2
                        have HAD' : Aside0 (addAll a3 o' us = addAll a3 o bs) := ⟨by rw [← HAD.out, addAll, if_neg (fun h_ => d2 h_.1)]⟩
                        clear hH d2
                        go_wp2
                        trace_state
                        go_roundg (us.length + 1)
                        case measure => have := HKJ.out; simp at this; omega
                        case rel => exact ⟨o', ns2, us, off + 1, (by rw [← HW.out]), ⟨by have := HOF.out; simp at this; omega⟩, ⟨by omega⟩, HAD', HN, HP, ⟨fun x hx => HG2.out x (List.mem_cons_of_mem _ hx)⟩, ⟨by have := HLN2.out; simp at this; omega⟩, HPO, ⟨by (with_reducible repeat (first | apply Kd.S_alloc | apply Kd.S_drewN | apply Kd.S_drew)); exact Kd.S_mono HO6.out (fun _ h_ => Free.tail h_)⟩, ⟨HRS.out.tail.below (below_alloc (Below.refl _ _) _)⟩, ⟨by repeat (first | (with_reducible first | exact HB.out | apply below_alloc | apply pw_below_drewN | apply below_drew1) | exact HB.out)⟩⟩
                · exact absurd H (by simp [c5])
              · rw [if_neg c2] at H
                have c2b0 : decide (i < (o.length : Int)) = false := decide_eq_false c2
                clear c2
                obtain ⟨rfl, rfl⟩ : sortDedup o = r1 ∧ true = r2 := by simpa using H
                clear H
                obtain ⟨A3, c3, e3⟩ := Kd.S_slice HO6.out
                subst e3
                go_wp2_with (first
                  | (go_at_call 62; refine (rows_sort cmpL cmpL_total (fun x => x.length < 9223372036854775807) 63 #[] compare_enters compare_at (fun _ => True) _ o w _ HB.out HP.out (by have := HLN.out; omega) HO6.out).mono ?_; rintro e w3 ⟨rfl, ys, hp, hs, ho, hb, hk⟩; have n1_ := Aside0.mk (Kd.S_mono ho (fun _ _ => trivial)); have n2_ := Aside0.mk hb; have n3_ := Aside0.mk hp; have n4_ := Aside0.mk hs; clear HO6 HB; have HO6 := n1_; have HB := n2_; have HPM := n3_; have HSO := n4_; clear n1_ n2_ n3_ n4_ ho hb hk hp hs))
                go_ret2
                exact ⟨_, rfl, by rw [← tree_sorted HN.out HPM.out HSO.out]; exact HO6.out, HB.out⟩
        · rw [if_neg c2] at h
          obtain ⟨rfl, rfl⟩ : ([] : List (List Int)) = r1 ∧ false = r2 := by simpa using h
          have c2b0 : decide (a3 < rd l0 0) = true := decide_eq_true (by omega)
          have c2b1 : decide (rd l0 0 > a3) = true := decide_eq_true (by omega)
          clear h c2
          go_enter Try.func18, Try.ntmps18
          go_wp2_with (first
            | (go_at_call 50; refine (impl_isSolution.calls k _ c0 l0 a1 a2 true _ (by repeat (first | exact (Kd.C_below HR0.out HB.out) | (with_reducible refine Kd.C_alloc ?_ _) | (with_reducible refine Kd.C_drewN ?_ _) | (with_reducible refine Kd.C_drew ?_))) HC0.out HA3.out).mono ?_; rintro e w4 ⟨rfl, hb⟩; have n2_ := Aside0.mk (below_step (by repeat (first | (with_reducible first | exact HB.out | apply below_alloc | apply pw_below_drewN | apply below_drew1) | exact HB.out)) hb); clear HB hb; have HB := n2_; clear n2_; replace hx1 := (HB.out.cell (World.block_lt_of_cell? w _ hx1)).trans hx1)
            | (go_at_call 57; refine (impl_within.calls a3 1 100000 true _ HA4.out).mono ?_; rintro e w5 ⟨rfl, ⟨nd1, rfl⟩⟩))
          go_ret2
          exact ⟨_, rfl, Kd.S_nil _ _ _ _ _, (by repeat (first | (with_reducible first | exact HB.out | apply below_alloc | apply pw_below_drewN | apply below_drew1) | exact HB.out))⟩
      · rw [if_neg c1] at h
        exact absurd h (by simp)
end Go.Proofs.Ytgpoljimomfbbaa.P
