/- All triples up to a bound are told in order, with all that are below them, and each number is the greatest one of those that are told. No condition. -/
import Derived.Test.YtkdgpbcecnmdhaaPackFnMarkovLists5
import Derived.Shelf.RegionOpenPlain
import Derived.WalkKit
import Derived.Deep.LoopGhost
import Derived.Deep.Draws
import Derived.Lib.Walk
import Derived.Sort.WalkB12
import Derived.Lib.SliceRun
import Derived.Lib.SlKept
import Derived.Shelf.SlicesE.Kit
import Derived.Sort.WalkA
import Derived.Test.YtkdgpbcecnmdhaaLib
import Derived.Shelf.SlSortCmp.NoneTotal
set_option linter.unusedVariables false
set_option linter.unusedSimpArgs false
namespace Go.Proofs.Ytkdgpbcecnmdhaa.P
open Go.Shelf Go.Lib Go.Sort Go.RowKit Go.Proofs.YtkdgpbcecnmdhaaW.PrintWords Go.Proofs.YtkdgpbcecnmdhaaW.PrintLast
def kpOf {α : Type} [Inhabited α] (p : α → α → Bool) (d : Array α) (j : Nat) : Bool := j == 0 || !p d[j]! d[j - 1]!
set_option maxHeartbeats 4000000 in
set_option maxRecDepth 1000000 in
theorem compact_walk {α : Type} [Inhabited α] (enc : α → Value) (hO : OneCell enc) (p : α → α → Bool) (zr : α) (hz : enc zr = .slice none 0 0) (blk off cap : Nat) (d : Array α) (w : World)
  (hp : ∀ (dk : Array α) (u v : α) (q : Nat), dk.size = d.size → Calls Try.prog 64 #[enc u, enc v] (putRow enc (Sort.ahead w q) blk off dk) fun e w' => e = .returned (.bool (p u v)) ∧ ∃ qq, w' = (putRow enc (Sort.ahead w q) blk off dk).drewN qq)
  (hH : Holds enc w blk off d) (hsz : d.size ≤ 9223372036854775807) (hcap : d.size ≤ cap) :
  Calls Try.prog 63 #[.slice (some ⟨blk, off, none⟩) d.size cap, .func (.func 64) #[] #[]] w fun e w' => e = .returned (.slice (some ⟨blk, off, none⟩) (keptUpTo (kpOf p d) d d.size).length cap) ∧ ∃ q, w' = putRow enc (Sort.ahead w q) blk off (keptUpTo (kpOf p d) d d.size ++ List.replicate (d.size - (keptUpTo (kpOf p d) d d.size).length) zr).toArray := by
 have eg : ∀ args w, (callFunc 64 args).run Try.prog w = .ok (.enter 64 args) w := fun args w => enters_of Try.func64 (by kernel_rfl) rfl args w
 have t39 := Try.underlying25
 have t22 := Try.underlying30
 have hcl0 := hO.cells
 simp only [Value.cells] at hcl0
 have hst := hO.store Try.prog
 obtain ⟨kp, HK⟩ : ∃ kp : Nat → Bool, Hid (kp = kpOf p d) := ⟨_, rfl⟩
 rw [← HK.out]
 have hk0 : kp 0 = true := by rw [HK.out]; rfl
 have same : ∀ q, (∀ j, j < d.size → kp j = true) → (keptUpTo kp d d.size).length = d.size ∧ putRow enc (Sort.ahead w q) blk off d = putRow enc (Sort.ahead w q) blk off (keptUpTo kp d d.size ++ List.replicate (d.size - (keptUpTo kp d d.size).length) zr).toArray := by
  intro q hall
  have e : keptUpTo kp d d.size = d.toList := by rw [keptUpTo_all kp d _ hall, range_map_get]
  rw [e]
  refine ⟨by simp, ?_⟩
  simp only [Array.length_toList, Nat.sub_self, List.replicate_zero, List.append_nil, Array.toArray_toList]
 have HS : Aside (∀ q, (∀ j, j < d.size → kp j = true) → (keptUpTo kp d d.size).length = d.size ∧ putRow enc (Sort.ahead w q) blk off d = putRow enc (Sort.ahead w q) blk off (keptUpTo kp d d.size ++ List.replicate (d.size - (keptUpTo kp d d.size).length) zr).toArray) := same
 have HP : Aside (∀ (dk : Array α) (u v : α) (q : Nat), dk.size = d.size → Calls Try.prog 64 #[enc u, enc v] (putRow enc (Sort.ahead w q) blk off dk) fun e w' => e = .returned (.bool (p u v)) ∧ ∃ qq, w' = (putRow enc (Sort.ahead w q) blk off dk).drewN qq) := hp
 have HH : Aside (Holds enc w blk off d) := hH
 have ZR : Aside (enc zr = .slice none 0 0) := hz
 have HCL : Aside (OneCell enc) := hO
 clear same hp hH hz hO
 by_cases h2 : d.size < 2
 ·have hsm : Aside (∀ j, j < d.size → kp j = true) := fun j hj => by
   obtain rfl : j = 0 := by omega
   exact hk0
  go_enter Try.func63, Try.ntmps63
  go_wp2
  go_ret
  obtain ⟨e1, e2⟩ := HS.out 0 hsm.out
  refine ⟨by rw [e1]; rfl, 0, ?_⟩
  rw [← e2]
  exact (putRow_self enc (Sort.ahead w 0) blk off d (holds_ahead enc w 0 blk off d HH.out)).symm
 ·go_enter Try.func63, Try.ntmps63
  go_wp2
  go_loopg [5] d.size (fun g s3 wr => ∃ k q : Nat, 1 ≤ k ∧ k ≤ d.size ∧ d.size - k ≤ g ∧ s3 = .int .i64 k ∧ wr = putRow enc (Sort.ahead w q) blk off d ∧ Aside (∀ j, j < k → kp j = true))
  case atStart =>
   refine ⟨1, 0, Nat.le_refl _, by omega, by omega, rfl, (putRow_self enc (Sort.ahead w 0) blk off d (holds_ahead enc w 0 blk off d HH.out)).symm, (show Aside _ from fun j hj => ?_)⟩
   obtain rfl : j = 0 := by omega
   exact hk0
  case round =>
   obtain ⟨k, q, hk1, hk, hg, rfl, hwr, A⟩ := hrel
   have W2 : Aside (wr = putRow enc (Sort.ahead w q) blk off d) := hwr
   have hHk : Holds enc wr blk off d := by rw [hwr]; exact holds_putRow enc _ blk off d d (holds_ahead enc w q blk off d HH.out) rfl
   by_cases hlt : k < d.size
   ·have hc : ∀ n, Calls Try.prog 64 #[enc d[k]!, enc d[k - 1]!] (wr.drewN n) fun e w' => e = .returned (.bool (p d[k]! d[k - 1]!)) ∧ ∃ m, w' = (wr.drewN n).drewN m := fun n => by
     have := HP.out d d[k]! d[k - 1]! (q + n) rfl
     rw [← putRow_drewN, ← hwr] at this
     exact this
    obtain ⟨c1, f1⟩ := hHk k hlt
    obtain ⟨c0, f0⟩ := hHk (k - 1) (by omega)
    clear hHk hwr
    generalize hx : d[k]! = x at c1 hc
    generalize hy : d[k - 1]! = y at c0 hc
    have B : Aside (d[k]! = x ∧ d[k - 1]! = y) := ⟨hx, hy⟩
    clear hx hy
    obtain ⟨jp, rfl⟩ : ∃ jp, k = jp + 1 := ⟨k - 1, by omega⟩
    simp only [Nat.add_sub_cancel] at c0 f0
    have hwp : IntKind.i64.wrap (jp : Int) = (jp : Int) := by rw [IntKind.wrap_i64]; omega
    have jz : (jp : Int) + 1 < (d.size : Int) := by omega
    have jz1 : (jp : Int) < (d.size : Int) := by omega
    have p0 : (0 : Int) ≤ (jp : Int) + 1 := by omega
    have e0 : ((jp : Int) + 1).toNat = jp + 1 := by omega
    have c1' : wr.cell? ⟨blk, off + (jp + 1), none⟩ = some (enc x) := c1
    have c0' : wr.cell? ⟨blk, off + jp, none⟩ = some (enc y) := c0
    clear c1 c0 f1 f0
    cases hq : p x y with
    | true =>
     rw [hq] at hc
     have hdup : Aside (kp (jp + 1) = false) := (by
      show kp (jp + 1) = false
      rw [HK.out]
      unfold kpOf
      rw [B.out.1, B.out.2, hq]
      simp)
     go_wp2_with fail
     go_quiet (first | (go_at_call 64; refine Calls.quiet_of (hc _)))
     clear c1' c0' hc
     have W3 : Aside (wr.drewN nq = putRow enc (Sort.ahead w (q + nq)) blk off d) := by show _ = _; rw [W2.out]; exact putRow_drewN _ _ _ _ _ _ _
     generalize wr.drewN nq = wr3 at W3 ⊢
     go_wp2
     go_loopg [5, 7] d.size (fun g s5 s7 wr => ∃ (kk k2 q2 : Nat) (dk : Array α), s5 = .int .i64 kk ∧ s7 = .int .i64 k2 ∧ 1 ≤ k2 ∧ jp + 1 + k2 ≤ d.size ∧ d.size - (jp + 1 + k2) ≤ g ∧ wr = putRow enc (Sort.ahead w q2) blk off dk ∧ Aside (KeptInv kp d (jp + 1 + k2) kk dk))
     case atStart => exact ⟨jp + 1, 1, q + nq, d, by go_num, rfl, Nat.le_refl _, by omega, by omega, W3.out, KeptInv.start A.out hdup.out⟩
     case round =>
      clear W3 W2 hdup
      obtain ⟨kk, k2, q2, dk, rfl, rfl, h1, hle, hg2, hwr, I2⟩ := hrel
      have hkk := I2.out.lt
      have hds := I2.out.size
      have hHk : Holds enc wr blk off dk := by rw [hwr]; exact holds_putRow enc _ blk off d dk (holds_ahead enc w q2 blk off d HH.out) hds
      have W5 : Aside (wr = putRow enc (Sort.ahead w q2) blk off dk) := hwr
      obtain ⟨j2, rfl⟩ : ∃ j2, k2 = j2 + 1 := ⟨k2 - 1, by omega⟩
      by_cases hlt2 : jp + 1 + (j2 + 1) < d.size
      ·have hc : ∀ n, Calls Try.prog 64 #[enc d[jp + 1 + (j2 + 1)]!, enc d[jp + 1 + j2]!] (wr.drewN n) fun e w' => e = .returned (.bool (p d[jp + 1 + (j2 + 1)]! d[jp + 1 + j2]!)) ∧ ∃ m, w' = (wr.drewN n).drewN m := fun n => by
        have := HP.out dk d[jp + 1 + (j2 + 1)]! d[jp + 1 + j2]! (q2 + n) hds
        rw [← putRow_drewN, ← hwr] at this
        exact this
       obtain ⟨cm, _⟩ := hHk (jp + 1 + (j2 + 1)) (by omega)
       obtain ⟨cp, _⟩ := hHk (jp + 1 + j2) (by omega)
       obtain ⟨ck, fk⟩ := hHk kk (by omega)
       rw [I2.out.high (jp + 1 + (j2 + 1)) (by omega)] at cm
       rw [I2.out.high (jp + 1 + j2) (by omega)] at cp
       have cm' : wr.cell? ⟨blk, off + (jp + 1) + (j2 + 1), none⟩ = some (enc d[jp + 1 + (j2 + 1)]!) := by rw [← cm]; congr 2; omega
       have cp' : wr.cell? ⟨blk, off + (jp + 1) + j2, none⟩ = some (enc d[jp + 1 + j2]!) := by rw [← cp]; congr 2; omega
       clear hHk hwr cm cp
       generalize hu : d[jp + 1 + (j2 + 1)]! = u at cm' hc
       generalize hv : d[jp + 1 + j2]! = v at cp' hc
       generalize dk[kk]! = old at ck
       have C : Aside (d[jp + 1 + (j2 + 1)]! = u ∧ d[jp + 1 + j2]! = v) := ⟨hu, hv⟩
       clear hu hv
       have hwp2 : IntKind.i64.wrap (j2 : Int) = (j2 : Int) := by rw [IntKind.wrap_i64]; omega
       have y1 : (jp : Int) + 1 + ((j2 : Int) + 1) < (d.size : Int) := by omega
       have y2 : (j2 : Int) + 1 < (d.size : Int) - ((jp : Int) + 1) := by omega
       have y3 : (j2 : Int) < (d.size : Int) - ((jp : Int) + 1) := by omega
       have y4 : (0 : Int) ≤ (j2 : Int) + 1 := by omega
       have y5 : ((j2 : Int) + 1).toNat = j2 + 1 := by omega
       have y6 : (kk : Int) < (d.size : Int) := by omega
       have y7 : ((d.size - (jp + 1) : Nat) : Int) = (d.size : Int) - ((jp : Int) + 1) := by omega
       cases hq2 : p u v with
       | true =>
        rw [hq2] at hc
        go_wp2_with fail
        go_quiet (first | (go_at_call 64; refine Calls.quiet_of (hc _)))
        go_wp2
        go_roundg (d.size - (jp + 1 + (j2 + 1 + 1)))
        case measure => omega
        case rel => exact ⟨kk, j2 + 1 + 1, q2 + nq, dk, rfl, by go_num, by omega, by omega, Nat.le_refl _, by rw [W5.out]; exact putRow_drewN _ _ _ _ _ _ _, I2.out.skip (by rw [HK.out]; unfold kpOf; rw [show jp + 1 + (j2 + 1) - 1 = jp + 1 + j2 by omega, C.out.1, C.out.2, hq2]; simp)⟩
       | false =>
        rw [hq2] at hc
        go_wp2_with fail
        go_quiet (first | (go_at_call 64; refine Calls.quiet_of (hc _)))
        go_wp2_with fail
        have W6 : Aside (wr.drewN nq = putRow enc (Sort.ahead w (q2 + nq)) blk off dk) := by show _ = _; rw [W5.out]; exact putRow_drewN _ _ _ _ _ _ _
        have cm2 : (wr.drewN nq).cell? ⟨blk, off + (jp + 1) + (j2 + 1), none⟩ = some (enc u) := cm'
        have ck2 : (wr.drewN nq).cell? ⟨blk, off + kk, none⟩ = some (enc old) := ck
        have fk2 : (wr.drewN nq).frozen? ⟨blk, off + kk, none⟩ = false := fk
        clear cm' cp' ck fk hc
        generalize wr.drewN nq = wr6 at W6 cm2 ck2 fk2 ⊢
        go_wp2
        go_roundg (d.size - (jp + 1 + (j2 + 1 + 1)))
        case measure => omega
        case rel =>
         refine ⟨kk + 1, j2 + 1 + 1, q2 + nq, dk.setIfInBounds kk u, by go_num, by go_num, by omega, by omega, Nat.le_refl _, ?_, (show Aside _ from ?_)⟩
         ·rw [W6.out]
          exact putRow_set enc _ blk off dk kk u (by omega)
         ·have := I2.out.keep hlt2 (by rw [HK.out]; unfold kpOf; rw [show jp + 1 + (j2 + 1) - 1 = jp + 1 + j2 by omega, C.out.1, C.out.2, hq2]; simp)
          rwa [C.out.1] at this
      ·have hend : jp + 1 + (j2 + 1) = d.size := by omega
       have hcl : ∀ ty, (Builtin.clear_ #[25] ty #[.slice (some ⟨blk, off + kk, none⟩) (d.size - kk) (cap - kk)]).run Try.prog wr = .ok (.tuple #[]) (wr.setCells blk (off + kk) (List.replicate (d.size - kk) (enc zr))) :=
        fun ty => Lib.run_clear_slice wr _ _ ty _ t39 (fun w => by rw [ZR.out]; exact Try.zeroValue30 w) (HCL.out.cells zr) (HCL.out zr) blk (off + kk) _ _ (by omega) (fun j hj => by rw [show off + kk + j = off + (kk + j) by omega, (hHk (kk + j) (by omega)).1]; rfl) (fun j hj => by rw [show off + kk + j = off + (kk + j) by omega]; exact (hHk (kk + j) (by omega)).2)
       have y4 : (0 : Int) ≤ (j2 : Int) + 1 := by omega
       have y2 : ¬ (j2 : Int) + 1 < (d.size : Int) - ((jp : Int) + 1) := by omega
       have y7 : ((d.size - (jp + 1) : Nat) : Int) = (d.size : Int) - ((jp : Int) + 1) := by omega
       clear hHk hwr
       go_wp2
       go_ret
       have hI := I2.out
       rw [hend] at hI
       refine ⟨by rw [hI.len]; rfl, q2, ?_⟩
       rw [hI.len, ← hI.done zr, ← putRow_setCells enc _ blk off _ dk kk (by simp; omega), ← W5.out, List.map_replicate]
    | false =>
     rw [hq] at hc
     go_wp2_with fail
     go_quiet (first | (go_at_call 64; refine Calls.quiet_of (hc _)))
     go_wp2
     go_roundg (d.size - (jp + 1 + 1))
     case measure => omega
     case rel =>
      refine ⟨jp + 1 + 1, q + nq, by omega, by omega, Nat.le_refl _, by go_num, by rw [W2.out]; exact putRow_drewN _ _ _ _ _ _ _, (show Aside _ from fun j hj => ?_)⟩
      by_cases e : j = jp + 1
      ·subst e
       rw [HK.out]
       unfold kpOf
       rw [B.out.1, B.out.2, hq]
       simp
      ·exact A.out j (by omega)
   ·have : k = d.size := by omega
    subst this
    clear hHk hwr
    go_wp2
    go_ret
    obtain ⟨e1, e2⟩ := HS.out q A.out
    exact ⟨by rw [e1]; rfl, q, by rw [← e2]; exact W2.out⟩
end Go.Proofs.Ytkdgpbcecnmdhaa.P
namespace Go.Proofs.Ytkdgpbcecnmdhaa.P
open Go.RowKit Go.Proofs.YtkdgpbcecnmdhaaW.PrintWords Go.Proofs.YtkdgpbcecnmdhaaW.PrintLast
structure RowAt (w : World) (base : Nat) (ok : Nat → Prop) (Pr : List Int → Prop) where
 l : List Int
 v : Value
 hR : Kd.R (Kd.int .i64) 3 w base ok v l
 hP : Pr l
theorem RowAt.one {w : World} {base : Nat} {ok : Nat → Prop} {Pr : List Int → Prop} (x : RowAt w base ok Pr) : x.v.oneCell' = true := by
 obtain ⟨A, c, e⟩ := Kd.R_slice x.hR
 rw [e]
 rfl
theorem rows_at {w : World} {base : Nat} {ok : Nat → Prop} {Pr : List Int → Prop} : ∀ (vs : List Value) (L : List (List Int)), vs.length = L.length → (∀ (j : Nat) (u : Value) (x : List Int), vs[j]? = some u → L[j]? = some x → Kd.R (Kd.int .i64) 3 w base ok u x) → (∀ x ∈ L, Pr x) → ∃ ds : List (RowAt w base ok Pr), ds.map RowAt.v = vs ∧ ds.map RowAt.l = L
 | [], [], _, _, _ => ⟨[], rfl, rfl⟩
 | [], _ :: _, h, _, _ => by simp at h
 | _ :: _, [], h, _, _ => by simp at h
 | u :: vs, x :: L, hl, h, hP => by
  obtain ⟨ds, e1, e2⟩ := rows_at vs L (by simpa using hl) (fun j u x hu hx => h (j + 1) u x (by simpa using hu) (by simpa using hx)) (fun x hx => hP x (List.mem_cons_of_mem _ hx))
  exact ⟨⟨x, u, h 0 u x rfl rfl, hP x (by simp)⟩ :: ds, by simp [e1], by simp [e2]⟩
theorem sortWorld_other {α : Type} [Inhabited α] (enc : α → Value) (w : World) (g n : Nat) (d : Array α) (os : Array Obj) (k : Nat) (hk : k < w.heap.size) (hg : k ≠ g) : (Go.Sort.grow (Go.Sort.putRow enc (Go.Sort.ahead w n) g 0 d) os).heap[k]? = w.heap[k]? := by
 have hsz : (Go.Sort.putRow enc (Go.Sort.ahead w n) g 0 d).heap.size = w.heap.size := by simp
 rw [Go.Sort.heap_grow_old _ _ (by rw [hsz]; exact hk)]
 simp only [Go.Sort.putRow, Go.Sort.mapBlock, Array.getElem?_modify]
 rw [if_neg (by omega)]
 rfl
theorem rows_back {w w' : World} {base : Nat} {ok ok' : Nat → Prop} {Pr : List Int → Prop} {ds' : List (RowAt w base ok Pr)} (hap : (ds'.map RowAt.v).Pairwise Apart) (hm : ∀ k, ok k → k < w.heap.size → w'.heap[k]? = w.heap[k]?) (ho : ∀ k, ok k → ok' k) : RowVals w' base ok' (ds'.map RowAt.v) (ds'.map RowAt.l) where
 len := by simp
 row := fun j u x hu hx => by
  rw [List.getElem?_map] at hu hx
  cases hz : ds'[j]? with
  | none => rw [hz] at hu; simp at hu
  | some z =>
   rw [hz] at hu hx
   obtain rfl := Option.some.inj hu
   obtain rfl := Option.some.inj hx
   exact Kd.R_mono (Kd.R_step z.hR hm) ho
 apart := hap
set_option maxHeartbeats 1000000 in
theorem rows_sort (cf : List Int → List Int → Int) (hT : Total cf) (Pr : List Int → Prop) (gf : Nat) (cb : Array Value)
  (eg : ∀ args w, (callFunc gf args).run Try.prog w = .ok (.enter gf args) w)
  (hcmp : ∀ (W : World) (A B : Option Addr) (c c' : Nat) (x y : List Int), Pr x → Pr y → Kd.C (Kd.int .i64) W A x.length x → x.length ≤ c → Kd.C (Kd.int .i64) W B y.length y → y.length ≤ c' → Calls Try.prog gf (#[.slice A x.length c, .slice B y.length c'] ++ cb) W fun e w' => e = .returned (.int .i64 (cf x y)) ∧ Drawn0 W w')
  (P0_ : Nat → Prop) (v : Value) (xs : List (List Int)) (w0 w : World) (hB : Below w0.heap.size w0 w) (hP : ∀ x ∈ xs, Pr x) (hz : xs.length < 4611686018427387904) (ho : Kd.S KII 30 w w0.heap.size P0_ v xs) :
  Calls Try.prog 49 #[v, .func (.func gf) #[] cb] w fun e w' => e = .returned (.tuple #[]) ∧ ∃ ys, ys.Perm xs ∧ (ys.Pairwise fun a b => ¬ cf b a < 0) ∧ Kd.S KII 30 w' w0.heap.size (fun k_ => (P0_ k_ ∨ w.heap.size ≤ k_)) v ys ∧ Below w0.heap.size w0 w' ∧ Kept w w' (fun k_ => P0_ k_) := by
 obtain ⟨vs, h0, hown, hv⟩ := S_vals ho
 obtain ⟨hlen, hcase⟩ := hown
 have hnone : ∀ (p : Option Addr) (cap : Nat), v = .slice p 0 cap → xs = [] → Calls Try.prog 49 #[v, .func (.func gf) #[] cb] w fun e w' => e = .returned (.tuple #[]) ∧ ∃ ys, ys.Perm xs ∧ (ys.Pairwise fun a b => ¬ cf b a < 0) ∧ Kd.S KII 30 w' w0.heap.size (fun k_ => (P0_ k_ ∨ w.heap.size ≤ k_)) v ys ∧ Below w0.heap.size w0 w' ∧ Kept w w' (fun k_ => P0_ k_) := by
  intro p cap ev ex
  subst ev ex
  refine (AnyF.slices_SortFunc_none (P := Try.prog) { Try.laysSlF6_f49 with } p cap (.func (.func gf) #[] cb) w).mono ?_
  rintro e w' ⟨rfl, rfl⟩
  exact ⟨rfl, [], .refl _, .nil, Kd.S_mono ho (fun _ h_ => .inl h_), hB, Kept.refl _ _⟩
 rcases hcase with ⟨ev, hn⟩ | ⟨g, cap, cur, ev, hg, hb, hc, hm, hs, ht⟩
 ·exact hnone _ _ ev (List.eq_nil_of_length_eq_zero hn)
 ·by_cases hx : xs = []
  ·exact hnone _ cap (by rw [ev, hx]; rfl) hx
  ·subst ev
   obtain ⟨ds, e1, e2⟩ := rows_at (Pr := Pr) vs xs hv.len hv.row hP
   have hds : ds ≠ [] := fun e => hx (by rw [← e2, e]; rfl)
   letI : Inhabited (RowAt w w0.heap.size (fun k => P0_ k ∧ some k ≠ (Value.slice (some ⟨g, 0, none⟩) xs.length cap).ownBlock) Pr) := ⟨ds.head hds⟩
   have hdl : ds.length = xs.length := by have := congrArg List.length e2; simpa using this
   have ht' : cur.toList.take ds.length = ds.map RowAt.v := by rw [hdl, e1]; simpa using ht
   have hok : P0_ g := h0 g rfl
   have hlt : g < w.heap.size := (Array.getElem?_eq_some_iff.1 hb).1
   have hng : ∀ k, (P0_ k ∧ some k ≠ (Value.slice (some ⟨g, 0, none⟩) xs.length cap).ownBlock) → k ≠ g := fun k hk e => hk.2 (by rw [e]; rfl)
   have hC := Go.Proofs.Any.slices_SortFunc (P := Try.prog) Try.laysSlF6_f49 (RowAt.v (w := w) (base := w0.heap.size) (ok := fun k => P0_ k ∧ some k ≠ (Value.slice (some ⟨g, 0, none⟩) xs.length cap).ownBlock) (Pr := Pr)) RowAt.one (fun a b => cf a.l b.l)
    { irrefl := fun x => hT.swo.irrefl x.l, trans := fun x y z => hT.swo.trans x.l y.l z.l, ntrans := fun x y z => hT.swo.ntrans x.l y.l z.l } gf cb g 0 cap ds.toArray w eg
    (CmpReads.lays fun m os dk hsd x y => by
     have hx := Kd.R_step (w1 := sortWorld RowAt.v w g 0 m dk os) x.hR (fun k hk hlk => sortWorld_other _ _ _ _ _ _ k hlk (hng k hk))
     have hy := Kd.R_step (w1 := sortWorld RowAt.v w g 0 m dk os) y.hR (fun k hk hlk => sortWorld_other _ _ _ _ _ _ k hlk (hng k hk))
     obtain ⟨A, c, ea, ha, hra⟩ := Kd.R_reads hx
     obtain ⟨B, c', eb, hbb, hrb⟩ := Kd.R_reads hy
     rw [ea, eb]
     refine (hcmp _ A B c c' x.l y.l x.hP y.hP hra ha hrb hbb).mono ?_
     rintro e w' ⟨rfl, ⟨q, rfl⟩⟩
     exact ⟨rfl, q, rfl⟩)
    (scalar_holds hb ht') hlt (by simpa [hdl] using hz)
   rw [show ds.toArray.size = xs.length by simpa using hdl] at hC
   refine hC.mono ?_
   rintro e w' ⟨rfl, d', n, os, hp, hso, hw⟩
   have hsz : d'.size = ds.length := by simpa using hp.1
   have hperm : d'.toList.Perm ds := by
    have := hp.2.2
    rw [show d'.extract 0 xs.length = d' by rw [← hdl, ← hsz]; exact Array.extract_size, show ds.toArray.extract 0 xs.length = ds.toArray by rw [show xs.length = ds.toArray.size by simpa using hdl.symm]; exact Array.extract_size] at this
    simpa using this
   have hS := scalar_sorted (enc := RowAt.v) (h1 := RowAt.one) (xs := ds) (ys := d'.toList) (cap := cap) (ok := P0_) hB hok hg hb (by rw [hdl]; exact hc) hm (by simpa using hs) (by simpa using hsz) n os w' (by rw [hw]; simp [sortWorld])
   obtain ⟨hown1, hown2⟩ := scalar_R.1 hS.1
   have hap : (d'.toList.map RowAt.v).Pairwise Apart := by
    refine ((hperm.map RowAt.v).pairwise_iff (fun h => Apart.symm h)).2 ?_
    rw [e1]
    exact hv.apart
   refine ⟨rfl, d'.toList.map RowAt.l, by rw [← e2]; exact hperm.map _, ?_, ?_, hS.2⟩
   ·rw [List.pairwise_map, List.pairwise_iff_getElem]
    intro i j hi hj hij
    have h1 := hso i j (Nat.zero_le _) hij (by rw [← hdl, ← hsz]; simpa using hj)
    have h2 : i < d'.size := by simpa using hi
    have h3 : j < d'.size := by simpa using hj
    rw [getElem!_pos d' i h2, getElem!_pos d' j h3] at h1
    simpa [ltOf] using h1
   ·have hl2 : (d'.toList.map RowAt.l).length = xs.length := by simp [hsz, hdl]
    refine vals_S (vs := d'.toList.map RowAt.v) (fun k hk => .inl (by simp [Value.ownBlock] at hk; exact hk ▸ hok)) ?_ (rows_back hap (fun k hk hlk => ?_) (fun k hk => ⟨.inl hk.1, hk.2⟩))
    ·rw [List.length_map]
     rw [hdl] at hown2
     exact hown2
    ·rw [hw]
     exact sortWorld_other _ _ _ _ _ _ k hlk (hng k hk)
theorem kept_sorted {α : Type} [Inhabited α] (key : α → List Int) (p : α → α → Bool) (hp : ∀ u v, p u v = decide (key u = key v)) (d : Array α) (hs : (d.toList.map key).Pairwise fun a b => ¬ cmpL b a < 0) :
  ((Go.Lib.keptUpTo (kpOf p d) d d.size).map key).Pairwise (fun a b => cmpL a b < 0) ∧ ∀ z, z ∈ (Go.Lib.keptUpTo (kpOf p d) d d.size).map key ↔ z ∈ d.toList.map key := by
 have hle : ∀ i j, i ≤ j → j < d.size → ¬ cmpL (key d[j]!) (key d[i]!) < 0 := by
  intro i j hij hj
  rcases Nat.lt_or_eq_of_le hij with h | h
  ·rw [List.pairwise_map, List.pairwise_iff_getElem] at hs
   have := hs i j (by simp; omega) (by simpa using hj) h
   rw [getElem!_pos d i (by omega), getElem!_pos d j hj]
   simpa using this
  ·subst h
   rw [cmpL_self]
   omega
 constructor
 ·rw [List.pairwise_map]
  unfold Go.Lib.keptUpTo
  rw [List.pairwise_map]
  have hr : ((List.range d.size).filter (kpOf p d)).Pairwise fun i j => i < j ∧ j < d.size ∧ kpOf p d j = true := by
   have h1 : ((List.range d.size).filter (kpOf p d)).Pairwise (· < ·) := List.Pairwise.sublist List.filter_sublist List.pairwise_lt_range
   rw [List.pairwise_iff_getElem] at h1 ⊢
   intro i j hi hj hij
   have h2 := List.getElem_mem hj
   rw [List.mem_filter, List.mem_range] at h2
   exact ⟨h1 i j hi hj hij, h2⟩
  refine hr.imp ?_
  rintro i j ⟨hij, hj, hk⟩
  have h1 := hle i (j - 1) (by omega) (by omega)
  have h2 := hle (j - 1) j (by omega) hj
  have h3 : key d[j]! ≠ key d[j - 1]! := by
   unfold kpOf at hk
   rw [hp] at hk
   simp at hk
   rcases hk with h | h
   ·omega
   ·exact h
  by_cases e1 : cmpL (key d[j - 1]!) (key d[j]!) = 0
  ·exact absurd (cmpL_eq _ _ e1).symm h3
  ·have h4 : cmpL (key d[j - 1]!) (key d[j]!) < 0 := by rw [cmpL_anti] at h2; omega
   by_cases e2 : cmpL (key d[i]!) (key d[j - 1]!) = 0
   ·rw [cmpL_eq _ _ e2]; exact h4
   ·refine cmpL_trans _ _ _ ?_ h4
    rw [cmpL_anti] at h1
    omega
 ·intro z
  constructor
  ·intro hz
   obtain ⟨x, hx, rfl⟩ := List.mem_map.1 hz
   unfold Go.Lib.keptUpTo at hx
   obtain ⟨j, hj, rfl⟩ := List.mem_map.1 hx
   rw [List.mem_filter, List.mem_range] at hj
   refine List.mem_map.2 ⟨_, ?_, rfl⟩
   rw [getElem!_pos d j hj.1]
   simp
  ·intro hz
   obtain ⟨x, hx, rfl⟩ := List.mem_map.1 hz
   obtain ⟨j, hj, rfl⟩ := List.getElem_of_mem hx
   have hj' : j < d.size := by simpa using hj
   have hgo : ∀ m, m < d.size → ∃ i, i < d.size ∧ kpOf p d i = true ∧ key d[i]! = key d[m]! := by
    intro m
    induction m with
    | zero => intro hm; exact ⟨0, hm, rfl, rfl⟩
    | succ m ih =>
     intro hm
     by_cases hk : kpOf p d (m + 1) = true
     ·exact ⟨m + 1, hm, hk, rfl⟩
     ·obtain ⟨i, hi, hki, he⟩ := ih (by omega)
      refine ⟨i, hi, hki, he.trans ?_⟩
      unfold kpOf at hk
      rw [hp] at hk
      simp at hk
      exact hk.symm
   obtain ⟨i, hi, hki, he⟩ := hgo j hj'
   refine List.mem_map.2 ⟨d[i]!, ?_, ?_⟩
   ·unfold Go.Lib.keptUpTo
    exact List.mem_map.2 ⟨i, List.mem_filter.2 ⟨List.mem_range.2 hi, hki⟩, rfl⟩
   ·rw [he, getElem!_pos d j hj']
    simp
set_option maxHeartbeats 1000000 in
theorem rows_compact (P0_ : Nat → Prop) (v : Value) (xs : List (List Int)) (w0 w : World) (hB : Below w0.heap.size w0 w) (hP : ∀ x ∈ xs, x.length < 9223372036854775807) (hs : xs.Pairwise fun a b => ¬ cmpL b a < 0) (ho : Kd.S KII 30 w w0.heap.size P0_ v xs) :
  Calls Try.prog 63 #[v, .func (.func 64) #[] #[]] w fun e w' => ∃ v', e = .returned v' ∧ ∃ ys, (ys.Pairwise fun a b => cmpL a b < 0) ∧ (∀ z, z ∈ ys ↔ z ∈ xs) ∧ Kd.S KII 30 w' w0.heap.size (fun k_ => (P0_ k_ ∨ w.heap.size ≤ k_)) v' ys ∧ Below w0.heap.size w0 w' ∧ Kept w w' (fun k_ => P0_ k_) := by
 obtain ⟨vs, h0, hown, hv⟩ := S_vals ho
 obtain ⟨hlen, hcase⟩ := hown
 rcases hcase with ⟨ev, hn⟩ | ⟨g, cap, cur, ev, hg, hb, hc, hm, hcs, ht⟩
 ·obtain rfl : xs = [] := List.eq_nil_of_length_eq_zero hn
  subst ev
  go_enter Try.func63, Try.ntmps63
  go_wp2
  go_ret
  exact ⟨_, rfl, [], .nil, by simp, Kd.S_nil _ _ _ _ _, hB, Kept.refl _ _⟩
 ·subst ev
  obtain ⟨ds, e1, e2⟩ := rows_at (Pr := fun x => x.length < 9223372036854775807) vs xs hv.len hv.row hP
  let nil_ : RowAt w w0.heap.size (fun k => P0_ k ∧ some k ≠ (Value.slice (some ⟨g, 0, none⟩) xs.length cap).ownBlock) (fun x => x.length < 9223372036854775807) := ⟨[], .slice none 0 0, Kd.R_nil _ _ _ _ _, by decide⟩
  letI : Inhabited (RowAt w w0.heap.size (fun k => P0_ k ∧ some k ≠ (Value.slice (some ⟨g, 0, none⟩) xs.length cap).ownBlock) (fun x => x.length < 9223372036854775807)) := ⟨nil_⟩
  have hdl : ds.length = xs.length := by have := congrArg List.length e2; simpa using this
  have ht' : cur.toList.take ds.length = ds.map RowAt.v := by rw [hdl, e1]; simpa using ht
  have hok : P0_ g := h0 g rfl
  have hlt : g < w.heap.size := (Array.getElem?_eq_some_iff.1 hb).1
  have hng : ∀ k, (P0_ k ∧ some k ≠ (Value.slice (some ⟨g, 0, none⟩) xs.length cap).ownBlock) → k ≠ g := fun k hk e => hk.2 (by rw [e]; rfl)
  have hgrow0 : ∀ W : World, Go.Sort.grow W #[] = W := fun W => Go.Sort.grow_empty W
  have hC := compact_walk (RowAt.v (w := w) (base := w0.heap.size) (ok := fun k => P0_ k ∧ some k ≠ (Value.slice (some ⟨g, 0, none⟩) xs.length cap).ownBlock) (Pr := fun x => x.length < 9223372036854775807)) RowAt.one (fun a b => decide (a.l = b.l)) nil_ rfl g 0 cap ds.toArray w
   (fun dk x y q hsd => by
    have hst : ∀ k, (P0_ k ∧ some k ≠ (Value.slice (some ⟨g, 0, none⟩) xs.length cap).ownBlock) → k < w.heap.size → (Go.Sort.putRow RowAt.v (Go.Sort.ahead w q) g 0 dk).heap[k]? = w.heap[k]? := fun k hk hlk => by
     have := sortWorld_other RowAt.v w g q dk #[] k hlk (hng k hk)
     rwa [hgrow0] at this
    have hx := Kd.R_step (w1 := Go.Sort.putRow RowAt.v (Go.Sort.ahead w q) g 0 dk) x.hR hst
    have hy := Kd.R_step (w1 := Go.Sort.putRow RowAt.v (Go.Sort.ahead w q) g 0 dk) y.hR hst
    obtain ⟨A, c, ea, ha, hra⟩ := Kd.R_reads hx
    obtain ⟨B, c', eb, hbb, hrb⟩ := Kd.R_reads hy
    rw [ea, eb]
    refine (slices_Equal_int_int.calls (x.l.length + 1) A c x.l B c' y.l (decide (x.l = y.l)) _ hra ha hrb hbb (equal_ev x.l y.l x.hP)).mono ?_
    rintro e w' ⟨rfl, ⟨q', rfl⟩⟩
    exact ⟨rfl, q', rfl⟩)
   (scalar_holds hb ht') (by have : cap ≤ 9223372036854775807 := hm; simp only [List.size_toArray]; omega) (by simp only [List.size_toArray]; omega)
  rw [show ds.toArray.size = xs.length by simpa using hdl] at hC
  refine hC.mono ?_
  rintro e w' ⟨rfl, q, hw⟩
  obtain ⟨ks, hks⟩ : ∃ ks, ks = Go.Lib.keptUpTo (kpOf (fun a b : RowAt w w0.heap.size (fun k => P0_ k ∧ some k ≠ (Value.slice (some ⟨g, 0, none⟩) xs.length cap).ownBlock) (fun x => x.length < 9223372036854775807) => decide (a.l = b.l)) ds.toArray) ds.toArray ds.toArray.size := ⟨_, rfl⟩
  have hks2 : Go.Lib.keptUpTo (kpOf (fun a b : RowAt w w0.heap.size (fun k => P0_ k ∧ some k ≠ (Value.slice (some ⟨g, 0, none⟩) xs.length cap).ownBlock) (fun x => x.length < 9223372036854775807) => decide (a.l = b.l)) ds.toArray) ds.toArray xs.length = ks := by rw [hks]; congr 1; simpa using hdl.symm
  rw [hks2] at hw ⊢
  have hrange : (List.range ds.toArray.size).map (fun j => ds.toArray[j]!) = ds := by
   apply List.ext_getElem
   ·simp
   ·intro i hi1 hi2
    simp [hi2]
  have hsub : ks.Sublist ds := by
   rw [hks]
   unfold Go.Lib.keptUpTo
   have h1 := List.Sublist.map (fun j => ds.toArray[j]!) (List.filter_sublist (p := kpOf (fun a b : RowAt w w0.heap.size (fun k => P0_ k ∧ some k ≠ (Value.slice (some ⟨g, 0, none⟩) xs.length cap).ownBlock) (fun x => x.length < 9223372036854775807) => decide (a.l = b.l)) ds.toArray) (l := List.range ds.toArray.size))
   rw [hrange] at h1
   exact h1
  have hlk : ks.length ≤ ds.length := hsub.length_le
  have hS := scalar_sorted (enc := RowAt.v) (h1 := RowAt.one) (xs := ds) (ys := ks ++ List.replicate (xs.length - ks.length) nil_) (cap := cap) (ok := P0_) hB hok hg hb (by rw [hdl]; exact hc) hm (by simpa using hcs) (by simp; omega) q #[] w' (by rw [hw, hgrow0])
  have hTk := scalar_take hS.1 ks.length (by simp)
  rw [List.take_left] at hTk
  obtain ⟨hown1, hown2⟩ := scalar_R.1 hTk
  have hKS := kept_sorted (fun a : RowAt w w0.heap.size (fun k => P0_ k ∧ some k ≠ (Value.slice (some ⟨g, 0, none⟩) xs.length cap).ownBlock) (fun x => x.length < 9223372036854775807) => a.l) (fun a b => decide (a.l = b.l)) (fun u v => rfl) ds.toArray (by rw [show ds.toArray.toList.map (fun a => a.l) = xs from e2]; exact hs)
  rw [← hks] at hKS
  have hap : (ks.map RowAt.v).Pairwise Apart := List.Pairwise.sublist (hsub.map RowAt.v) (by rw [e1]; exact hv.apart)
  refine ⟨_, rfl, ks.map RowAt.l, hKS.1, fun z => (hKS.2 z).trans (by rw [show ds.toArray.toList.map (fun a => a.l) = xs from e2]), ?_, hS.2⟩
  refine vals_S (vs := ks.map RowAt.v) hown1 ?_ (rows_back hap (fun k hk hlk2 => ?_) (fun k hk => ⟨.inl hk.1, hk.2⟩))
  ·rw [List.length_map]
   exact hown2
  ·rw [hw]
   have := sortWorld_other RowAt.v w g q (ks ++ List.replicate (xs.length - ks.length) nil_).toArray #[] k hlk2 (hng k hk)
   rwa [hgrow0] at this
end Go.Proofs.Ytkdgpbcecnmdhaa.P
namespace Go.Proofs.Ytkdgpbcecnmdhaa.P
open Go.RowKit Go.Proofs.YtkdgpbcecnmdhaaW.PrintWords Go.Proofs.YtkdgpbcecnmdhaaW.PrintLast
abbrev OneV := {v : Value // v.oneCell' = true}
theorem rows_one {w : World} {base : Nat} {ok : Nat → Prop} {vs : List Value} {L : List (List Int)} (h : RowVals w base ok vs L) : ∃ us : List OneV, us.map (·.1) = vs := by
 have hone : ∀ u ∈ vs, u.oneCell' = true := by
  intro u hu
  obtain ⟨j, hj, rfl⟩ := List.getElem_of_mem hu
  have hL : j < L.length := by have := h.len; omega
  obtain ⟨A, c, e⟩ := Kd.R_slice (h.row j vs[j] L[j] (List.getElem?_eq_getElem hj) (List.getElem?_eq_getElem hL))
  rw [e]
  rfl
 exact ⟨vs.attach.map (fun u => ⟨u.1, hone u.1 u.2⟩), by simp⟩
theorem S_scal {w : World} {base : Nat} {ok : Nat → Prop} {v : Value} {L : List (List Int)} (h : Kd.S KII 30 w base ok v L) :
  ∃ us : List OneV, (Kd.scalar (fun x : OneV => x.1) (fun x => x.2)).R 30 w base ok v us ∧ us.length = L.length ∧ RowVals w base (fun k => ok k ∧ some k ≠ v.ownBlock) (us.map (·.1)) L := by
 obtain ⟨vs, h0, hown, hv⟩ := S_vals h
 obtain ⟨us, rfl⟩ := rows_one hv
 have hl : us.length = L.length := by have := hv.len; simpa using this
 exact ⟨us, scalar_R.2 ⟨h0, by rw [hl]; exact hown⟩, hl, hv⟩
theorem scal_S {w : World} {base : Nat} {ok : Nat → Prop} {v : Value} {us : List OneV} {L : List (List Int)} (h : (Kd.scalar (fun x : OneV => x.1) (fun x => x.2)).R 30 w base ok v us) (hv : RowVals w base (fun k => ok k ∧ some k ≠ v.ownBlock) (us.map (·.1)) L) : Kd.S KII 30 w base ok v L := by
 obtain ⟨h1, h2⟩ := scalar_R.1 h
 have hl : us.length = L.length := by have := hv.len; simpa using this
 exact vals_S h1 (by rw [← hl]; exact h2) hv
theorem S_cat {W w1 : World} {base B : Nat} {v v1 u : Value} {us ns : List OneV} {L M : List (List Int)} (hbB : base ≤ B) (hB : B ≤ W.heap.size)
  (hV : RowVals W base (fun k => k < B ∧ some k ≠ v.ownBlock) (us.map (·.1)) L) (hvB : ∀ k, v.ownBlock = some k → k < B)
  (hU : RowVals W B (fun k => some k ≠ u.ownBlock) (ns.map (·.1)) M)
  (hg : W.grownBy w1 v.ownBlock) (hat : v1.ownBlock = v.ownBlock ∨ ∃ b, v1.ownBlock = some b ∧ W.heap.size ≤ b)
  (hR : (Kd.scalar (fun x : OneV => x.1) (fun x => x.2)).R 30 w1 base (fun _ => True) v1 (us ++ ns)) : Kd.S KII 30 w1 base (fun _ => True) v1 (L ++ M) := by
 have hne : ∀ k, k < W.heap.size → some k ≠ v.ownBlock → some k ≠ v1.ownBlock := by
  intro k hk hn e
  rcases hat with h1 | ⟨b, h1, h2⟩
  ·exact hn (by rw [e, h1])
  ·rw [h1] at e
   injection e with e
   omega
 refine scal_S hR ?_
 rw [List.map_append]
 refine RowVals.cat (hV.step (fun k hk hlt => hg.block k hlt hk.2) (fun k hk hlt => ⟨trivial, hne k hlt hk.2⟩)) ?_ ?_
 ·have h1 : RowVals W base (fun k => some k ≠ v.ownBlock) (ns.map (·.1)) M := hU.above hbB (fun k hk hbk e => by
   have := hvB k e.symm
   omega)
  exact h1.step (fun k hk hlt => hg.block k hlt hk) (fun k hk hlt => ⟨trivial, hne k hlt hk⟩)
 ·intro a ha b hb k hak hbk
  have h1 := hV.own ha hak
  have h2 := hU.own hb hbk
  omega
end Go.Proofs.Ytkdgpbcecnmdhaa.P
namespace Go.Proofs.Ytkdgpbcecnmdhaa.P
open Go.Shelf Go.RowKit Go.Proofs.YtkdgpbcecnmdhaaW.PrintWords Go.Proofs.YtkdgpbcecnmdhaaW.PrintLast
theorem compare_enters : ∀ args w, (callFunc 51 args).run Try.prog w = .ok (.enter 51 args) w := fun args w => enters_of Try.func51 (by kernel_rfl) rfl args w
theorem compare_at (W : World) (A B : Option Addr) (c c' : Nat) (x y : List Int) (hx : x.length < 9223372036854775807) (hy : y.length < 9223372036854775807) (h1 : Kd.C (Kd.int .i64) W A x.length x) (h2 : x.length ≤ c) (h3 : Kd.C (Kd.int .i64) W B y.length y) (h4 : y.length ≤ c') : Calls Try.prog 51 (#[.slice A x.length c, .slice B y.length c'] ++ #[]) W fun e w' => e = .returned (.int .i64 (cmpL x y)) ∧ Drawn0 W w' :=
  slices_Compare_int_int.calls (x.length + 1) A c x B c' y (cmpL x y) W h1 h2 h3 h4 (compare_ev x y hx)
def impl_ups.l0 : Nat → List Int → Int → List (List Int) → Int → Option (List (List Int))
  | 0, _, _, _, _ => none
  | k + 1, t, most, o, i => if i < 3 then (impl_moved.f t i).bind fun u => (if 2 < (u.length : Int) then (if 2 < (t.length : Int) then (if rd t 2 < rd u 2 then (if rd u 2 ≤ most then (if o.length < 1000000000 then (if u.length < 9223372036854775807 then impl_ups.l0 k t most (o ++ [u]) (wrap64 (i + 1)) else none) else none) else impl_ups.l0 k t most o (wrap64 (i + 1))) else impl_ups.l0 k t most o (wrap64 (i + 1))) else none) else none) else some (sortDedup o)
def impl_ups.f (k : Nat) (l0 : List Int) (a1 : Int) : Option (List (List Int)) := impl_ups.l0 k l0 a1 [] 0
theorem impl_ups.mono_l : ∀ k, (∀ y0 y1 y2 y3, LeO (impl_ups.l0 k y0 y1 y2 y3) (impl_ups.l0 (k + 1) y0 y1 y2 y3))
 | 0 => fun _ _ _ _ r h => by simp [impl_ups.l0] at h
 | k + 1 => by
  have ih0 := impl_ups.mono_l k
  intro y0 y1 y2 y3
  unfold impl_ups.l0
  repeat' first
   | (with_reducible exact ih0 _ _ _ _)
   | (with_reducible exact LeO.refl _)
   | (with_reducible exact LeO.none _)
   | (with_reducible refine LeO.ite ?_ ?_)
   | (with_reducible refine LeO.bind ?_ (fun _ => ?_))
theorem impl_ups.mono : ∀ a0 a1 k, LeO (impl_ups.f k a0 a1) (impl_ups.f (k + 1) a0 a1) := by
 intro a0 a1 k
 unfold impl_ups.f
 exact impl_ups.mono_l k _ _ _ _
set_option maxHeartbeats 4000000 in
set_option maxRecDepth 100000 in
theorem impl_ups.calls (k : Nat) (A0 : Option Addr) (c0 : Nat) (l0 : List Int) (a1 : Int) (r : List (List Int)) (w : World) (hr0 : Kd.C (Kd.int .i64) w A0 l0.length l0) (hc0 : l0.length ≤ c0) (h : impl_ups.f k l0 a1 = some r) :
  Calls Try.prog 48 #[.slice A0 l0.length c0, .int .i64 a1] w fun e w' => ∃ v0_ : Value, e = .returned (v0_) ∧ Kd.S (Kd.slice 3 (Kd.int .i64)) 30 w' w.heap.size (fun _ => True) v0_ r ∧ Below w.heap.size w w' := by
 have HR0 := Aside0.mk hr0
 have HC0 := Aside0.mk hc0
 have H' := Aside0.mk (show impl_ups.l0 k l0 a1 [] 0 = some r from h)
 have HB := Aside0.mk (Below.refl w.heap.size w)
 clear hr0 hc0 h
 go_enter Try.func48, Try.ntmps48
 go_wp2_with (first
  | ((with_reducible refine gate_dst (N := 8) rfl ?_); refine Kd.S_lits (Kd.slice 3 (Kd.int .i64)) (w0 := w) w.heap.size 30 ?hg (N := 8) ?hd (xs := []) (inner := []) (ok := fun _ => True) (fun j k_ => False) ?hr rfl ?hp ?ha (fun _ _ _ => trivial) trivial ?hB ?hs (by simp) ?_; (case hd => rfl); (case hg => rfl); (case hr => first | (go_simp; done) | (go_simp; rfl)); (case hp => intro j x hj; simp at hj); (case ha => intro i j k_ h1 _; exact h1.elim); (case hB => exact HB.out); (case hs => exact below_size HB.out); intro v2 w2 ho hb hg hat; have n2_ := Aside0.mk ho; have n3_ := Aside0.mk hb; clear HB; have HO6 := n2_; have HB := n3_; clear n2_ n3_ ho hb hg hat))
 go_loopg [5, 9] k (fun kq v5 v9 w' => ∃ (o : List (List Int)) (i : Int), v9 = .int .i64 i ∧ Aside0 (0 ≤ i ∧ i < 1000) ∧ Aside0 (impl_ups.l0 kq l0 a1 o i = some r) ∧ Aside0 (kq ≤ k) ∧ Aside0 (∀ x ∈ o, x.length < 9223372036854775807) ∧ Aside0 (o.length < 1000000001) ∧ Aside0 (Kd.S (Kd.slice 3 (Kd.int .i64)) 30 w' w.heap.size (fun _ => True) v5 o) ∧ Aside0 (Below w.heap.size w w'))
 case atStart => exact ⟨[], 0, rfl, ⟨by omega⟩, H', ⟨Nat.le_refl _⟩, ⟨by simp⟩, ⟨by simp⟩, ⟨HO6.out⟩, ⟨HB.out⟩⟩
 case round =>
  clear H' HO6 HB
  obtain ⟨o, i, rfl, HI, HA, HK1, HP, HL, HO6, HB⟩ := hrel
  cases gk with
  | zero => exact absurd HA.out (by simp [impl_ups.l0])
  | succ k1 =>
   have H := HA.out
   clear HA
   simp only [impl_ups.l0] at H
   by_cases c2 : i < 3
   ·have HI3 := Aside0.mk c2
    rw [if_pos c2] at H
    have c2b0 : decide (i < 3) = true := decide_eq_true c2
    clear c2
    obtain ⟨u, A3, H⟩ := Option.bind_eq_some_iff.mp H
    have HA3 := Aside0.mk A3
    clear A3
    by_cases c5 : 2 < (u.length : Int)
    ·rw [if_pos c5] at H
     have c5b0 : decide (2 < (u.length : Int)) = true := decide_eq_true c5
     have c5b1 : decide (2 < u.length) = true := decide_eq_true (by omega)
     clear c5
     by_cases c6 : 2 < (l0.length : Int)
     ·rw [if_pos c6] at H
      have c6b0 : decide (2 < (l0.length : Int)) = true := decide_eq_true c6
      have c6b1 : decide (2 < l0.length) = true := decide_eq_true (by omega)
      clear c6
      by_cases c7 : rd l0 2 < rd u 2
      ·rw [if_pos c7] at H
       have c7b0 : decide (rd l0 2 < rd u 2) = true := decide_eq_true c7
       clear c7
       by_cases c8 : rd u 2 ≤ a1
       ·rw [if_pos c8] at H
        have c8b0 : decide (rd u 2 ≤ a1) = true := decide_eq_true c8
        clear c8
        by_cases c9 : o.length < 1000000000
        ·rw [if_pos c9] at H
         have LM := Aside0.mk c9
         clear c9
         by_cases c10 : u.length < 9223372036854775807
         ·rw [if_pos c10] at H
          have HU := Aside0.mk c10
          have H' := Aside0.mk H
          clear H c10
          go_wp2_with (first
           | (go_at_call 44; refine (impl_moved.calls _ _ l0 i u _ (by repeat (first | exact (Kd.C_below HR0.out HB.out) | (with_reducible refine Kd.C_alloc ?_ _) | (with_reducible refine Kd.C_drewN ?_ _) | (with_reducible refine Kd.C_drew ?_))) HC0.out HA3.out).mono ?_; rintro e w4 ⟨v4, rfl, ho0, hb⟩; have n1_ := Aside0.mk (Kd.S_elder' (by (with_reducible repeat (first | apply Kd.S_alloc | apply Kd.S_drewN | apply Kd.S_drew)); exact HO6.out) (Kd.R_base ho0) hb); have n2_ := Aside0.mk (below_step (by repeat (first | (with_reducible first | exact HB.out | apply below_alloc | apply pw_below_drewN | apply below_drew1) | exact HB.out)) hb); have n0_ := Aside0.mk (Kd.R_lower ho0 (below_size (by repeat (first | (with_reducible first | exact HB.out | apply below_alloc | apply pw_below_drewN | apply below_drew1) | exact HB.out)))); clear HO6 HB; have HO5 := n0_; have HO6 := n1_; have HB := n2_; clear n0_ n1_ n2_ hb ho0; obtain ⟨Ao4, co4, eo4⟩ := Kd.R_slice HO5.out; subst eo4; have p1 : 0 ≤ (2 : Int) := (by omega); have q1 : 2 < (u.length : Int) := of_decide_eq_true (by first | (with_reducible assumption) | assumption); obtain ⟨ad1, e1, hx1⟩ := Kd.at_int (Kd.R_reads' HO5.out).2.2 2 p1 q1; cases e1; (try simp only [show (2 : Int).toNat = 2 from rfl, Nat.reduceMul, Nat.reduceEqDiff, Go.Addr.add, ↓reduceIte] at hx1); have qi1 : (2 < u.length) = True := eq_true (by omega); (try rw [show ((2 : Int)).toNat = 2 from rfl] at hx1); replace p1 := eq_true p1; replace q1 := eq_true q1; have p2 : 0 ≤ (2 : Int) := (by omega); have q2 : 2 < (l0.length : Int) := of_decide_eq_true (by first | (with_reducible assumption) | assumption); obtain ⟨ad2, e2, hx2⟩ := Kd.at_int HR0.out 2 p2 q2; cases e2; (try simp only [show (2 : Int).toNat = 2 from rfl, Nat.reduceMul, Nat.reduceEqDiff, Go.Addr.add, ↓reduceIte] at hx2); have qi2 : (2 < l0.length) = True := eq_true (by omega); (try rw [show ((2 : Int)).toNat = 2 from rfl] at hx2); replace hx2 := (HB.out.cell (World.block_lt_of_cell? w _ hx2)).trans hx2; replace p2 := eq_true p2; replace q2 := eq_true q2)
           | ((with_reducible refine gate_builtin (b := .append) (xs := #[.tmp 29, .tmp 31]) rfl ?_); at_builtin; refine Kd.S_append (Kd.slice 3 (Kd.int .i64)) (w0 := w) w.heap.size rfl (.tmp 29) (.tmp 31) 25 30 (.slice none 0 0) 24 rfl Try.underlying25 info30 rfl (by decide) (by omega) u5 o u [.slice (some ad1) u.length co4] (fun _ => True) (fun k_ => some k_ = (Value.slice (some ad1) u.length co4).ownBlock) rfl rfl ?aP ?aK (fun _ _ => trivial) ?aO ?aB ?aS ?aL ?_; (case aP => exact ⟨_, rfl, Kd.R_tight rfl HO5.out⟩); (case aK => exact fun k_ hk => ⟨trivial, ((Kd.R_apart' HO5.out (Kd.S_typed HO6.out) (by decide)).1 k_ hk.symm).2⟩); (case aO => (with_reducible repeat (first | apply Kd.S_alloc | apply Kd.S_drewN | apply Kd.S_drew)); exact Kd.S_mono HO6.out (fun k_ hk => ⟨trivial, hk.2⟩)); (case aB => exact (by repeat (first | (with_reducible first | exact HB.out | apply below_alloc | apply pw_below_drewN | apply below_drew1) | exact HB.out))); (case aS => exact (below_size (by repeat (first | (with_reducible first | exact HB.out | apply below_alloc | apply pw_below_drewN | apply below_drew1) | exact HB.out)))); (case aL => have := LM.out; omega); intro v7 w7 ho hb hg hat; clear HO5 HO6 HB; have HO6 := Aside0.mk ho; have HB := Aside0.mk hb; clear ho hb hg hat))
          repeat (go_quiet (fail); try go_wp2_with (first
           | (go_at_call 44; refine (impl_moved.calls _ _ l0 i u _ (by repeat (first | exact (Kd.C_below HR0.out HB.out) | (with_reducible refine Kd.C_alloc ?_ _) | (with_reducible refine Kd.C_drewN ?_ _) | (with_reducible refine Kd.C_drew ?_))) HC0.out HA3.out).mono ?_; rintro e w4 ⟨v4, rfl, ho0, hb⟩; have n1_ := Aside0.mk (Kd.S_elder' (by (with_reducible repeat (first | apply Kd.S_alloc | apply Kd.S_drewN | apply Kd.S_drew)); exact HO6.out) (Kd.R_base ho0) hb); have n2_ := Aside0.mk (below_step (by repeat (first | (with_reducible first | exact HB.out | apply below_alloc | apply pw_below_drewN | apply below_drew1) | exact HB.out)) hb); have n0_ := Aside0.mk (Kd.R_lower ho0 (below_size (by repeat (first | (with_reducible first | exact HB.out | apply below_alloc | apply pw_below_drewN | apply below_drew1) | exact HB.out)))); clear HO6 HB; have HO5 := n0_; have HO6 := n1_; have HB := n2_; clear n0_ n1_ n2_ hb ho0; obtain ⟨Ao4, co4, eo4⟩ := Kd.R_slice HO5.out; subst eo4; have p1 : 0 ≤ (2 : Int) := (by omega); have q1 : 2 < (u.length : Int) := of_decide_eq_true (by first | (with_reducible assumption) | assumption); obtain ⟨ad1, e1, hx1⟩ := Kd.at_int (Kd.R_reads' HO5.out).2.2 2 p1 q1; cases e1; (try simp only [show (2 : Int).toNat = 2 from rfl, Nat.reduceMul, Nat.reduceEqDiff, Go.Addr.add, ↓reduceIte] at hx1); have qi1 : (2 < u.length) = True := eq_true (by omega); (try rw [show ((2 : Int)).toNat = 2 from rfl] at hx1); replace p1 := eq_true p1; replace q1 := eq_true q1; have p2 : 0 ≤ (2 : Int) := (by omega); have q2 : 2 < (l0.length : Int) := of_decide_eq_true (by first | (with_reducible assumption) | assumption); obtain ⟨ad2, e2, hx2⟩ := Kd.at_int HR0.out 2 p2 q2; cases e2; (try simp only [show (2 : Int).toNat = 2 from rfl, Nat.reduceMul, Nat.reduceEqDiff, Go.Addr.add, ↓reduceIte] at hx2); have qi2 : (2 < l0.length) = True := eq_true (by omega); (try rw [show ((2 : Int)).toNat = 2 from rfl] at hx2); replace hx2 := (HB.out.cell (World.block_lt_of_cell? w _ hx2)).trans hx2; replace p2 := eq_true p2; replace q2 := eq_true q2)
           | ((with_reducible refine gate_builtin (b := .append) (xs := #[.tmp 29, .tmp 31]) rfl ?_); at_builtin; refine Kd.S_append (Kd.slice 3 (Kd.int .i64)) (w0 := w) w.heap.size rfl (.tmp 29) (.tmp 31) 25 30 (.slice none 0 0) 24 rfl Try.underlying25 info30 rfl (by decide) (by omega) u5 o u [.slice (some ad1) u.length co4] (fun _ => True) (fun k_ => some k_ = (Value.slice (some ad1) u.length co4).ownBlock) rfl rfl ?aP ?aK (fun _ _ => trivial) ?aO ?aB ?aS ?aL ?_; (case aP => exact ⟨_, rfl, Kd.R_tight rfl HO5.out⟩); (case aK => exact fun k_ hk => ⟨trivial, ((Kd.R_apart' HO5.out (Kd.S_typed HO6.out) (by decide)).1 k_ hk.symm).2⟩); (case aO => (with_reducible repeat (first | apply Kd.S_alloc | apply Kd.S_drewN | apply Kd.S_drew)); exact Kd.S_mono HO6.out (fun k_ hk => ⟨trivial, hk.2⟩)); (case aB => exact (by repeat (first | (with_reducible first | exact HB.out | apply below_alloc | apply pw_below_drewN | apply below_drew1) | exact HB.out))); (case aS => exact (below_size (by repeat (first | (with_reducible first | exact HB.out | apply below_alloc | apply pw_below_drewN | apply below_drew1) | exact HB.out)))); (case aL => have := LM.out; omega); intro v7 w7 ho hb hg hat; clear HO5 HO6 HB; have HO6 := Aside0.mk ho; have HB := Aside0.mk hb; clear ho hb hg hat)))
          go_roundg k1
          case measure => have := HK1.out; omega
          case rel => exact ⟨o ++ [u], wrap64 (i + 1), (by first | rfl | (simp; done) | (simp [*]; done)), ⟨by have := HI.out; have := HI3.out; unfold wrap64; omega⟩, H', ⟨by have := HK1.out; omega⟩, ⟨fun x hx => by rcases List.mem_append.1 hx with h_ | h_; exact HP.out x h_; (simp at h_; exact h_ ▸ HU.out)⟩, ⟨by have := LM.out; simp; omega⟩, ⟨by (with_reducible repeat (first | apply Kd.S_alloc | apply Kd.S_drewN | apply Kd.S_drew)); exact Kd.S_mono HO6.out (fun _ _ => trivial)⟩, ⟨by repeat (first | (with_reducible first | exact HB.out | apply below_alloc | apply pw_below_drewN | apply below_drew1) | exact HB.out)⟩⟩
         ·rw [if_neg c10] at H
          exact absurd H (by simp)
        ·rw [if_neg c9] at H
         exact absurd H (by simp)
       ·rw [if_neg c8] at H
        have c8b0 : decide (rd u 2 ≤ a1) = false := decide_eq_false c8
        clear c8
        have H' := Aside0.mk H
        clear H
        go_wp2_with (first
         | (go_at_call 44; refine (impl_moved.calls _ _ l0 i u _ (by repeat (first | exact (Kd.C_below HR0.out HB.out) | (with_reducible refine Kd.C_alloc ?_ _) | (with_reducible refine Kd.C_drewN ?_ _) | (with_reducible refine Kd.C_drew ?_))) HC0.out HA3.out).mono ?_; rintro e w4 ⟨v4, rfl, ho0, hb⟩; have n1_ := Aside0.mk (Kd.S_elder' (by (with_reducible repeat (first | apply Kd.S_alloc | apply Kd.S_drewN | apply Kd.S_drew)); exact HO6.out) (Kd.R_base ho0) hb); have n2_ := Aside0.mk (below_step (by repeat (first | (with_reducible first | exact HB.out | apply below_alloc | apply pw_below_drewN | apply below_drew1) | exact HB.out)) hb); have n0_ := Aside0.mk (Kd.R_lower ho0 (below_size (by repeat (first | (with_reducible first | exact HB.out | apply below_alloc | apply pw_below_drewN | apply below_drew1) | exact HB.out)))); clear HO6 HB; have HO5 := n0_; have HO6 := n1_; have HB := n2_; clear n0_ n1_ n2_ hb ho0; obtain ⟨Ao4, co4, eo4⟩ := Kd.R_slice HO5.out; subst eo4; have p1 : 0 ≤ (2 : Int) := (by omega); have q1 : 2 < (u.length : Int) := of_decide_eq_true (by first | (with_reducible assumption) | assumption); obtain ⟨ad1, e1, hx1⟩ := Kd.at_int (Kd.R_reads' HO5.out).2.2 2 p1 q1; cases e1; (try simp only [show (2 : Int).toNat = 2 from rfl, Nat.reduceMul, Nat.reduceEqDiff, Go.Addr.add, ↓reduceIte] at hx1); have qi1 : (2 < u.length) = True := eq_true (by omega); (try rw [show ((2 : Int)).toNat = 2 from rfl] at hx1); replace p1 := eq_true p1; replace q1 := eq_true q1; have p2 : 0 ≤ (2 : Int) := (by omega); have q2 : 2 < (l0.length : Int) := of_decide_eq_true (by first | (with_reducible assumption) | assumption); obtain ⟨ad2, e2, hx2⟩ := Kd.at_int HR0.out 2 p2 q2; cases e2; (try simp only [show (2 : Int).toNat = 2 from rfl, Nat.reduceMul, Nat.reduceEqDiff, Go.Addr.add, ↓reduceIte] at hx2); have qi2 : (2 < l0.length) = True := eq_true (by omega); (try rw [show ((2 : Int)).toNat = 2 from rfl] at hx2); replace hx2 := (HB.out.cell (World.block_lt_of_cell? w _ hx2)).trans hx2; replace p2 := eq_true p2; replace q2 := eq_true q2))
        repeat (go_quiet (fail); try go_wp2_with (first
         | (go_at_call 44; refine (impl_moved.calls _ _ l0 i u _ (by repeat (first | exact (Kd.C_below HR0.out HB.out) | (with_reducible refine Kd.C_alloc ?_ _) | (with_reducible refine Kd.C_drewN ?_ _) | (with_reducible refine Kd.C_drew ?_))) HC0.out HA3.out).mono ?_; rintro e w4 ⟨v4, rfl, ho0, hb⟩; have n1_ := Aside0.mk (Kd.S_elder' (by (with_reducible repeat (first | apply Kd.S_alloc | apply Kd.S_drewN | apply Kd.S_drew)); exact HO6.out) (Kd.R_base ho0) hb); have n2_ := Aside0.mk (below_step (by repeat (first | (with_reducible first | exact HB.out | apply below_alloc | apply pw_below_drewN | apply below_drew1) | exact HB.out)) hb); have n0_ := Aside0.mk (Kd.R_lower ho0 (below_size (by repeat (first | (with_reducible first | exact HB.out | apply below_alloc | apply pw_below_drewN | apply below_drew1) | exact HB.out)))); clear HO6 HB; have HO5 := n0_; have HO6 := n1_; have HB := n2_; clear n0_ n1_ n2_ hb ho0; obtain ⟨Ao4, co4, eo4⟩ := Kd.R_slice HO5.out; subst eo4; have p1 : 0 ≤ (2 : Int) := (by omega); have q1 : 2 < (u.length : Int) := of_decide_eq_true (by first | (with_reducible assumption) | assumption); obtain ⟨ad1, e1, hx1⟩ := Kd.at_int (Kd.R_reads' HO5.out).2.2 2 p1 q1; cases e1; (try simp only [show (2 : Int).toNat = 2 from rfl, Nat.reduceMul, Nat.reduceEqDiff, Go.Addr.add, ↓reduceIte] at hx1); have qi1 : (2 < u.length) = True := eq_true (by omega); (try rw [show ((2 : Int)).toNat = 2 from rfl] at hx1); replace p1 := eq_true p1; replace q1 := eq_true q1; have p2 : 0 ≤ (2 : Int) := (by omega); have q2 : 2 < (l0.length : Int) := of_decide_eq_true (by first | (with_reducible assumption) | assumption); obtain ⟨ad2, e2, hx2⟩ := Kd.at_int HR0.out 2 p2 q2; cases e2; (try simp only [show (2 : Int).toNat = 2 from rfl, Nat.reduceMul, Nat.reduceEqDiff, Go.Addr.add, ↓reduceIte] at hx2); have qi2 : (2 < l0.length) = True := eq_true (by omega); (try rw [show ((2 : Int)).toNat = 2 from rfl] at hx2); replace hx2 := (HB.out.cell (World.block_lt_of_cell? w _ hx2)).trans hx2; replace p2 := eq_true p2; replace q2 := eq_true q2)))
        go_roundg k1
        case measure => have := HK1.out; omega
        case rel => exact ⟨o, wrap64 (i + 1), (by first | rfl | (simp; done) | (simp [*]; done)), ⟨by have := HI.out; have := HI3.out; unfold wrap64; omega⟩, H', ⟨by have := HK1.out; omega⟩, HP, HL, ⟨by (with_reducible repeat (first | apply Kd.S_alloc | apply Kd.S_drewN | apply Kd.S_drew)); exact Kd.S_mono HO6.out (fun _ _ => trivial)⟩, ⟨by repeat (first | (with_reducible first | exact HB.out | apply below_alloc | apply pw_below_drewN | apply below_drew1) | exact HB.out)⟩⟩
      ·rw [if_neg c7] at H
       have c7b0 : decide (rd l0 2 < rd u 2) = false := decide_eq_false c7
       clear c7
       have H' := Aside0.mk H
       clear H
       go_wp2_with (first
        | (go_at_call 44; refine (impl_moved.calls _ _ l0 i u _ (by repeat (first | exact (Kd.C_below HR0.out HB.out) | (with_reducible refine Kd.C_alloc ?_ _) | (with_reducible refine Kd.C_drewN ?_ _) | (with_reducible refine Kd.C_drew ?_))) HC0.out HA3.out).mono ?_; rintro e w4 ⟨v4, rfl, ho0, hb⟩; have n1_ := Aside0.mk (Kd.S_elder' (by (with_reducible repeat (first | apply Kd.S_alloc | apply Kd.S_drewN | apply Kd.S_drew)); exact HO6.out) (Kd.R_base ho0) hb); have n2_ := Aside0.mk (below_step (by repeat (first | (with_reducible first | exact HB.out | apply below_alloc | apply pw_below_drewN | apply below_drew1) | exact HB.out)) hb); have n0_ := Aside0.mk (Kd.R_lower ho0 (below_size (by repeat (first | (with_reducible first | exact HB.out | apply below_alloc | apply pw_below_drewN | apply below_drew1) | exact HB.out)))); clear HO6 HB; have HO5 := n0_; have HO6 := n1_; have HB := n2_; clear n0_ n1_ n2_ hb ho0; obtain ⟨Ao4, co4, eo4⟩ := Kd.R_slice HO5.out; subst eo4; have p1 : 0 ≤ (2 : Int) := (by omega); have q1 : 2 < (u.length : Int) := of_decide_eq_true (by first | (with_reducible assumption) | assumption); obtain ⟨ad1, e1, hx1⟩ := Kd.at_int (Kd.R_reads' HO5.out).2.2 2 p1 q1; cases e1; (try simp only [show (2 : Int).toNat = 2 from rfl, Nat.reduceMul, Nat.reduceEqDiff, Go.Addr.add, ↓reduceIte] at hx1); have qi1 : (2 < u.length) = True := eq_true (by omega); (try rw [show ((2 : Int)).toNat = 2 from rfl] at hx1); replace p1 := eq_true p1; replace q1 := eq_true q1; have p2 : 0 ≤ (2 : Int) := (by omega); have q2 : 2 < (l0.length : Int) := of_decide_eq_true (by first | (with_reducible assumption) | assumption); obtain ⟨ad2, e2, hx2⟩ := Kd.at_int HR0.out 2 p2 q2; cases e2; (try simp only [show (2 : Int).toNat = 2 from rfl, Nat.reduceMul, Nat.reduceEqDiff, Go.Addr.add, ↓reduceIte] at hx2); have qi2 : (2 < l0.length) = True := eq_true (by omega); (try rw [show ((2 : Int)).toNat = 2 from rfl] at hx2); replace hx2 := (HB.out.cell (World.block_lt_of_cell? w _ hx2)).trans hx2; replace p2 := eq_true p2; replace q2 := eq_true q2))
       repeat (go_quiet (fail); try go_wp2_with (first
        | (go_at_call 44; refine (impl_moved.calls _ _ l0 i u _ (by repeat (first | exact (Kd.C_below HR0.out HB.out) | (with_reducible refine Kd.C_alloc ?_ _) | (with_reducible refine Kd.C_drewN ?_ _) | (with_reducible refine Kd.C_drew ?_))) HC0.out HA3.out).mono ?_; rintro e w4 ⟨v4, rfl, ho0, hb⟩; have n1_ := Aside0.mk (Kd.S_elder' (by (with_reducible repeat (first | apply Kd.S_alloc | apply Kd.S_drewN | apply Kd.S_drew)); exact HO6.out) (Kd.R_base ho0) hb); have n2_ := Aside0.mk (below_step (by repeat (first | (with_reducible first | exact HB.out | apply below_alloc | apply pw_below_drewN | apply below_drew1) | exact HB.out)) hb); have n0_ := Aside0.mk (Kd.R_lower ho0 (below_size (by repeat (first | (with_reducible first | exact HB.out | apply below_alloc | apply pw_below_drewN | apply below_drew1) | exact HB.out)))); clear HO6 HB; have HO5 := n0_; have HO6 := n1_; have HB := n2_; clear n0_ n1_ n2_ hb ho0; obtain ⟨Ao4, co4, eo4⟩ := Kd.R_slice HO5.out; subst eo4; have p1 : 0 ≤ (2 : Int) := (by omega); have q1 : 2 < (u.length : Int) := of_decide_eq_true (by first | (with_reducible assumption) | assumption); obtain ⟨ad1, e1, hx1⟩ := Kd.at_int (Kd.R_reads' HO5.out).2.2 2 p1 q1; cases e1; (try simp only [show (2 : Int).toNat = 2 from rfl, Nat.reduceMul, Nat.reduceEqDiff, Go.Addr.add, ↓reduceIte] at hx1); have qi1 : (2 < u.length) = True := eq_true (by omega); (try rw [show ((2 : Int)).toNat = 2 from rfl] at hx1); replace p1 := eq_true p1; replace q1 := eq_true q1; have p2 : 0 ≤ (2 : Int) := (by omega); have q2 : 2 < (l0.length : Int) := of_decide_eq_true (by first | (with_reducible assumption) | assumption); obtain ⟨ad2, e2, hx2⟩ := Kd.at_int HR0.out 2 p2 q2; cases e2; (try simp only [show (2 : Int).toNat = 2 from rfl, Nat.reduceMul, Nat.reduceEqDiff, Go.Addr.add, ↓reduceIte] at hx2); have qi2 : (2 < l0.length) = True := eq_true (by omega); (try rw [show ((2 : Int)).toNat = 2 from rfl] at hx2); replace hx2 := (HB.out.cell (World.block_lt_of_cell? w _ hx2)).trans hx2; replace p2 := eq_true p2; replace q2 := eq_true q2)))
       go_roundg k1
       case measure => have := HK1.out; omega
       case rel => exact ⟨o, wrap64 (i + 1), (by first | rfl | (simp; done) | (simp [*]; done)), ⟨by have := HI.out; have := HI3.out; unfold wrap64; omega⟩, H', ⟨by have := HK1.out; omega⟩, HP, HL, ⟨by (with_reducible repeat (first | apply Kd.S_alloc | apply Kd.S_drewN | apply Kd.S_drew)); exact Kd.S_mono HO6.out (fun _ _ => trivial)⟩, ⟨by repeat (first | (with_reducible first | exact HB.out | apply below_alloc | apply pw_below_drewN | apply below_drew1) | exact HB.out)⟩⟩
     ·rw [if_neg c6] at H
      exact absurd H (by simp)
    ·rw [if_neg c5] at H
     exact absurd H (by simp)
   ·rw [if_neg c2] at H
    have c2b0 : decide (i < 3) = false := decide_eq_false c2
    clear c2
    obtain rfl : sortDedup o = r := by simpa using H
    clear H
    go_wp2_with (first
     | (go_at_call 49; refine (rows_sort cmpL cmpL_total (fun x => x.length < 9223372036854775807) 51 #[] compare_enters compare_at (fun _ => True) _ o w _ HB.out HP.out (by have := HL.out; omega) HO6.out).mono ?_; rintro e w3 ⟨rfl, ys, hp, hs, ho, hb, hk⟩; have n1_ := Aside0.mk (Kd.S_mono ho (fun _ _ => trivial)); have n2_ := Aside0.mk hb; have n3_ := Aside0.mk hp; have n4_ := Aside0.mk hs; clear HO6 HB; have HO6 := n1_; have HB := n2_; have HPM := n3_; have HSO := n4_; clear n1_ n2_ n3_ n4_ ho hb hk hp hs)
     | (go_at_call 63; refine (rows_compact (fun _ => True) _ ys w _ HB.out (fun x hx => HP.out x ((HPM.out.mem_iff).1 hx)) (HSO.out.imp (fun h_ => by omega)) HO6.out).mono ?_; rintro e w4 ⟨v4, rfl, zs, hz1, hz2, ho, hb, hk⟩; have n1_ := Aside0.mk (Kd.S_mono ho (fun _ _ => trivial)); have n2_ := Aside0.mk hb; have n3_ := Aside0.mk (sortDedup_is hz1 (fun z => (hz2 z).trans HPM.out.mem_iff)); clear HO6 HB; have HO6 := n1_; have HB := n2_; have HZ := n3_; clear n1_ n2_ n3_ ho hb hk hz1 hz2))
    go_ret
    exact ⟨_, rfl, by rw [← HZ.out]; exact HO6.out, HB.out⟩
end Go.Proofs.Ytkdgpbcecnmdhaa.P
namespace Go.Proofs.Ytkdgpbcecnmdhaa.P
open Go.Shelf Go.RowKit Go.Proofs.YtkdgpbcecnmdhaaW.PrintWords Go.Proofs.YtkdgpbcecnmdhaaW.PrintLast
theorem cmpM_enters : ∀ args w, (callFunc 50 args).run Try.prog w = .ok (.enter 50 args) w := fun args w => enters_of Try.func50 (by kernel_rfl) rfl args w
set_option maxHeartbeats 1000000 in
set_option maxRecDepth 100000 in
theorem cmpM_at (W : World) (A B : Option Addr) (c c' : Nat) (x y : List Int) (hx : prM x = true) (hy : prM y = true) (h1 : Kd.C (Kd.int .i64) W A x.length x) (h2 : x.length ≤ c) (h3 : Kd.C (Kd.int .i64) W B y.length y) (h4 : y.length ≤ c') : Calls Try.prog 50 (#[.slice A x.length c, .slice B y.length c'] ++ #[]) W fun e w' => e = .returned (.int .i64 (cfM x y)) ∧ Drawn0 W w' := by
 show Calls Try.prog 50 #[.slice A x.length c, .slice B y.length c'] W fun e w' => e = .returned (.int .i64 (cfM x y)) ∧ Drawn0 W w'
 rw [prM_iff] at hx hy
 have p1 : 0 ≤ (2 : Int) := by omega
 have q1 : 2 < (x.length : Int) := by omega
 have q2 : 2 < (y.length : Int) := by omega
 obtain ⟨ad1, e1, hx1⟩ := Kd.at_int h1 2 p1 q1
 cases e1
 obtain ⟨ad2, e2, hx2⟩ := Kd.at_int h3 2 p1 q2
 cases e2
 (try simp only [show (2 : Int).toNat = 2 from rfl, Nat.reduceMul, Nat.reduceEqDiff, Go.Addr.add, ↓reduceIte] at hx1)
 (try simp only [show (2 : Int).toNat = 2 from rfl, Nat.reduceMul, Nat.reduceEqDiff, Go.Addr.add, ↓reduceIte] at hx2)
 have qi1 : (2 < x.length) = True := eq_true (by omega)
 have qi2 : (2 < y.length) = True := eq_true (by omega)
 have HC := Aside0.mk (slices_Compare_int_int.calls (x.length + 1) (some ad1) c x (some ad2) c' y (cmpL x y) · · · · · (compare_ev x y hx.2.1))
 have H1 := Aside0.mk h1
 have H2 := Aside0.mk h2
 have H3 := Aside0.mk h3
 have H4 := Aside0.mk h4
 have HX := Aside0.mk hx
 have HY := Aside0.mk hy
 clear h1 h2 h3 h4
 have hwr : wrap64 (rd x 2 - rd y 2) = rd x 2 - rd y 2 := by unfold wrap64; omega
 clear hx hy
 by_cases e : rd x 2 = rd y 2
 ·have eb0 : (rd x 2 == rd y 2) = true := beq_iff_eq.mpr e
  have eb1 : (rd x 2 != rd y 2) = false := bne_eq_false_iff_eq.mpr e
  have hcf : Aside0 (cfM x y = cmpL x y) := ⟨by unfold cfM; rw [if_pos e]⟩
  clear e hwr
  generalize rd x 2 = a at *
  generalize rd y 2 = b at *
  go_enter Try.func50, Try.ntmps50
  go_wp2_with (first
   | (go_at_call 51; refine (HC.out _ (by repeat (first | exact H1.out | (with_reducible refine Kd.C_alloc ?_ _) | (with_reducible refine Kd.C_drewN ?_ _) | (with_reducible refine Kd.C_drew ?_))) H2.out (by repeat (first | exact H3.out | (with_reducible refine Kd.C_alloc ?_ _) | (with_reducible refine Kd.C_drewN ?_ _) | (with_reducible refine Kd.C_drew ?_))) H4.out).mono ?_; rintro e w' ⟨rfl, ⟨nd, rfl⟩⟩))
  repeat (go_quiet (fail); try go_wp2_with (first
   | (go_at_call 51; refine (HC.out _ (by repeat (first | exact H1.out | (with_reducible refine Kd.C_alloc ?_ _) | (with_reducible refine Kd.C_drewN ?_ _) | (with_reducible refine Kd.C_drew ?_))) H2.out (by repeat (first | exact H3.out | (with_reducible refine Kd.C_alloc ?_ _) | (with_reducible refine Kd.C_drewN ?_ _) | (with_reducible refine Kd.C_drew ?_))) H4.out).mono ?_; rintro e w' ⟨rfl, ⟨nd, rfl⟩⟩)))
  go_ret
  exact ⟨by rw [hcf.out]; rfl, by repeat (first | exact Drawn0.refl _ | apply Drawn0.step)⟩
 ·have eb0 : (rd x 2 == rd y 2) = false := beq_eq_false_iff_ne.mpr e
  have eb1 : (rd x 2 != rd y 2) = true := bne_iff_ne.mpr e
  have hcf : Aside0 (cfM x y = rd x 2 - rd y 2) := ⟨by unfold cfM; rw [if_neg e]⟩
  have hwa := Aside0.mk hwr
  clear e hwr HC
  go_enter Try.func50, Try.ntmps50
  go_wp2
  repeat (go_quiet (fail); try go_wp2)
  go_ret
  exact ⟨by rw [hcf.out]; first | rfl | (simp [i64_w, hwa.out]; done), by repeat (first | exact Drawn0.refl _ | apply Drawn0.step)⟩
def impl_markovs.l0 : Nat → Int → List (List Int) → Int → Option (List (List Int))
  | 0, _, _, _ => none
  | k + 1, most, all, i => if i < (all.length : Int) then (if 0 ≤ i then (impl_ups.f k (rd_L1 all i) most).bind fun us => (if all.length + us.length < 5864062014805 then impl_markovs.l0 k most (all ++ us) (wrap64 (i + 1)) else none) else none) else (if all.all prM = true then some (sortM all) else none)
def impl_markovs.f (k : Nat) (a0 : Int) : Option (List (List Int)) := impl_markovs.l0 k a0 [[1, 1, 1]] 0
theorem impl_markovs.mono_l : ∀ k, (∀ y0 y1 y2, LeO (impl_markovs.l0 k y0 y1 y2) (impl_markovs.l0 (k + 1) y0 y1 y2))
 | 0 => fun _ _ _ r h => by simp [impl_markovs.l0] at h
 | k + 1 => by
  have ih0 := impl_markovs.mono_l k
  intro y0 y1 y2
  unfold impl_markovs.l0
  repeat' first
   | (with_reducible exact ih0 _ _ _)
   | (with_reducible exact impl_ups.mono _ _ _)
   | (with_reducible exact LeO.refl _)
   | (with_reducible exact LeO.none _)
   | (with_reducible refine LeO.ite ?_ ?_)
   | (with_reducible refine LeO.bind ?_ (fun _ => ?_))
theorem impl_markovs.mono : ∀ a0 k, LeO (impl_markovs.f k a0) (impl_markovs.f (k + 1) a0) := by
 intro a0 k
 unfold impl_markovs.f
 exact impl_markovs.mono_l k _ _ _
set_option maxHeartbeats 4000000 in
set_option maxRecDepth 100000 in
theorem impl_markovs.calls (k : Nat) (a0 : Int) (r : List (List Int)) (w : World) (h : impl_markovs.f k a0 = some r) :
  Calls Try.prog 34 #[.int .i64 a0] w fun e w' => ∃ v0_ : Value, e = .returned (v0_) ∧ Kd.S (Kd.slice 3 (Kd.int .i64)) 30 w' w.heap.size (fun _ => True) v0_ r ∧ Below w.heap.size w w' := by
 obtain ⟨t, ht⟩ : ∃ t : List Int, t = [1, 1, 1] := ⟨_, rfl⟩
 have H' := Aside0.mk (show impl_markovs.l0 k a0 [t] 0 = some r from by rw [ht]; exact h)
 have HT := Aside0.mk ht
 have HB := Aside0.mk (Below.refl w.heap.size w)
 clear h ht
 go_enter Try.func34, Try.ntmps34
 go_wp2_with (first
  | ((with_reducible refine gate_dst (N := 5) rfl ?_); refine Kd.R_lit (Kd.int .i64) _ 3 ?hg (N := 5) ?hd (xs := ([1, 1, 1] : List Int)) (inner := [.int .i64 1, .int .i64 1, .int .i64 1]) (ok := fun _ => True) (okp := fun _ => True) ?hr ?hp (fun _ hk => hk) trivial (Below.refl _ _) (Nat.le_refl _) (by simp) ?_; (case hd => rfl); (case hg => rfl); (case hr => first | (go_simp; done) | (go_simp; rfl)); (case hp => exact (Reps.one (show Kd.M (Kd.int .i64) _ _ _ 1 [.int .i64 1] from rfl) (Reps.one (show Kd.M (Kd.int .i64) _ _ _ 1 [.int .i64 1] from rfl) (Reps.one (show Kd.M (Kd.int .i64) _ _ _ 1 [.int .i64 1] from rfl) (Reps.none _ _))))); intro v1 w1 ho hb hg_ hnew_; clear hg_ hnew_; rw [← HT.out] at ho; have n0_ := Aside0.mk (Kd.R_lower ho (below_size (by repeat (first | (with_reducible first | exact HB.out | apply below_alloc | apply pw_below_drewN | apply below_drew1) | exact HB.out)))); have n1_ := Aside0.mk (below_step (by repeat (first | (with_reducible first | exact HB.out | apply below_alloc | apply pw_below_drewN | apply below_drew1) | exact HB.out)) hb); clear HB; have HO5 := n0_; have HB := n1_; clear n0_ n1_ hb ho; obtain ⟨Ao1, co1, eo1⟩ := Kd.R_slice HO5.out; subst eo1)
  | ((with_reducible refine gate_dst (N := 6) rfl ?_); refine Kd.S_lits (Kd.slice 3 (Kd.int .i64)) (w0 := w) w.heap.size 30 ?hg (N := 6) ?hd (xs := [t]) (inner := [.slice Ao1 t.length co1]) (ok := fun _ => True) (fun j k_ => j = 0 ∧ some k_ = (Value.slice Ao1 t.length co1).ownBlock) ?hr rfl ?hp ?ha (fun _ _ _ => trivial) trivial ?hB ?hs (by simp) ?_; (case hd => rfl); (case hg => rfl); (case hr => first | (go_simp; done) | (go_simp; rfl)); (case hp => intro j x hj; match j, hj with | 0, hj => (obtain rfl : t = x := by simpa using hj); exact ⟨_, rfl, Kd.R_mono (Kd.R_tight rfl HO5.out) (fun k_ hk => ⟨rfl, hk⟩)⟩); (case ha => rintro i j k_ ⟨rfl, _⟩ ⟨rfl, _⟩; rfl); (case hB => exact HB.out); (case hs => exact below_size HB.out); intro v2 w2 ho hb hg hat; have n2_ := Aside0.mk ho; have n3_ := Aside0.mk hb; clear HB HO5; have HO6 := n2_; have HB := n3_; clear n2_ n3_ ho hb hg hat))
 go_loopg [3, 4] k (fun kq v3 v4 w' => ∃ (all : List (List Int)) (i : Int), v4 = .int .i64 i ∧ Aside0 (i < 100000000000000) ∧ Aside0 (impl_markovs.l0 kq a0 all i = some r) ∧ Aside0 (kq ≤ k) ∧ Aside0 (all.length < 5864062014805) ∧ Aside0 (Kd.S (Kd.slice 3 (Kd.int .i64)) 30 w' w.heap.size (fun _ => True) v3 all) ∧ Aside0 (Below w.heap.size w w'))
 case atStart => exact ⟨[t], 0, rfl, ⟨by omega⟩, H', ⟨Nat.le_refl _⟩, ⟨by simp⟩, ⟨HO6.out⟩, ⟨HB.out⟩⟩
 case round =>
  clear H' HO6 HB HT
  obtain ⟨all, i, rfl, HI, HA, HK1, HL, HO6, HB⟩ := hrel
  cases gk with
  | zero => exact absurd HA.out (by simp [impl_markovs.l0])
  | succ k1 =>
   have H := HA.out
   clear HA
   simp only [impl_markovs.l0] at H
   obtain ⟨A3, c3, e3⟩ := Kd.S_slice HO6.out
   subst e3
   by_cases c2 : i < (all.length : Int)
   ·rw [if_pos c2] at H
    by_cases c3_ : 0 ≤ i
    ·rw [if_pos c3_] at H
     obtain ⟨us, A4, H⟩ := Option.bind_eq_some_iff.mp H
     have HA4 := Aside0.mk A4
     clear A4
     by_cases c5 : all.length + us.length < 5864062014805
     ·replace H : impl_markovs.l0 k1 a0 (all ++ us) (wrap64 (i + 1)) = some r := by
       have H2 : (if all.length + us.length < 5864062014805 then impl_markovs.l0 k1 a0 (all ++ us) (wrap64 (i + 1)) else none) = some r := H
       rw [if_pos c5] at H2
       exact H2
      have H' := Aside0.mk H
      have LM := Aside0.mk c5
      have HI2 := Aside0.mk (And.intro c2 c3_)
      clear H c5
      have c2b0 : decide (i < (all.length : Int)) = true := decide_eq_true c2
      have p1 : 0 ≤ i := c3_
      have q1 : i < (all.length : Int) := c2
      obtain ⟨ad1, A1, cc1, e1, hx1, hl1, hi1⟩ := at_L1 (Kd.S_reads' HO6.out).2.2 i p1 q1
      cases e1
      have HC1 := Aside0.mk hl1
      have HR1 := Aside0.mk hi1
      have qi1 : (i.toNat < all.length) = True := eq_true (by omega)
      clear hl1 hi1 c2 c3_
      replace p1 := eq_true p1
      replace q1 := eq_true q1
      obtain ⟨vs, hs1, hs2, hs3⟩ := S_scal HO6.out
      have HS1 := Aside0.mk hs1
      have HS2 := Aside0.mk hs2
      have HS3 := Aside0.mk hs3
      clear hs1 hs2 hs3 HO6
      go_wp2_with (first
       | (go_at_call 48; refine (impl_ups.calls k1 _ _ (rd_L1 all i) a0 us _ (by repeat (first | exact HR1.out | (with_reducible refine Kd.C_alloc ?_ _) | (with_reducible refine Kd.C_drewN ?_ _) | (with_reducible refine Kd.C_drew ?_))) HC1.out HA4.out).mono ?_; rintro e w4 ⟨v4, rfl, ho0, hb⟩; have n0_ := Aside0.mk (Kd.R_below HS1.out hb); have n1_ := Aside0.mk (HS3.out.step (w1 := w4) (ok' := fun k_ => k_ < wr.heap.size ∧ some k_ ≠ (Value.slice (some ad1) all.length c3).ownBlock) (fun k_ _ hk_ => hb.block k_ hk_) (fun k_ hk_ hlt_ => ⟨hlt_, hk_.2⟩)); have n2_ := Aside0.mk (below_step HB.out hb); have n3_ := Aside0.mk (fun k_ (e_ : (Value.slice (some ad1) all.length c3).ownBlock = some k_) => ((Kd.R_bound HS1.out).1 k_ e_).2.2.1); have n4_ := Aside0.mk hb.size; have n5_ := Aside0.mk (below_size HB.out); obtain ⟨ns, hn1, hn2, hn3⟩ := S_scal ho0; obtain ⟨An, cn, en⟩ := Kd.S_slice ho0; subst en; have n6_ := Aside0.mk hn1; have n7_ := Aside0.mk hn2; have n8_ := Aside0.mk (hn3.above (ok' := fun k_ => some k_ ≠ (Value.slice An us.length cn).ownBlock) (Nat.le_refl _) (fun k_ hk_ _ => hk_.2)); clear HS1 HS3 HB hn1 hn2 hn3 ho0 hb; have HS1 := n0_; have HS3 := n1_; have HB := n2_; have HVB := n3_; have HSZ := n4_; have HSW := n5_; have HN1 := n6_; have HN2 := n7_; have HN3 := n8_; clear n0_ n1_ n2_ n3_ n4_ n5_ n6_ n7_ n8_)
       | ((with_reducible refine gate_builtin (b := .append) (xs := #[.tmp 13, .tmp 19]) rfl ?_); at_builtin; refine Kd.R_append_row (fun x : OneV => x.1) ⟨.slice none 0 0, rfl⟩ (h1 := fun x => x.2) (w0 := w) w.heap.size rfl (.tmp 13) (.tmp 19) 25 30 (.slice none 0 0) 24 rfl Try.underlying25 info30 rfl (by decide) (.slice (some ad1) all.length c3) vs ns An us.length cn (fun _ => True) rfl rfl (fun _ _ => trivial) HS1.out (by rw [← HN2.out]; exact (Kd.R_reads' (by have h_ := HN1.out; rw [← HN2.out] at h_; exact h_)).2.2) HB.out (below_size HB.out) (by have := LM.out; have := HS2.out; omega) ?_; intro v7 w7 ho hb hg hat; have n0_ := Aside0.mk (S_cat (W := w4) (w1 := w7) (base := w.heap.size) (B := wr.heap.size) (v := .slice (some ad1) all.length c3) (v1 := v7) (u := .slice An us.length cn) (us := vs) (ns := ns) (L := all) (M := us) HSW.out HSZ.out HS3.out HVB.out HN3.out hg hat ho); have n1_ := Aside0.mk hb; clear HS1 HS3 HB HVB HSZ HSW HN1 HN2 HN3; have HO6 := n0_; have HB := n1_; clear n0_ n1_ ho hb hg hat))
      go_roundg k1
      case measure => have := HK1.out; omega
      case rel => exact ⟨all ++ us, wrap64 (i + 1), (by first | rfl | (simp; done) | (simp [*]; done)), ⟨by have := HI2.out; have := HL.out; unfold wrap64; omega⟩, H', ⟨by have := HK1.out; omega⟩, ⟨by have := LM.out; rw [List.length_append]; exact this⟩, ⟨HO6.out⟩, ⟨HB.out⟩⟩
     ·exact absurd H (by simp [c5])
    ·rw [if_neg c3_] at H
     exact absurd H (by simp)
   ·rw [if_neg c2] at H
    have c2b0 : decide (i < (all.length : Int)) = false := decide_eq_false c2
    clear c2
    by_cases c6 : all.all prM = true
    ·rw [if_pos c6] at H
     have HPR : Aside0 (∀ x ∈ all, prM x = true) := ⟨fun x hx => List.all_eq_true.1 c6 x hx⟩
     obtain rfl : sortM all = r := by simpa using H
     clear H c6
     go_wp2_with (first
      | (go_at_call 49; refine (rows_sort cfM cfM_total (fun x => prM x = true) 50 #[] cmpM_enters cmpM_at (fun _ => True) _ all w _ HB.out HPR.out (by have := HL.out; omega) HO6.out).mono ?_; rintro e w3 ⟨rfl, ys, hp, hs, ho, hb, hk⟩; have n1_ := Aside0.mk (Kd.S_mono ho (fun _ _ => trivial)); have n2_ := Aside0.mk hb; have n3_ := Aside0.mk (sortM_is hp hs); clear HO6 HB; have HO6 := n1_; have HB := n2_; have HZ := n3_; clear n1_ n2_ n3_ ho hb hk hp hs))
     go_ret
     exact ⟨_, rfl, by rw [← HZ.out]; exact HO6.out, HB.out⟩
    ·rw [if_neg c6] at H
     exact absurd H (by simp)
end Go.Proofs.Ytkdgpbcecnmdhaa.P
namespace Go.Proofs.Ytkdgpbcecnmdhaa.P
open Go.RowKit Go.Proofs.YtkdgpbcecnmdhaaW.PrintWords Go.Proofs.YtkdgpbcecnmdhaaW.PrintLast
set_option maxHeartbeats 1000000 in
set_option maxRecDepth 100000 in
theorem rows_clone (v : Value) (xs : List (List Int)) (w0 w : World) (hB : Below w0.heap.size w0 w) (hz : xs.length < 5864062014805) (ho : Kd.S KII 30 w w0.heap.size (fun _ => True) v xs) :
  Calls Try.prog 37 #[v] w fun e w' => ∃ v', e = .returned v' ∧ Kd.S KII 30 w' w0.heap.size (fun _ => True) v' xs ∧ Below w0.heap.size w0 w' := by
 obtain ⟨us, hs1, hs2, hs3⟩ := S_scal ho
 have q22 : ∀ (w : World) (a : Option Addr) (n c n' c' : Nat), (binOp .eql 25 (.slice a n c) (.slice none n' c')).run Try.prog w = .ok (.bool a.isNone) w := fun w a n c n' c' => Lib.run_eql_slice_nil w _ _ a n c n' c' Try.underlying25
 rcases scalar_open hs1 with ⟨ev, hn⟩ | ⟨g, cap, cur, ev, hok, hg, hb, hc, hm, hcs, ht⟩
 ·subst ev
  have hx : xs = [] := List.eq_nil_of_length_eq_zero (by rw [← hs2, hn]; rfl)
  subst hx
  have HB := Aside0.mk hB
  clear hB ho hs1 hs2 hs3 hn
  go_enter Try.func37, Try.ntmps37
  go_wp2
  go_ret
  exact ⟨_, rfl, Kd.S_nil _ _ _ _ _, HB.out⟩
 ·subst ev
  have hr := (Kd.R_reads' hs1).2.2
  have hR := Aside0.mk hr
  have HS := Aside0.mk hs3
  have HB := Aside0.mk hB
  have HN := Aside0.mk hs2
  have HZ := Aside0.mk hz
  clear ho hs1 hb hg hcs ht hok hr hs3 hB hs2 hz
  go_enter Try.func37, Try.ntmps37
  go_wp2_with (first
   | ((with_reducible refine gate_builtin (b := .append) (xs := #[.tmp 5, .tmp 6]) rfl ?_); at_builtin; refine Kd.R_append_row (fun x : OneV => x.1) ⟨.slice none 0 0, rfl⟩ (h1 := fun x => x.2) (w0 := w0) w0.heap.size rfl (.tmp 5) (.tmp 6) 25 30 (.slice none 0 0) 24 rfl Try.underlying25 info30 rfl (by decide) (.slice (some ⟨w.heap.size, 0, none⟩) 0 0) [] us (some ⟨g, 0, none⟩) us.length cap (fun _ => True) rfl rfl (fun _ _ => trivial) (scalar_R.2 ⟨fun _ _ => trivial, World.ownsRow_made w #[] 0 HB.out.size (Nat.zero_le _) (by simp)⟩) (Kd.C_alloc hR.out _) (below_alloc HB.out _) (by have := HB.out.size; simp; omega) (by have := HN.out; have := HZ.out; simp; omega) ?_; intro v7 w7 ho hb hg hat; have n0_ := Aside0.mk ho; have n1_ := Aside0.mk hb; have n2_ := Aside0.mk hg; have n3_ := Aside0.mk hat; clear ho hb hg hat))
  go_ret
  have hsz : ∀ o : Obj, (w.alloc o).heap.size = w.heap.size + 1 := fun o => by simp
  refine ⟨_, rfl, scal_S n0_.out ?_, n1_.out⟩
  refine HS.out.step (fun k hk hlt => ?_) (fun k hk hlt => ⟨trivial, fun e => ?_⟩)
  ·have h1 := n2_.out.block k (by rw [hsz]; omega) (fun e => by simp [Value.ownBlock] at e; omega)
   rw [h1]
   exact (below_alloc (Below.refl w.heap.size w) _).block k hlt
  ·rcases n3_.out with h1 | ⟨b, h1, h2⟩
   ·have e2 : some k = v7.ownBlock := e
    rw [h1] at e2
    simp [Value.ownBlock] at e2
    omega
   ·have e2 : some k = v7.ownBlock := e
    rw [h1] at e2
    injection e2 with e
    rw [hsz] at h2
    omega
end Go.Proofs.Ytkdgpbcecnmdhaa.P
namespace Go.Proofs.Ytkdgpbcecnmdhaa.P
open Go.RowKit Go.Proofs.YtkdgpbcecnmdhaaW.PrintWords Go.Proofs.YtkdgpbcecnmdhaaW.PrintLast
def impl_MarkovUpTo.f (k : Nat) (a0 : Int) : Option ((List (List Int)) × Bool) := (impl_within.f a0 1 1000000000).bind fun t209 => (if t209 = true then ((impl_markovs.f k a0).bind fun t210 => (some (t210, true))) else (some (([] : List (List Int)), false)))
theorem impl_MarkovUpTo.mono : ∀ a0 k, LeO (impl_MarkovUpTo.f k a0) (impl_MarkovUpTo.f (k + 1) a0) := by
 intro a0 k
 unfold impl_MarkovUpTo.f
 repeat' first
   | (with_reducible exact impl_markovs.mono _ _)
   | (with_reducible exact LeO.refl _)
   | (with_reducible exact LeO.none _)
   | (with_reducible refine LeO.ite ?_ ?_)
   | (with_reducible refine LeO.bind ?_ (fun _ => ?_))
   | exact impl_markovs.mono _ _
   | exact LeO.none _
   | refine LeO.ite ?_ ?_
   | refine LeO.bind ?_ (fun _ => ?_)
set_option maxHeartbeats 8000000 in
set_option maxRecDepth 100000 in
theorem impl_MarkovUpTo.calls (k : Nat) (a0 : Int) (r1 : List (List Int)) (r2 : Bool) (w : World) (h : impl_MarkovUpTo.f k a0 = some (r1, r2)) :
  Calls Try.prog 11 #[.int .i64 a0] w fun e w' => ∃ v0_ : Value, e = .returned (.tuple #[v0_, .bool r2]) ∧ Kd.S (Kd.slice 3 (Kd.int .i64)) 30 w' w.heap.size (fun _ => True) v0_ r1 ∧ Below w.heap.size w w' := by
 have HB := Aside0.mk (Below.refl w.heap.size w)
 have H : ((impl_within.f a0 1 1000000000).bind fun t209 => (if t209 = true then ((impl_markovs.f k a0).bind fun t210 => (some (t210, true))) else (some (([] : List (List Int)), false)))) = some (r1, r2) := h
 clear h
 replace H := Option.bind_eq_some_iff.mp H
 obtain ⟨t209, A20, H⟩ := H
 replace H : (if t209 = true then ((impl_markovs.f k a0).bind fun t210 => (some (t210, true))) else (some (([] : List (List Int)), false))) = some (r1, r2) := H
 have A2 := Aside0.mk A20
 clear A20
 by_cases c3 : t209 = true
 ·subst c3
  have H1 : ((impl_markovs.f k a0).bind fun t210 => (some (t210, true))) = some (r1, r2) := by rw [if_pos rfl] at H; exact H
  clear H
  have H := H1
  clear H1
  replace H := Option.bind_eq_some_iff.mp H
  obtain ⟨t210, A40, H⟩ := H
  replace H : (some (t210, true)) = some (r1, r2) := H
  have A4 := Aside0.mk A40
  clear A40
  simp only [Option.some.injEq, Prod.mk.injEq] at H
  obtain ⟨rfl, rfl⟩ := H
  go_enter Try.func11, Try.ntmps11
  go_wp2_with (first | ((with_reducible refine gate_callee (f := 33) rfl ?_); refine goesL_ (some 5) rfl rfl Try.func33 (by kernel_rfl) rfl #[.int .i64 a0, .int .i64 1, .int .i64 1000000000] rfl (by (try simp only [List.map_toArray, List.map_cons, List.map_nil]); first | done | rfl | (simp only [List.length_drop, List.length_take]; rfl)) ?_; (with_reducible refine (impl_within.calls a0 1 1000000000 true _ A2.out).mono ?_); rintro e w' ⟨rfl, ⟨nd, rfl⟩⟩; refine ⟨_, rfl, ?_⟩) | ((with_reducible refine gate_callee (f := 34) rfl ?_); refine goesL_ (some 8) rfl rfl Try.func34 (by kernel_rfl) rfl #[.int .i64 a0] rfl (by (try simp only [List.map_toArray, List.map_cons, List.map_nil]); first | done | rfl | (simp only [List.length_drop, List.length_take]; rfl)) ?_; (with_reducible refine (impl_markovs.calls k a0 t210 _ A4.out).mono ?_); rintro e w5 ⟨v211, rfl, ho0, hb⟩; refine ⟨_, rfl, ?_⟩; have n0_ := Aside0.mk (Kd.S_lower ho0 (below_size (by repeat (first | (with_reducible first | exact HB.out | apply below_alloc | apply pw_below_drewN | apply below_drew1) | exact HB.out)))); have n1_ := Aside0.mk (below_step (by repeat (first | (with_reducible first | exact HB.out | apply below_alloc | apply pw_below_drewN | apply below_drew1) | exact HB.out)) hb); clear HB; have HO212 := n0_; have HB := n1_; clear n0_ n1_; (try clear hb); (try clear hb2); (try clear hk); (try clear hi); (try clear ho0)))
  go_ret2
  exact ⟨_, by first | rfl | (simp [errW_none, errW_some] <;> rfl) | (simp [*, errW_none, errW_some] <;> rfl), by (with_reducible repeat (first | apply Kd.S_alloc | apply Kd.S_drewN | apply Kd.S_drew)); exact HO212.out, by repeat (first | (with_reducible first | exact HB.out | apply below_alloc | apply pw_below_drewN | apply below_drew1) | exact HB.out)⟩
 ·replace c3 := Bool.eq_false_iff.mpr c3
  subst c3
  have H1 : (some (([] : List (List Int)), false)) = some (r1, r2) := by rw [if_neg (show ¬ (false = true) by decide)] at H; exact H
  clear H
  have H := H1
  clear H1
  simp only [Option.some.injEq, Prod.mk.injEq] at H
  obtain ⟨rfl, rfl⟩ := H
  go_enter Try.func11, Try.ntmps11
  go_wp2_with (first | ((with_reducible refine gate_callee (f := 33) rfl ?_); refine goesL_ (some 5) rfl rfl Try.func33 (by kernel_rfl) rfl #[.int .i64 a0, .int .i64 1, .int .i64 1000000000] rfl (by (try simp only [List.map_toArray, List.map_cons, List.map_nil]); first | done | rfl | (simp only [List.length_drop, List.length_take]; rfl)) ?_; (with_reducible refine (impl_within.calls a0 1 1000000000 false _ A2.out).mono ?_); rintro e w' ⟨rfl, ⟨nd, rfl⟩⟩; refine ⟨_, rfl, ?_⟩))
  go_ret2
  exact ⟨_, by first | rfl | (simp [errW_none, errW_some] <;> rfl) | (simp [*, errW_none, errW_some] <;> rfl), by first | exact Kd.S_nil _ _ _ _ _ | exact Kd.N_nil _ _ _ _ _ | exact Kd.V_nil _ _ _ _ _ | exact Kd.Q_nil _ _ _ _ _ | exact Kd.R_nil _ _ _ _ _, by repeat (first | (with_reducible first | exact HB.out | apply below_alloc | apply pw_below_drewN | apply below_drew1) | exact HB.out)⟩
end Go.Proofs.Ytkdgpbcecnmdhaa.P
namespace Go.Proofs.Ytkdgpbcecnmdhaa.P
open Go.RowKit Go.Proofs.YtkdgpbcecnmdhaaW.PrintWords Go.Proofs.YtkdgpbcecnmdhaaW.PrintLast
def impl_MarkovNumbersUpTo.l0 : Nat → List Int → List (List Int) → Int → Int → Option (List Int × Bool)
 | 0, _, _, _, _ => none
 | k + 1, x4, x12, x13, x14 => if x14 < x13 then (if 0 ≤ x14 then (if x14 < (x12.length : Int) then (if 2 < ((rd_L1 x12 x14).length : Int) then (if x4.length < 17592186044416 then (impl_MarkovNumbersUpTo.l0 k (x4 ++ [rd (rd_L1 x12 x14) 2]) x12 x13 (wrap64 (x14 + 1))) else (none)) else (none)) else (none)) else (none)) else ((slices_Compact_int_int.f x4).bind fun t285 => (some (t285, true)))
def impl_MarkovNumbersUpTo.f (k : Nat) (a0 : Int) : Option (List Int × Bool) := (impl_within.f a0 1 1000000000).bind fun t273 => (if t273 = true then ((impl_markovs.f k a0).bind fun t277 => (impl_MarkovNumbersUpTo.l0 k (([] : List Int)) t277 (t277.length : Int) 0)) else (some (([] : List Int), false)))
theorem impl_MarkovNumbersUpTo.mono_l : ∀ k, (∀ y0 y1 y2 y3, LeO (impl_MarkovNumbersUpTo.l0 k y0 y1 y2 y3) (impl_MarkovNumbersUpTo.l0 (k + 1) y0 y1 y2 y3))
 | 0 => fun _ _ _ _ r h => by simp [impl_MarkovNumbersUpTo.l0] at h
 | k + 1 => by
  have ih0 := impl_MarkovNumbersUpTo.mono_l k
  ·intro y0 y1 y2 y3
   unfold impl_MarkovNumbersUpTo.l0
   repeat' first
   | (with_reducible exact ih0 _ _ _ _)
   | (with_reducible exact impl_markovs.mono _ _)
   | (with_reducible exact LeO.refl _)
   | (with_reducible exact LeO.none _)
   | (with_reducible refine LeO.ite ?_ ?_)
   | (with_reducible refine LeO.bind ?_ (fun _ => ?_))
   | exact ih0 _ _ _ _
   | exact impl_markovs.mono _ _
   | exact LeO.none _
   | refine LeO.ite ?_ ?_
   | refine LeO.bind ?_ (fun _ => ?_)
theorem impl_MarkovNumbersUpTo.mono : ∀ a0 k, LeO (impl_MarkovNumbersUpTo.f k a0) (impl_MarkovNumbersUpTo.f (k + 1) a0) := by
 intro a0 k
 have ih0 := impl_MarkovNumbersUpTo.mono_l k
 unfold impl_MarkovNumbersUpTo.f
 repeat' first
   | (with_reducible exact ih0 _ _ _ _)
   | (with_reducible exact impl_markovs.mono _ _)
   | (with_reducible exact LeO.refl _)
   | (with_reducible exact LeO.none _)
   | (with_reducible refine LeO.ite ?_ ?_)
   | (with_reducible refine LeO.bind ?_ (fun _ => ?_))
   | exact ih0 _ _ _ _
   | exact impl_markovs.mono _ _
   | exact LeO.none _
   | refine LeO.ite ?_ ?_
   | refine LeO.bind ?_ (fun _ => ?_)
set_option maxHeartbeats 8000000 in
set_option maxRecDepth 100000 in
theorem impl_MarkovNumbersUpTo.calls (k : Nat) (a0 : Int) (r1 : List Int) (r2 : Bool) (w : World) (h : impl_MarkovNumbersUpTo.f k a0 = some (r1, r2)) :
  Calls Try.prog 16 #[.int .i64 a0] w fun e w' => ∃ v0_ : Value, e = .returned (.tuple #[v0_, .bool r2]) ∧ Kd.R (Kd.int .i64) 3 w' w.heap.size (fun _ => True) v0_ r1 ∧ Below w.heap.size w w' := by
 have HB := Aside0.mk (Below.refl w.heap.size w)
 have H : ((impl_within.f a0 1 1000000000).bind fun t273 => (if t273 = true then ((impl_markovs.f k a0).bind fun t277 => (impl_MarkovNumbersUpTo.l0 k (([] : List Int)) t277 (t277.length : Int) 0)) else (some (([] : List Int), false)))) = some (r1, r2) := h
 clear h
 replace H := Option.bind_eq_some_iff.mp H
 obtain ⟨t273, A20, H⟩ := H
 replace H : (if t273 = true then ((impl_markovs.f k a0).bind fun t277 => (impl_MarkovNumbersUpTo.l0 k (([] : List Int)) t277 (t277.length : Int) 0)) else (some (([] : List Int), false))) = some (r1, r2) := H
 have A2 := Aside0.mk A20
 clear A20
 by_cases c3 : t273 = true
 ·subst c3
  have H1 : ((impl_markovs.f k a0).bind fun t277 => (impl_MarkovNumbersUpTo.l0 k (([] : List Int)) t277 (t277.length : Int) 0)) = some (r1, r2) := by rw [if_pos rfl] at H; exact H
  clear H
  have H := H1
  clear H1
  obtain ⟨y274, hy274⟩ : ∃ y_ : List Int, y_ = (([] : List Int)) := ⟨_, rfl⟩
  replace H : ((impl_markovs.f k a0).bind fun t277 => (impl_MarkovNumbersUpTo.l0 k y274 t277 (t277.length : Int) 0)) = some (r1, r2) := by first | (rw [hy274]; with_reducible exact H) | (have H2_ := (Option.bind_some _ _).symm.trans H; rw [hy274]; with_reducible exact H2_) | (have H2_ := (Option.bind_some _ _).symm.trans H; with_reducible exact H2_) | with_reducible exact H | (rw [hy274]; exact H) | exact H
  have Ny274 := Aside0.mk hy274
  clear hy274
  replace H := Option.bind_eq_some_iff.mp H
  obtain ⟨t277, A40, H⟩ := H
  replace H : (impl_MarkovNumbersUpTo.l0 k y274 t277 (t277.length : Int) 0) = some (r1, r2) := H
  have A4 := Aside0.mk A40
  clear A40
  have H' := Aside0.mk H
  clear H
  go_enter Try.func16, Try.ntmps16
  go_wp2_with (first | ((with_reducible refine gate_callee (f := 33) rfl ?_); refine goesL_ (some 8) rfl rfl Try.func33 (by kernel_rfl) rfl #[.int .i64 a0, .int .i64 1, .int .i64 1000000000] rfl (by (try simp only [List.map_toArray, List.map_cons, List.map_nil]); first | done | rfl | (simp only [List.length_drop, List.length_take]; rfl)) ?_; (with_reducible refine (impl_within.calls a0 1 1000000000 true _ A2.out).mono ?_); rintro e w' ⟨rfl, ⟨nd, rfl⟩⟩; refine ⟨_, rfl, ?_⟩) | ((with_reducible refine gate_dst (N := 10) rfl ?_); refine Kd.R_lit (Kd.int .i64) _ 3 ?hg (N := 10) ?hd (xs := ([] : List Int)) (inner := []) (ok := fun _ => True) (okp := fun _ => True) ?hr ?hp (fun _ hk => hk) trivial (Below.refl _ _) (Nat.le_refl _) (by simp) ?_; (case hd => rfl); (case hg => rfl); (case hr => first | (go_simp; done) | (go_simp; rfl)); (case hp => exact (Reps.none _ _)); intro v275 w5 ho6 hb hg_ hnew_; clear hg_ hnew_; (first | rw [← Ny274.out] at ho6 | (simp only [Int.reduceToNat] at ho6; rw [← Ny274.out] at ho6)); have n0_ := Aside0.mk (Kd.R_lower ho6 (below_size (by repeat (first | (with_reducible first | exact HB.out | apply below_alloc | apply pw_below_drewN | apply below_drew1) | exact HB.out)))); have n1_ := Aside0.mk (below_step (by repeat (first | (with_reducible first | exact HB.out | apply below_alloc | apply pw_below_drewN | apply below_drew1) | exact HB.out)) hb); clear HB; have HO276 := n0_; have HB := n1_; clear n0_ n1_; clear hb ho6) | ((with_reducible refine gate_callee (f := 34) rfl ?_); refine goesL_ (some 12) rfl rfl Try.func34 (by kernel_rfl) rfl #[.int .i64 a0] rfl (by (try simp only [List.map_toArray, List.map_cons, List.map_nil]); first | done | rfl | (simp only [List.length_drop, List.length_take]; rfl)) ?_; (with_reducible refine (impl_markovs.calls k a0 t277 _ A4.out).mono ?_); rintro e w7 ⟨v278, rfl, ho0, hb⟩; refine ⟨_, rfl, ?_⟩; have n0_ := Aside0.mk (Kd.R_below (by (with_reducible repeat (first | apply Kd.R_alloc | apply Kd.R_drewN | apply Kd.R_drew)); exact HO276.out) hb); have n1_ := Aside0.mk (Kd.S_lower (Kd.S_new' ho0 (Kd.R_lt (by (with_reducible repeat (first | apply Kd.R_alloc | apply Kd.R_drewN | apply Kd.R_drew)); exact HO276.out))) (below_size (by repeat (first | (with_reducible first | exact HB.out | apply below_alloc | apply pw_below_drewN | apply below_drew1) | exact HB.out)))); have n2_ := Aside0.mk (below_step (by repeat (first | (with_reducible first | exact HB.out | apply below_alloc | apply pw_below_drewN | apply below_drew1) | exact HB.out)) hb); clear HO276; clear HB; have HO276 := n0_; have HO279 := n1_; have HB := n2_; clear n0_ n1_ n2_; (try clear hb); (try clear hb2); (try clear hk); (try clear hi); (try clear ho0); obtain ⟨Ao8, co8, eo8⟩ := Kd.S_slice HO279.out; subst eo8))
  go_loopg [4, 14] k (fun kq v4 v14 w' => ∃ (x4_1 : List Int) (x14_1 : Int), v14 = .int .i64 x14_1 ∧ Aside0 (impl_MarkovNumbersUpTo.l0 kq x4_1 t277 (t277.length : Int) x14_1 = some (r1, r2)) ∧ Aside0 (kq ≤ k) ∧ Aside0 (Kd.R (Kd.int .i64) 3 w' w.heap.size (fun _ => True) v4 x4_1) ∧ Aside0 (Kd.S (Kd.slice 3 (Kd.int .i64)) 30 w' w.heap.size (fun k_ => some k_ ≠ (v4 : Value).ownBlock) (.slice Ao8 t277.length co8) t277) ∧ Aside0 (Below w.heap.size w w'))
  case atStart => exact ⟨(y274), (0), (by first | rfl | (simp; done) | (simp [*]; done)), H', ⟨Nat.le_refl _⟩, ⟨by (with_reducible repeat (first | apply Kd.R_alloc | apply Kd.R_drewN | apply Kd.R_drew)); exact HO276.out⟩, ⟨by (with_reducible repeat (first | apply Kd.S_alloc | apply Kd.S_drewN | apply Kd.S_drew)); exact Kd.S_mono HO279.out (fun _ hk => hk.2)⟩, ⟨by repeat (first | (with_reducible first | exact HB.out | apply below_alloc | apply pw_below_drewN | apply below_drew1) | exact HB.out)⟩⟩
  case round =>
   clear H'
   try clear c1
   try clear p2
   try clear c3
   obtain ⟨x4_1, x14_1, rfl, HA, HK1, HO_4, HO_12, HB⟩ := hrel
   cases gk with
   | zero => exact absurd HA.out (by simp [impl_MarkovNumbersUpTo.l0])
   | succ k1 =>
    have H := HA.out
    clear HA
    simp only [impl_MarkovNumbersUpTo.l0] at H
    by_cases c9 : x14_1 < (t277.length : Int)
    ·rw [if_pos c9] at H
     have c9b0 : decide (x14_1 < (t277.length : Int)) = true := decide_eq_true c9
     clear c9
     by_cases c10 : 0 ≤ x14_1
     ·rw [if_pos c10] at H
      have c10b0 : decide (0 ≤ x14_1) = true := decide_eq_true c10
      clear c10
      by_cases c11 : x14_1 < (t277.length : Int)
      ·rw [if_pos c11] at H
       have c11b0 : decide (x14_1 < (t277.length : Int)) = true := decide_eq_true c11
       clear c11
       by_cases c12 : 2 < ((rd_L1 t277 x14_1).length : Int)
       ·rw [if_pos c12] at H
        have c12b0 : decide (2 < ((rd_L1 t277 x14_1).length : Int)) = true := decide_eq_true c12
        have c12b1 : decide (2 < (rd_L1 t277 x14_1).length) = true := decide_eq_true (by omega)
        clear c12
        by_cases c13 : x4_1.length < 17592186044416
        ·rw [if_pos c13] at H
         have LMc13 := Aside0.mk c13
         clear c13
         obtain ⟨y282, hy282⟩ : ∃ y_ : List Int, y_ = (x4_1 ++ [rd (rd_L1 t277 x14_1) 2]) := ⟨_, rfl⟩
         replace H : (impl_MarkovNumbersUpTo.l0 k1 y282 t277 (t277.length : Int) (wrap64 (x14_1 + 1))) = some (r1, r2) := by first | (rw [hy282]; with_reducible exact H) | (have H2_ := (Option.bind_some _ _).symm.trans H; rw [hy282]; with_reducible exact H2_) | (have H2_ := (Option.bind_some _ _).symm.trans H; with_reducible exact H2_) | with_reducible exact H | (rw [hy282]; exact H) | exact H
         have Ny282 := Aside0.mk hy282
         clear hy282
         have H' := Aside0.mk H
         clear H
         have p280 : 0 ≤ (x14_1 : Int) := of_decide_eq_true (by first | (with_reducible assumption) | assumption)
         have q280 : x14_1 < (t277.length : Int) := of_decide_eq_true (by first | (with_reducible assumption) | assumption)
         obtain ⟨ad280, A280_0, c280_0, e280, hx280_0, hl280_0, hi280_0⟩ := at_L1 (Kd.S_reads' HO_12.out).2.2 x14_1 p280 q280
         cases e280
         obtain ⟨ce280, hce280, hMe280, hcc280⟩ := Kd.S_get HO_12.out [] x14_1 p280 (by first | exact q280 | exact of_decide_eq_true (by first | (with_reducible assumption) | assumption) | (have e_ := (Kd.S_reads' HO_12.out).1; omega))
         obtain ⟨ve280_0, rfl, ge280_0⟩ := hMe280
         have hv280_0 := hcc280 0 _ rfl
         rw [Nat.add_zero, show ((Kd.slice 3 (Kd.int .i64))).sz = 1 from rfl, Nat.mul_one] at hv280_0
         replace hv280_0 := Option.some.inj (hv280_0.symm.trans hx280_0)
         rw [hv280_0] at ge280_0
         have HL280_0 := Aside0.mk (show Kd.R (Kd.int .i64) 3 _ _ _ _ (rd_L1 t277 x14_1) from ge280_0)
         clear hv280_0 ge280_0
         clear hcc280 hce280
         have HR280_0 := Aside0.mk hi280_0
         have HC280_0 := Aside0.mk hl280_0
         clear hi280_0 hl280_0
         replace p280 := eq_true p280
         replace q280 := eq_true q280
         have p281 : 0 ≤ (2 : Int) := (by omega)
         have q281 : 2 < ((rd_L1 t277 x14_1).length : Int) := of_decide_eq_true (by first | (with_reducible assumption) | assumption)
         obtain ⟨ad281, e281, hx281_0⟩ := Kd.at_int (by repeat (first | (with_reducible exact HR280_0.out) | (with_reducible refine Kd.C_alloc ?_ _) | (with_reducible refine Kd.C_drewN ?_ _) | (with_reducible refine Kd.C_drew ?_) | exact HR280_0.out)) 2 p281 q281
         cases e281
         (try simp only [show (2 : Int).toNat = 2 from rfl, Nat.reduceMul, Nat.reduceEqDiff, Go.Addr.add, ↓reduceIte] at hx281_0)
         have qi281 : (2 < (rd_L1 t277 x14_1).length) = True := eq_true (by omega)
         (try rw [show ((2 : Int)).toNat = 2 from rfl] at hx281_0)
         replace p281 := eq_true p281
         replace q281 := eq_true q281
         go_wp2_with (first | ((with_reducible refine gate_builtin (b := .append) (xs := #[.tmp 18, .tmp 22]) rfl ?_); at_builtin; refine Kd.R_append (Kd.int .i64) (w0 := w) w.heap.size rfl (.tmp 18) (.tmp 22) 30 3 (.int .i64 0) 8 rfl Try.underlying30 info3 rfl (by decide) (by omega) u4 x4_1 (rd (rd_L1 t277 x14_1) 2) [.int .i64 (rd (rd_L1 t277 x14_1) 2)] (fun _ => True) (fun _ => False) rfl rfl ?aP (fun _ hk => hk.elim) ?aF ?aO ?aB ?aS ?aL ?_; (case aP => exact rfl); (case aB => exact (by repeat (first | (with_reducible first | exact HB.out | apply below_alloc | apply pw_below_drewN | apply below_drew1) | exact HB.out))); (case aF => exact (fun _ _ => trivial)); (case aO => exact (by (with_reducible repeat (first | apply Kd.R_alloc | apply Kd.R_drewN | apply Kd.R_drew)); exact HO_4.out)); (case aS => exact (below_size (by repeat (first | (with_reducible first | exact HB.out | apply below_alloc | apply pw_below_drewN | apply below_drew1) | exact HB.out)))); (case aL => have := LMc13.out; omega); intro v283 w14 ho hb hg hat; rw [← Ny282.out] at ho; have n0_ := Aside0.mk (Kd.S_after (ok := (fun _ => True)) (by (with_reducible repeat (first | apply Kd.S_alloc | apply Kd.S_drewN | apply Kd.S_drew)); exact Kd.S_mono HO_12.out (fun _ hk => ⟨trivial, hk⟩)) hg hat); have n1_ := Aside0.mk (Kd.R_after (ok := (fun k_ => some k_ ≠ (.slice (some ad280) t277.length co8 : Value).ownBlock)) (by (with_reducible repeat (first | apply Kd.R_alloc | apply Kd.R_drewN | apply Kd.R_drew)); exact Kd.R_mono HL280_0.out (fun _ hk => ⟨hk.2, hk.1⟩)) hg hat); have n2_ := Aside0.mk (hb); have n3_ := Aside0.mk (ho); clear HO_12; clear HL280_0; clear HB; clear HO_4; have HO_12 := n0_; have HL280_0 := n1_; have HB := n2_; have HO284 := n3_; clear n0_ n1_ n2_ n3_; clear ho hb hg hat))
         go_roundg k1
         case measure => have := HK1.out; omega
         case rel => exact ⟨(y282), (wrap64 (x14_1 + 1)), (by first | rfl | (simp; done) | (simp [*]; done)), H', ⟨by have := HK1.out; omega⟩, ⟨by (with_reducible repeat (first | apply Kd.R_alloc | apply Kd.R_drewN | apply Kd.R_drew)); exact HO284.out⟩, ⟨by (with_reducible repeat (first | apply Kd.S_alloc | apply Kd.S_drewN | apply Kd.S_drew)); exact Kd.S_mono HO_12.out (fun _ hk => hk.2)⟩, ⟨by repeat (first | (with_reducible first | exact HB.out | apply below_alloc | apply pw_below_drewN | apply below_drew1) | exact HB.out)⟩⟩
        ·rw [if_neg c13] at H
         exact absurd H (by simp)
       ·rw [if_neg c12] at H
        exact absurd H (by simp)
      ·rw [if_neg c11] at H
       exact absurd H (by simp)
     ·rw [if_neg c10] at H
      exact absurd H (by simp)
    ·rw [if_neg c9] at H
     have c9b0 : decide (x14_1 < (t277.length : Int)) = false := decide_eq_false c9
     clear c9
     replace H := Option.bind_eq_some_iff.mp H
     obtain ⟨t285, A150, H⟩ := H
     replace H : (some (t285, true)) = some (r1, r2) := H
     have A15 := Aside0.mk A150
     clear A150
     simp only [Option.some.injEq, Prod.mk.injEq] at H
     obtain ⟨rfl, rfl⟩ := H
     obtain ⟨Ao16, co16, eo16⟩ := Kd.R_slice HO_4.out
     subst eo16
     go_wp2_with (first | ((with_reducible refine gate_callee (f := 36) rfl ?_); refine goesL_ (some 26) rfl rfl Try.func36 (by kernel_rfl) rfl #[.slice Ao16 x4_1.length co16] rfl (by (try simp only [List.map_toArray, List.map_cons, List.map_nil]); first | done | rfl | (simp only [List.length_drop, List.length_take]; rfl)) ?_; (with_reducible refine (slices_Compact_int_int.calls (fun k_ => some k_ = (.slice Ao16 x4_1.length co16 : Value).ownBlock) (.slice Ao16 x4_1.length co16) x4_1 t285 w _ ?side1 ?side2 A15.out).mono ?_); (case side1 => repeat (first | (with_reducible first | exact HB.out | apply below_alloc | apply pw_below_drewN | apply below_drew1) | exact HB.out)); (case side2 => exact Kd.R_tight rfl HO_4.out); rintro e w17 ⟨v286, rfl, ho0, hb, hkp⟩; refine ⟨_, rfl, ?_⟩; have n0_ := Aside0.mk (Kd.S_mono (ok' := fun k_ => some k_ ≠ (v286 : Value).ownBlock) (Kd.S_keptB (HO_12.out) hkp (fun k_ hk_ hs_ => (hk_) hs_)) (fun k_ hk_ => fun e_ => Or.elim (ho0.1 k_ e_.symm) (fun hs_ => hk_.2.1 hs_) (fun hn_ => Nat.not_le.2 hk_.2.2 hn_))); have n1_ := Aside0.mk (Kd.R_mono (ok' := fun k_ => True) ho0 (fun k_ hk_ => trivial)); have n2_ := Aside0.mk (hb); clear HO_12; clear HB; clear HO_4; have HO_12 := n0_; have HO287 := n1_; have HB := n2_; clear n0_ n1_ n2_; (try clear hb); (try clear hkp); (try clear ho0)))
     go_ret2
     exact ⟨_, by first | rfl | (simp [errW_none, errW_some] <;> rfl) | (simp [*, errW_none, errW_some] <;> rfl), by (with_reducible repeat (first | apply Kd.R_alloc | apply Kd.R_drewN | apply Kd.R_drew)); exact HO287.out, by repeat (first | (with_reducible first | exact HB.out | apply below_alloc | apply pw_below_drewN | apply below_drew1) | exact HB.out)⟩
 ·replace c3 := Bool.eq_false_iff.mpr c3
  subst c3
  have H1 : (some (([] : List Int), false)) = some (r1, r2) := by rw [if_neg (show ¬ (false = true) by decide)] at H; exact H
  clear H
  have H := H1
  clear H1
  simp only [Option.some.injEq, Prod.mk.injEq] at H
  obtain ⟨rfl, rfl⟩ := H
  go_enter Try.func16, Try.ntmps16
  go_wp2_with (first | ((with_reducible refine gate_callee (f := 33) rfl ?_); refine goesL_ (some 8) rfl rfl Try.func33 (by kernel_rfl) rfl #[.int .i64 a0, .int .i64 1, .int .i64 1000000000] rfl (by (try simp only [List.map_toArray, List.map_cons, List.map_nil]); first | done | rfl | (simp only [List.length_drop, List.length_take]; rfl)) ?_; (with_reducible refine (impl_within.calls a0 1 1000000000 false _ A2.out).mono ?_); rintro e w' ⟨rfl, ⟨nd, rfl⟩⟩; refine ⟨_, rfl, ?_⟩))
  go_ret2
  exact ⟨_, by first | rfl | (simp [errW_none, errW_some] <;> rfl) | (simp [*, errW_none, errW_some] <;> rfl), by first | exact Kd.R_nil _ _ _ _ _ | exact Kd.N_nil _ _ _ _ _ | exact Kd.V_nil _ _ _ _ _ | exact Kd.Q_nil _ _ _ _ _ | exact Kd.S_nil _ _ _ _ _, by repeat (first | (with_reducible first | exact HB.out | apply below_alloc | apply pw_below_drewN | apply below_drew1) | exact HB.out)⟩
end Go.Proofs.Ytkdgpbcecnmdhaa.P
namespace Go.Proofs.Ytkdgpbcecnmdhaa.P
open Go.RowKit Go.Proofs.YtkdgpbcecnmdhaaW.PrintWords Go.Proofs.YtkdgpbcecnmdhaaW.PrintLast Go.Proofs.YtkdgpbcecnmdhaaW.PrintMore
def upsL (most : Int) : List Int → List (List Int)
  | [x, y, z] => (if 3 * x * z - y ≤ most then [[x, z, 3 * x * z - y]] else []) ++ (if 3 * y * z - x ≤ most ∧ x ≠ y then [[y, z, 3 * y * z - x]] else [])
  | _ => []
theorem up_big {x y z : Int} (h : isMk [x, y, z] = true) : 2 * z ≤ 3 * x * z - y ∧ 3 * x * z - y ≤ 3 * y * z - x ∧ 3 * z * x = 3 * x * z := by
 obtain ⟨h1, h2, h3, h4, h5, h6⟩ := isMk_iff.1 h
 have e0 : 3 * z * x = 3 * x * z := by grind
 have e1 : 3 * x * z = 3 * (x * z) := Int.mul_assoc _ _ _
 have e2 : z ≤ x * z := by
  have := Int.mul_le_mul_of_nonneg_right (show 1 ≤ x by omega) (show 0 ≤ z by omega)
  omega
 have e3 : 3 * y * z = 3 * (y * z) := Int.mul_assoc _ _ _
 have e4 : x * z ≤ y * z := Int.mul_le_mul_of_nonneg_right h4 (by omega)
 refine ⟨?_, ?_, e0⟩ <;> omega
theorem mv_one {x y z : Int} (h : isMk [x, y, z] = true) : mv x y z 1 = [x, z, 3 * x * z - y] := by
 obtain ⟨b1, b2, b3⟩ := up_big h
 obtain ⟨h1, h2, h3, h4, h5, h6⟩ := isMk_iff.1 h
 show srt z x (3 * z * x - y) = _
 rw [b3]
 generalize 3 * x * z - y = n at b1
 rcases srt_cases z x n with ⟨c1, c2, e⟩ | ⟨c1, c2, e⟩ | ⟨c1, c2, e⟩ | ⟨c1, c2, e⟩ | ⟨c1, c2, e⟩ | ⟨c1, c2, e⟩ <;> rw [e] <;> first | rfl | (exfalso; omega) | (simp only [List.cons.injEq, and_true, true_and]; omega)
theorem mv_zero {x y z : Int} (h : isMk [x, y, z] = true) : mv x y z 0 = [y, z, 3 * y * z - x] := by
 obtain ⟨b1, b2, b3⟩ := up_big h
 obtain ⟨h1, h2, h3, h4, h5, h6⟩ := isMk_iff.1 h
 show srt y z (3 * y * z - x) = _
 generalize 3 * y * z - x = n at b2
 have hn : 2 * z ≤ n := by omega
 rcases srt_cases y z n with ⟨c1, c2, e⟩ | ⟨c1, c2, e⟩ | ⟨c1, c2, e⟩ | ⟨c1, c2, e⟩ | ⟨c1, c2, e⟩ | ⟨c1, c2, e⟩ <;> rw [e] <;> first | rfl | (exfalso; omega) | (simp only [List.cons.injEq, and_true, true_and]; omega)
theorem mv_back {x y z : Int} (h : isMk [x, y, z] = true) : (1 < z ∧ ¬ z < rd (mv x y z 2) 2) ∨ (x = 1 ∧ y = 1 ∧ z = 1) := by
 obtain ⟨h1, h2, h3, h4, h5, h6⟩ := isMk_iff.1 h
 by_cases hz : 1 < z
 ·left
  refine ⟨hz, ?_⟩
  obtain ⟨b1, b2⟩ := below h hz
  show ¬ z < rd (srt x y (3 * x * y - z)) 2
  rw [srt_two]
  unfold hi2
  split <;> split <;> omega
 ·right
  omega
theorem upsL_sorted (most : Int) {l : List Int} (h : isMk l = true) : (upsL most l).Pairwise fun a b => cmpL a b < 0 := by
 obtain ⟨x, y, z, rfl⟩ := mk_three h
 obtain ⟨h1, h2, h3, h4, h5, h6⟩ := isMk_iff.1 h
 show ((if 3 * x * z - y ≤ most then [[x, z, 3 * x * z - y]] else []) ++ (if 3 * y * z - x ≤ most ∧ x ≠ y then [[y, z, 3 * y * z - x]] else [])).Pairwise _
 by_cases c1 : 3 * x * z - y ≤ most
 ·by_cases c2 : 3 * y * z - x ≤ most ∧ x ≠ y
  ·rw [if_pos c1, if_pos c2]
   have : x < y := by omega
   simp [cmpL, this]
  ·rw [if_pos c1, if_neg c2]
   simp
 ·by_cases c2 : 3 * y * z - x ≤ most ∧ x ≠ y
  ·rw [if_neg c1, if_pos c2]
   simp
  ·rw [if_neg c1, if_neg c2]
   simp
theorem upsL_mk {most : Int} (hm : most ≤ 1000000000) {l u : List Int} (h : isMk l = true) (hu : u ∈ upsL most l) : isMk u = true ∧ 2 * rd l 2 ≤ rd u 2 ∧ rd u 2 ≤ most := by
 obtain ⟨x, y, z, rfl⟩ := mk_three h
 obtain ⟨b1, b2, b3⟩ := up_big h
 replace hu : u ∈ (if 3 * x * z - y ≤ most then [[x, z, 3 * x * z - y]] else []) ++ (if 3 * y * z - x ≤ most ∧ x ≠ y then [[y, z, 3 * y * z - x]] else []) := hu
 rcases List.mem_append.1 hu with hu | hu
 ·split at hu
  ·obtain rfl := List.mem_singleton.1 hu
   have := mv_is h 1 (by omega) (by show 3 * z * x - y ≤ _; omega)
   rw [mv_one h] at this
   exact ⟨this, b1, by assumption⟩
  ·simp at hu
 ·split at hu
  ·rename_i c
   obtain rfl := List.mem_singleton.1 hu
   have := mv_is h 0 (by omega) (by show 3 * y * z - x ≤ _; omega)
   rw [mv_zero h] at this
   exact ⟨this, by show 2 * z ≤ 3 * y * z - x; omega, c.1⟩
  ·simp at hu
theorem sameS_from (a b : List Int) (hl : a.length = b.length) (hn : a.length ≤ 4611686018427387904) (d : Nat) : ∀ i : Nat, i + d = a.length → a.take i = b.take i → Ev (fun k => spec_l1Same.l0 k a b (a.length : Int) (i : Int)) (decide (a = b)) := by
 induction d with
 | zero =>
  intro i hi ht
  rw [List.take_of_length_le (by omega), List.take_of_length_le (by omega)] at ht
  refine Ev.step (fun k => by simp only [spec_l1Same.l0]; rw [if_neg (by omega)]) ?_
  exact Ev.is (by rw [decide_eq_true ht])
 | succ d ih =>
  intro i hi ht
  by_cases h : rd a (i : Int) = rd b (i : Int)
  ·have hr := ih (i + 1) (by omega) (by rw [List.take_succ_eq_append_getElem (by omega), List.take_succ_eq_append_getElem (by omega), ht, ← rd_lt a i (by omega), ← rd_lt b i (by omega), h])
   exact Ev.step (fun k => by simp only [spec_l1Same.l0]; rw [if_pos (by omega), if_pos (by omega), if_pos (by omega), if_pos (by omega), if_pos h, w64_succ (n := a.length) (by omega) hn]) hr
  ·have hd : decide (a = b) = false := decide_eq_false (fun e => h (by rw [e]))
   exact Ev.step (f := fun _ => some false) (fun k => by simp only [spec_l1Same.l0]; rw [if_pos (by omega), if_pos (by omega), if_pos (by omega), if_pos (by omega), if_neg h]) (Ev.is (by rw [hd]))
theorem sameS_ev (a b : List Int) (hn : a.length ≤ 4611686018427387904) : Ev (fun k => spec_l1Same.f k a b) (decide (a = b)) := by
 unfold spec_l1Same.f
 by_cases hl : a.length = b.length
 ·simp only [hl, if_true]
  have := sameS_from a b hl hn a.length 0 (by omega) rfl
  rw [hl] at this
  exact this
 ·have h : ¬ (a.length : Int) = (b.length : Int) := by omega
  simp only [h, if_false]
  have hd : decide (a = b) = false := decide_eq_false (fun e => hl (by rw [e]))
  exact Ev.is (by rw [hd])
theorem mkUp_ev {l : List Int} (h : isMk l = true) : Ev (fun k => spec_mkUp.f k l) (upsL 1000000000 l) := by
 obtain ⟨x, y, z, rfl⟩ := mk_three h
 obtain ⟨b1, b2, b3⟩ := up_big h
 obtain ⟨h1, h2, h3, h4, h5, h6⟩ := isMk_iff.1 h
 have m1 := mkMove_is h 1 (by omega)
 have m0 := mkMove_is h 0 (by omega)
 have e1 : mvOf x y z 1 = if 3 * x * z - y > 1000000000 then ([], false) else ([x, z, 3 * x * z - y], true) := by
  unfold mvOf
  rw [mv_one h]
  show (if 3 * z * x - y > 1000000000 then _ else _) = _
  rw [b3]
 have e0 : mvOf x y z 0 = if 3 * y * z - x > 1000000000 then ([], false) else ([y, z, 3 * y * z - x], true) := by
  unfold mvOf
  rw [mv_zero h]
  rfl
 have w1 : wrap64 (1 - 1) = 0 := by decide +kernel
 have w0 : wrap64 (0 - 1) = -1 := by decide +kernel
 have hend : ∀ o : List (List Int), Ev (fun k => spec_mkUp.l0 k [x, y, z] o (-1)) o := fun o => by
  refine Ev.step (f := fun _ => some o) (fun k => by simp only [spec_mkUp.l0]; rw [if_neg (by omega)]) (Ev.is rfl)
 have hg : ∀ n : Int, 2 * z ≤ n → n > z := fun n hn => by omega
 have hl3 : ∀ a b c : Int, (([a, b, c] : List Int).length : Int) = 3 := fun _ _ _ => rfl
 have hr2 : ∀ a b c : Int, rd [a, b, c] 2 = c := fun _ _ _ => rfl
 have hq : (2 : Int) < 3 := by decide
 unfold spec_mkUp.f
 show Ev _ ((if 3 * x * z - y ≤ 1000000000 then [[x, z, 3 * x * z - y]] else []) ++ (if 3 * y * z - x ≤ 1000000000 ∧ x ≠ y then [[y, z, 3 * y * z - x]] else []))
 have hnn : x = y → 3 * x * z - y = 3 * y * z - x := fun e => by rw [e]
 generalize 3 * x * z - y = n1 at *
 generalize 3 * y * z - x = n0 at *
 have step0 : ∀ o : List (List Int), (o = [] ∧ ¬ n0 ≤ 1000000000) ∨ o = [[x, z, n1]] → Ev (fun k => spec_mkUp.l0 k [x, y, z] o 0) (o ++ (if n0 ≤ 1000000000 ∧ x ≠ y then [[y, z, n0]] else [])) := by
  intro o ho
  by_cases c0 : n0 > 1000000000
  ·rw [if_neg (by omega)]
   rw [if_pos c0] at e0
   rw [List.append_nil]
   refine Ev.step (fun k => ?_) (hend o)
   simp only [spec_mkUp.l0]
   rw [if_pos (by omega), show spec_mkMove.f [x, y, z] 0 = _ from m0, e0]
   simp only [Option.bind_some, Bool.false_eq_true, if_false, w0]
  ·rw [if_neg c0] at e0
   rcases ho with ⟨rfl, h0⟩ | rfl
   ·omega
   ·have c2 : n0 > z := hg _ (by omega)
    have hsm := sameS_ev [x, z, n1] [y, z, n0] (show 3 ≤ 4611686018427387904 by decide)
    have hrd : rd_L1 [[x, z, n1]] 0 = [x, z, n1] := rfl
    have hne : ¬ ((([[x, z, n1]] : List (List Int)).length : Int) = 0) := by simp
    have hp : 0 < ((([[x, z, n1]] : List (List Int)).length : Int)) := by simp
    have hlim : ([[x, z, n1]] : List (List Int)).length < 5864062014805 := by simp
    have hst : ∀ r, Ev (fun k => (spec_l1Same.f k [x, z, n1] [y, z, n0]).bind fun t => if t = true then spec_mkUp.l0 k [x, y, z] [[x, z, n1]] (-1) else spec_mkUp.l0 k [x, y, z] ([[x, z, n1]] ++ [[y, z, n0]]) (-1)) r → Ev (fun k => spec_mkUp.l0 k [x, y, z] [[x, z, n1]] 0) r := fun r hr => by
     refine Ev.step (fun k => ?_) hr
     simp only [spec_mkUp.l0]
     rw [if_pos (by omega), show spec_mkMove.f [x, y, z] 0 = _ from m0, e0]
     simp only [Option.bind_some, if_true, hl3, hr2, hq, c2, hne, if_false, hrd, hp, hlim, w0]
    refine hst _ (Ev.bind hsm ?_)
    by_cases hxy : x = y
    ·have hd : decide ([x, z, n1] = [y, z, n0]) = true := by
      have hn : n1 = n0 := hnn hxy
      rw [hxy, hn]; exact decide_eq_true rfl
     rw [hd, if_neg (by intro hh; exact hh.2 hxy), List.append_nil]
     simp only [if_true]
     exact hend _
    ·have hd : decide ([x, z, n1] = [y, z, n0]) = false := decide_eq_false (fun hh => hxy (List.cons.inj hh).1)
     rw [hd, if_pos ⟨by omega, hxy⟩]
     simp only [Bool.false_eq_true, if_false]
     exact hend _
 by_cases c1 : n1 > 1000000000
 ·rw [if_pos c1] at e1
  rw [if_neg (show ¬ n1 ≤ 1000000000 by omega), List.nil_append]
  refine Ev.step (fun k => ?_) (step0 [] (.inl ⟨rfl, by omega⟩))
  simp only [spec_mkUp.l0]
  rw [if_pos (by omega), show spec_mkMove.f [x, y, z] 1 = _ from m1, e1]
  simp only [Option.bind_some, Bool.false_eq_true, if_false, w1]
 ·rw [if_neg c1] at e1
  rw [if_pos (show n1 ≤ 1000000000 by omega)]
  refine Ev.step (fun k => ?_) (step0 [[x, z, n1]] (.inr rfl))
  have c2 : n1 > z := hg _ b1
  simp only [spec_mkUp.l0]
  rw [if_pos (by omega), show spec_mkMove.f [x, y, z] 1 = _ from m1, e1]
  simp only [Option.bind_some, if_true, hl3, hr2, hq, c2, w1, List.length_nil, List.nil_append]
  rfl
theorem ups_ev {most : Int} (hm : most ≤ 1000000000) {l : List Int} (h : isMk l = true) : Ev (fun k => impl_ups.f k l most) (upsL most l) := by
 have hs := upsL_sorted most h
 obtain ⟨x, y, z, rfl⟩ := mk_three h
 obtain ⟨b1, b2, b3⟩ := up_big h
 have hb := mv_back h
 obtain ⟨h1, h2, h3, h4, h5, h6⟩ := isMk_iff.1 h
 have m0 := moved_is h 0 (by omega)
 have m1 := moved_is h 1 (by omega)
 have m2 := moved_is h 2 (by omega)
 rw [mv_zero h] at m0
 rw [mv_one h] at m1
 have w0 : wrap64 (0 + 1) = 1 := by decide +kernel
 have w1 : wrap64 (1 + 1) = 2 := by decide +kernel
 have w2 : wrap64 (2 + 1) = 3 := by decide +kernel
 have hl3 : ∀ a b c : Int, (([a, b, c] : List Int).length : Int) = 3 := fun _ _ _ => rfl
 have hl3n : ∀ a b c : Int, ([a, b, c] : List Int).length < 9223372036854775807 := fun _ _ _ => by show 3 < 9223372036854775807; decide
 have hr2 : ∀ a b c : Int, rd [a, b, c] 2 = c := fun _ _ _ => rfl
 have hq : (2 : Int) < 3 := by decide
 have hstep : ∀ (i j : Int) (a b c : Int) (o : List (List Int)) (r : List (List Int)), i < 3 → wrap64 (i + 1) = j → impl_moved.f [x, y, z] i = some [a, b, c] → o.length < 1000000000 → Ev (fun k => impl_ups.l0 k [x, y, z] most (if z < c ∧ c ≤ most then o ++ [[a, b, c]] else o) j) r → Ev (fun k => impl_ups.l0 k [x, y, z] most o i) r := by
  intro i j a b c o r hi hj hm ho hr
  refine Ev.step (fun k => ?_) hr
  simp only [impl_ups.l0]
  rw [if_pos hi, hm]
  simp only [Option.bind_some, hl3, hl3n, hr2, hq, if_true, hj, ho]
  by_cases c1 : z < c
  ·by_cases c2 : c ≤ most
   ·simp only [c1, c2, and_self, if_true]
   ·simp only [c1, c2, and_false, if_true, if_false]
  ·simp only [c1, false_and, if_false]
 obtain ⟨a2, b2', c2, e2⟩ := mv_three x y z 2
 rw [e2] at m2 hb
 have hend : ∀ o : List (List Int), sortDedup o = upsL most [x, y, z] → Ev (fun k => impl_ups.l0 k [x, y, z] most o 3) (upsL most [x, y, z]) := fun o ho => by
  refine Ev.step (f := fun _ => some (upsL most [x, y, z])) (fun k => by simp only [impl_ups.l0]; rw [if_neg (by omega), ho]) (Ev.is rfl)
 have hlast : ∀ o : List (List Int), o.length < 1000000000 → (∀ u, u ∈ o ↔ u ∈ upsL most [x, y, z]) → Ev (fun k => impl_ups.l0 k [x, y, z] most o 2) (upsL most [x, y, z]) := by
  intro o ho hu
  refine hstep 2 3 a2 b2' c2 o _ (by decide) w2 m2 ho (hend _ (sortDedup_is hs fun u => ?_).symm)
  rcases hb with ⟨hz, hn⟩ | ⟨rfl, rfl, rfl⟩
  ·rw [if_neg (fun hh => hn hh.1)]
   exact (hu u).symm
  ·have e3 : mv 1 1 1 2 = [1, 1, 2] := by decide
   rw [e3] at e2
   obtain ⟨rfl, rfl, rfl⟩ : a2 = 1 ∧ b2' = 1 ∧ c2 = 2 := by simpa [eq_comm] using e2
   by_cases hc : (1 : Int) < 2 ∧ (2 : Int) ≤ most
   ·rw [if_pos hc]
    have hup : upsL most [1, 1, 1] = [[1, 1, 2]] := by
     show (if 3 * 1 * 1 - 1 ≤ most then [[1, 1, 3 * 1 * 1 - 1]] else []) ++ (if 3 * 1 * 1 - 1 ≤ most ∧ (1 : Int) ≠ 1 then [[1, 1, 3 * 1 * 1 - 1]] else []) = _
     rw [if_pos (by omega), if_neg (by intro hh; exact hh.2 rfl)]
     rfl
    rw [List.mem_append, hu u, hup]
    simp
   ·rw [if_neg hc]
    exact (hu u).symm
 unfold impl_ups.f
 refine hstep 0 1 y z (3 * y * z - x) [] _ (by decide) w0 m0 (by simp) ?_
 refine hstep 1 2 x z (3 * x * z - y) _ _ (by decide) w1 m1 (by split <;> simp) ?_
 refine hlast _ (by split <;> split <;> simp) fun u => ?_
 show _ ↔ u ∈ (if 3 * x * z - y ≤ most then [[x, z, 3 * x * z - y]] else []) ++ (if 3 * y * z - x ≤ most ∧ x ≠ y then [[y, z, 3 * y * z - x]] else [])
 have hxy : x = y → 3 * x * z - y = 3 * y * z - x := fun e => by rw [e]
 generalize 3 * x * z - y = n1 at *
 generalize 3 * y * z - x = n0 at *
 by_cases c1 : n1 ≤ most
 ·by_cases c0 : n0 ≤ most
  ·rw [if_pos (show z < n1 ∧ n1 ≤ most by omega), if_pos (show z < n0 ∧ n0 ≤ most by omega), if_pos c1]
   by_cases e : x = y
   ·rw [if_neg (fun hh => hh.2 e)]
    subst e
    rw [hxy rfl]
    simp
   ·rw [if_pos ⟨c0, e⟩]
    simp [or_comm]
  ·rw [if_pos (show z < n1 ∧ n1 ≤ most by omega), if_neg (fun hh => c0 hh.2), if_pos c1, if_neg (fun hh => c0 hh.1)]
   simp
 ·have c0 : ¬ n0 ≤ most := by omega
  rw [if_neg (fun hh => c1 hh.2), if_neg (fun hh => c0 hh.2), if_neg c1, if_neg (fun hh => c0 hh.1)]
  simp
end Go.Proofs.Ytkdgpbcecnmdhaa.P
namespace Go.Proofs.Ytkdgpbcecnmdhaa.P
open Go.RowKit Go.Proofs.YtkdgpbcecnmdhaaW.PrintWords Go.Proofs.YtkdgpbcecnmdhaaW.PrintLast Go.Proofs.YtkdgpbcecnmdhaaW.PrintMore
theorem own_mk (l : List Int) (h : l.length ≤ 1000) : spec_l1Own.f l = some l := by
 unfold spec_l1Own.f
 simp only [Option.bind_some, List.length_nil, Nat.zero_add, List.nil_append]
 rw [if_pos (by omega)]
def Tri (l : List Int) : Prop := 3 ≤ l.length ∧ l.length ≤ 4
theorem markov_loop (code : List Int) (hc : Bytes code) (d : Nat) : ∀ (l : List Int) (at_ seed : Int), isMk l = true → d ≤ 100 → 0 ≤ at_ → at_ ≤ 1000 - 2 * (d : Int) →
  ∃ l' at' seed', Ev (fun k => spec_l1Cur_markov.l0 k l (d : Int) code at_ seed) (l', at', seed') ∧ Tri l' ∧ 0 ≤ at' ∧ at' ≤ 2000 := by
 induction d with
 | zero =>
  intro l at_ seed h hd h0 h1
  have h3 : l.length = 3 := by obtain ⟨x, y, z, rfl⟩ := mk_three h; rfl
  have ho := own_mk l (by omega)
  obtain ⟨v1, a1, s1, e1, _, _, _, _⟩ := pick_ok code hc at_ seed 20 h0 (by omega) (by decide)
  by_cases c1 : v1 = 0
  ·obtain ⟨v2, a2, s2, e2, p2, q2, _, _⟩ := pick_ok code hc a1 s1 3 (by omega) (by omega) (by decide)
   have q3 := q2 (by decide)
   have q4 : v2 < (l.length : Int) := by omega
   obtain ⟨v3, a3, s3, e3, _, _, _⟩ := among_ok code hc a2 s2 [1, (-1), 1000000000] (by omega) (by omega) (by decide) (by decide)
   refine ⟨_, a3, s3, Ev.step (f := fun _ => some (l.set v2.toNat (wrap64 (rd l v2 + v3)), a3, s3)) (fun k => ?_) (Ev.is rfl), by unfold Tri; rw [List.length_set]; omega, by omega, by omega⟩
   simp only [spec_l1Cur_markov.l0]
   rw [if_neg (by omega), ho]
   simp only [Option.bind_some]
   rw [e1]
   simp only [Option.bind_some]
   rw [if_pos c1, e2]
   simp only [Option.bind_some]
   rw [if_pos p2, if_pos q4, e3]
   rfl
  ·by_cases c2 : v1 = 1
   ·refine ⟨l ++ [1], a1, s1, Ev.step (f := fun _ => some (l ++ [1], a1, s1)) (fun k => ?_) (Ev.is rfl), by unfold Tri; rw [List.length_append, List.length_singleton]; omega, by omega, by omega⟩
    simp only [spec_l1Cur_markov.l0]
    rw [if_neg (by omega), ho]
    simp only [Option.bind_some]
    rw [e1]
    simp only [Option.bind_some]
    rw [if_neg c1, if_pos c2, if_pos (by omega)]
   ·by_cases c3 : v1 = 2
    ·refine ⟨_, a1, s1, Ev.step (f := fun _ => some ((l.set (0 : Int).toNat (rd l 2)).set (2 : Int).toNat (rd l 0), a1, s1)) (fun k => ?_) (Ev.is rfl), by unfold Tri; rw [List.length_set, List.length_set]; omega, by omega, by omega⟩
     simp only [spec_l1Cur_markov.l0]
     rw [if_neg (by omega), ho]
     simp only [Option.bind_some]
     rw [e1]
     simp only [Option.bind_some]
     rw [if_neg c1, if_neg c2, if_pos c3, if_pos (by omega), if_pos (by omega)]
    ·refine ⟨l, a1, s1, Ev.step (f := fun _ => some (l, a1, s1)) (fun k => ?_) (Ev.is rfl), by unfold Tri; omega, by omega, by omega⟩
     simp only [spec_l1Cur_markov.l0]
     rw [if_neg (by omega), ho]
     simp only [Option.bind_some]
     rw [e1]
     simp only [Option.bind_some]
     rw [if_neg c1, if_neg c2, if_neg c3]
 | succ d ih =>
  intro l at_ seed h hd h0 h1
  have hu := mkUp_ev h
  have w1 : wrap64 (((d + 1 : Nat) : Int) - 1) = (d : Int) := by rw [w64 (by omega) (by omega)]; omega
  have hl2 : (upsL 1000000000 l).length ≤ 2 := by
   obtain ⟨x, y, z, rfl⟩ := mk_three h
   have hh : ∀ (p q : Prop) [Decidable p] [Decidable q] (a b : List Int), ((if p then [a] else []) ++ (if q then [b] else [])).length ≤ 2 := by
    intro p q _ _ a b
    by_cases hp : p <;> by_cases hq : q <;> simp [hp, hq]
   exact hh _ _ _ _
  by_cases hc2 : ((upsL 1000000000 l).length : Int) > 0
  ·obtain ⟨v1, a1, s1, e1, p1, q1, _, _⟩ := pick_ok code hc at_ seed ((upsL 1000000000 l).length : Int) h0 (by omega) (by omega)
   have q2 := q1 (by omega)
   have hm : rd_L1 (upsL 1000000000 l) v1 ∈ upsL 1000000000 l := by
    unfold rd_L1
    rw [List.getD_eq_getElem?_getD, List.getElem?_eq_getElem (show v1.toNat < (upsL 1000000000 l).length by omega)]
    exact List.getElem_mem _
   obtain ⟨l', at', seed', e, h3⟩ := ih (rd_L1 (upsL 1000000000 l) v1) a1 s1 (upsL_mk (Int.le_refl _) h hm).1 (by omega) (by omega) (by omega)
   refine ⟨l', at', seed', Ev.step (f := fun k => (spec_mkUp.f k l).bind fun t657 => (if (t657.length : Int) > 0 then ((spec_l1Cur_pick.f code at_ seed (t657.length : Int)).bind fun bt660 => (if 0 ≤ bt660.1 then (if bt660.1 < (t657.length : Int) then (spec_l1Cur_markov.l0 k (rd_L1 t657 bt660.1) (d : Int) code bt660.2.1 bt660.2.2) else (none)) else (none))) else (spec_l1Cur_markov.l0 k l (d : Int) code at_ seed))) (fun k => ?_) (Ev.bind hu ?_), h3⟩
   ·simp only [spec_l1Cur_markov.l0]
    rw [if_pos (by omega), w1]
   ·simp only [hc2, if_true, e1, Option.bind_some, p1, q2]
    exact e
  ·obtain ⟨l', at', seed', e, h3⟩ := ih l at_ seed h (by omega) (by omega) (by omega)
   refine ⟨l', at', seed', Ev.step (f := fun k => (spec_mkUp.f k l).bind fun t657 => (if (t657.length : Int) > 0 then ((spec_l1Cur_pick.f code at_ seed (t657.length : Int)).bind fun bt660 => (if 0 ≤ bt660.1 then (if bt660.1 < (t657.length : Int) then (spec_l1Cur_markov.l0 k (rd_L1 t657 bt660.1) (d : Int) code bt660.2.1 bt660.2.2) else (none)) else (none))) else (spec_l1Cur_markov.l0 k l (d : Int) code at_ seed))) (fun k => ?_) (Ev.bind hu ?_), h3⟩
   ·simp only [spec_l1Cur_markov.l0]
    rw [if_pos (by omega), w1]
   ·simp only [hc2, if_false]
    exact e
theorem markov_ok (code : List Int) (hc : Bytes code) (at_ seed : Int) (h0 : 0 ≤ at_) (h1 : at_ ≤ 500) : ∃ l' at' seed', Ev (fun k => spec_l1Cur_markov.f k code at_ seed) (l', at', seed') ∧ Tri l' ∧ 0 ≤ at' ∧ at' ≤ 2000 := by
 unfold spec_l1Cur_markov.f
 obtain ⟨v1, a1, s1, e1, hm, _, _⟩ := among_ok code hc at_ seed [0, 1, 2, 3, 4, 6, 9, 14] h0 (by omega) (by decide) (by decide)
 have hv : 0 ≤ v1 ∧ v1 ≤ 14 := by
  simp only [List.mem_cons, List.not_mem_nil, or_false] at hm
  omega
 obtain ⟨n, rfl⟩ := Int.eq_ofNat_of_zero_le hv.1
 obtain ⟨l', at', seed', e, h3⟩ := markov_loop code hc n [1, 1, 1] a1 s1 (by decide) (by omega) (by omega) (by omega)
 exact ⟨l', at', seed', Ev.bind0 e1 e, h3⟩
end Go.Proofs.Ytkdgpbcecnmdhaa.P
namespace Go.Proofs.Ytkdgpbcecnmdhaa.P
open Go.RowKit Go.Proofs.YtkdgpbcecnmdhaaW.PrintWords Go.Proofs.YtkdgpbcecnmdhaaW.PrintLast Go.Proofs.YtkdgpbcecnmdhaaW.PrintMore
def dfs (m : Int) : Nat → List Int → List (List Int)
  | 0, t => [t]
  | n + 1, t => t :: (upsL m t).flatMap (dfs m n)
def treeOf (m : Int) (t : List Int) : List (List Int) := dfs m 31 t
theorem mk_pos_ {l : List Int} (h : isMk l = true) : 1 ≤ rd l 2 ∧ rd l 2 ≤ 1000000000 := by
 obtain ⟨x, y, z, rfl⟩ := mk_three h
 obtain ⟨h1, h2, h3, h4, h5, h6⟩ := isMk_iff.1 h
 exact h3
theorem mk_len_ {l : List Int} (h : isMk l = true) : l.length = 3 := by
  obtain ⟨x, y, z, rfl⟩ := mk_three h
  rfl
theorem upsL_len (m : Int) {t : List Int} (h : isMk t = true) : (upsL m t).length ≤ 2 := by
 obtain ⟨x, y, z, rfl⟩ := mk_three h
 have h : ∀ (p q : Prop) [Decidable p] [Decidable q] (a b : List Int), ((if p then [a] else []) ++ (if q then [b] else [])).length ≤ 2 := by
  intro p q _ _ a b
  by_cases hp : p <;> by_cases hq : q <;> simp [hp, hq]
 exact h _ _ _ _
theorem upsL_nil {m : Int} (hm : m ≤ 1000000000) {t : List Int} (h : isMk t = true) (hb : m < 2 * rd t 2) : upsL m t = [] := by
 rw [List.eq_nil_iff_forall_not_mem]
 intro u hu
 have := upsL_mk hm h hu
 omega
theorem flat_congr {l : List (List Int)} {f g : List Int → List (List Int)} (h : ∀ x ∈ l, f x = g x) : l.flatMap f = l.flatMap g := by
 induction l with
 | nil => rfl
 | cons x l ih => simp only [List.flatMap_cons, h x List.mem_cons_self, ih (fun y hy => h y (List.mem_cons_of_mem _ hy))]
theorem dfs_stable {m : Int} (hm : m ≤ 1000000000) : ∀ (n : Nat) (t : List Int), isMk t = true → m < rd t 2 * 2 ^ (n + 1) → dfs m n t = dfs m (n + 1) t
 | 0, t, h, hb => by
  show [t] = t :: (upsL m t).flatMap (dfs m 0)
  rw [upsL_nil hm h (by omega)]
  rfl
 | n + 1, t, h, hb => by
  show t :: (upsL m t).flatMap (dfs m n) = t :: (upsL m t).flatMap (dfs m (n + 1))
  congr 1
  refine flat_congr fun u hu => ?_
  obtain ⟨h1, h2, h3⟩ := upsL_mk hm h hu
  refine dfs_stable hm n u h1 ?_
  have e : rd t 2 * 2 ^ (n + 1 + 1) = (2 * rd t 2) * 2 ^ (n + 1) := by rw [Int.pow_succ 2 (n + 1)]; generalize (2 : Int) ^ (n + 1) = q; grind
  have hp : (0 : Int) ≤ 2 ^ (n + 1) := Int.le_of_lt (Int.pow_pos (by decide))
  have := Int.mul_le_mul_of_nonneg_right h2 hp
  omega
theorem treeOf_is {m : Int} (hm : m ≤ 1000000000) {t : List Int} (h : isMk t = true) : treeOf m t = t :: (upsL m t).flatMap (treeOf m) := by
 have hp := mk_pos_ h
 have := dfs_stable hm 31 t h (by
  rw [show (2 : Int) ^ (31 + 1) = 4294967296 by decide]
  omega)
 exact this
theorem dfs_mk {m : Int} (hm : m ≤ 1000000000) : ∀ (n : Nat) (t : List Int), isMk t = true → ∀ x ∈ dfs m n t, isMk x = true
 | 0, t, h, x, hx => by rw [List.mem_singleton.1 hx]; exact h
 | n + 1, t, h, x, hx => by
  rcases List.mem_cons.1 hx with rfl | hx
  ·exact h
  ·obtain ⟨u, hu, hx⟩ := List.mem_flatMap.1 hx
   exact dfs_mk hm n u (upsL_mk hm h hu).1 x hx
theorem dfs_len {m : Int} (hm : m ≤ 1000000000) : ∀ (n : Nat) (t : List Int), isMk t = true → (dfs m n t).length + 1 ≤ 2 ^ (n + 1)
 | 0, t, h => by simp [dfs]
 | n + 1, t, h => by
  have hl := upsL_len m h
  have hmem := fun u (hu : u ∈ upsL m t) => dfs_len hm n u (upsL_mk hm h hu).1
  rw [dfs, Nat.pow_succ]
  generalize upsL m t = us at hl hmem
  match us, hl, hmem with
  | [], _, _ => simp; have := Nat.pow_pos (n := n + 1) (show 0 < 2 by decide); omega
  | [a], _, hmem => have := hmem a (by simp); simp; omega
  | [a, b], _, hmem => have h1 := hmem a (by simp); have h2 := hmem b (by simp); simp; omega
  | _ :: _ :: _ :: _, hl, _ => simp at hl
theorem treeOf_len {m : Int} (hm : m ≤ 1000000000) {t : List Int} (h : isMk t = true) : (treeOf m t).length ≤ 4294967296 := by
 have := dfs_len hm 31 t h
 unfold treeOf
 omega
theorem sortM_congr {l l' : List (List Int)} (h : l.Perm l') : sortM l = sortM l' := sortM_is ((sortM_perm l).trans h) (sortM_sorted l)
theorem mk_prM {x : List Int} (h : isMk x = true) : prM x = true := by
 have h1 := mk_pos_ h
 have h2 := mk_len_ h
 rw [prM_iff]
 omega
theorem rdL1_mid (a : List (List Int)) (t : List Int) (b : List (List Int)) : rd_L1 (a ++ t :: b) (a.length : Int) = t := by
  simp [rd_L1]
theorem bfs {m : Int} (hm : m ≤ 1000000000) : ∀ (N : Nat) (q done : List (List Int)), (∀ x ∈ done, isMk x = true) → (∀ x ∈ q, isMk x = true) → (q.flatMap (treeOf m)).length ≤ N → done.length + (q.flatMap (treeOf m)).length ≤ 5000000000 → Ev (fun k => impl_markovs.l0 k m (done ++ q) (done.length : Int)) (sortM (done ++ q.flatMap (treeOf m)))
 | N, [], done, hd, hq, hN, hT => by
  have hall : done.all prM = true := List.all_eq_true.2 fun x hx => mk_prM (hd x hx)
  refine Ev.step (f := fun _ => some (sortM done)) (fun k => ?_) (Ev.is (by simp))
  simp only [List.append_nil, impl_markovs.l0]
  rw [if_neg (by omega), if_pos hall]
 | 0, t :: q, done, hd, hq, hN, hT => by
  have := treeOf_is hm (hq t List.mem_cons_self)
  simp [this] at hN
 | N + 1, t :: q, done, hd, hq, hN, hT => by
  have ht := hq t List.mem_cons_self
  have hu := ups_ev hm ht
  have hD := treeOf_is hm ht
  have hfl : ((t :: q).flatMap (treeOf m)).Perm (t :: (q ++ upsL m t).flatMap (treeOf m)) := by
   rw [List.flatMap_cons, hD, List.cons_append, List.flatMap_append]
   exact (List.perm_append_comm).cons t
  have hlen := hfl.length_eq
  have hql : ∀ l : List (List Int), (∀ x ∈ l, isMk x = true) → l.length ≤ (l.flatMap (treeOf m)).length := by
   intro l hl
   induction l with
   | nil => simp
   | cons x l ih =>
    have := treeOf_is hm (hl x List.mem_cons_self)
    have h2 := ih (fun y hy => hl y (List.mem_cons_of_mem _ hy))
    rw [List.flatMap_cons, this]
    simp only [List.length_append, List.length_cons]
    omega
  have hqu : ∀ x ∈ q ++ upsL m t, isMk x = true := fun x hx => by
   rcases List.mem_append.1 hx with h | h
   ·exact hq x (List.mem_cons_of_mem _ h)
   ·exact (upsL_mk hm ht h).1
  have hq2 := hql _ hqu
  rw [List.length_append] at hq2
  rw [List.length_cons] at hlen
  have ih := bfs hm N (q ++ upsL m t) (done ++ [t]) (fun x hx => by
   rcases List.mem_append.1 hx with h | h
   ·exact hd x h
   ·rw [List.mem_singleton.1 h]; exact ht) hqu (by omega) (by rw [List.length_append, List.length_singleton]; omega)
  have he : sortM ((done ++ [t]) ++ (q ++ upsL m t).flatMap (treeOf m)) = sortM (done ++ (t :: q).flatMap (treeOf m)) := by
   refine sortM_congr ?_
   rw [List.append_assoc]
   exact (hfl.symm).append_left done
  rw [he] at ih
  have hlt : (done.length : Int) < ((done ++ t :: q).length : Int) := by rw [List.length_append, List.length_cons]; omega
  have hw : wrap64 ((done.length : Int) + 1) = ((done ++ [t]).length : Int) := by
   rw [w64 (by omega) (by omega), List.length_append, List.length_singleton]
   omega
  refine Ev.step (f := fun k => (impl_ups.f k t m).bind fun us => if (done ++ t :: q).length + us.length < 5864062014805 then impl_markovs.l0 k m ((done ++ t :: q) ++ us) (wrap64 ((done.length : Int) + 1)) else none) (fun k => ?_) (Ev.bind hu ?_)
  ·simp only [impl_markovs.l0]
   rw [if_pos hlt, if_pos (by omega), rdL1_mid]
  ·have hc : (done ++ t :: q).length + (upsL m t).length < 5864062014805 := by rw [List.length_append, List.length_cons]; omega
   have he2 : (done ++ t :: q) ++ upsL m t = (done ++ [t]) ++ (q ++ upsL m t) := by simp
   simp only [hc, if_true, hw, he2]
   exact ih
theorem one_mk : isMk [1, 1, 1] = true := by decide
def allUpTo (m : Int) : List (List Int) := sortM (treeOf m [1, 1, 1])
theorem markovs_ev {m : Int} (hm : m ≤ 1000000000) : Ev (fun k => impl_markovs.f k m) (allUpTo m) := by
 have hl := treeOf_len hm one_mk
 have h := bfs hm 4294967296 [[1, 1, 1]] [] (by simp) (by intro x hx; rw [List.mem_singleton.1 hx]; exact one_mk) (by simpa using hl) (by simp; omega)
 unfold impl_markovs.f allUpTo
 simpa using h
end Go.Proofs.Ytkdgpbcecnmdhaa.P
namespace Go.Proofs.Ytkdgpbcecnmdhaa.P
open Go.RowKit Go.Proofs.YtkdgpbcecnmdhaaW.PrintWords Go.Proofs.YtkdgpbcecnmdhaaW.PrintLast Go.Proofs.YtkdgpbcecnmdhaaW.PrintMore
theorem rdL1_lt (L : List (List Int)) (i : Nat) (hi : i < L.length) : rd_L1 L (i : Int) = L[i] := by
  simp [rd_L1, List.getD_eq_getElem?_getD, hi]
theorem cfM_three (a b c x y z : Int) : cfM [a, b, c] [x, y, z] < 0 ↔ c < z ∨ (c = z ∧ (a < x ∨ (a = x ∧ b < y))) := by
 have e1 : rd [a, b, c] 2 = c := rfl
 have e2 : rd [x, y, z] 2 = z := rfl
 unfold cfM
 rw [e1, e2]
 by_cases h : c = z
 ·rw [if_pos h]
  simp only [cmpL]
  split
  ·omega
  ·split
   ·omega
   ·split
    ·omega
    ·split
     ·omega
     ·split
      ·omega
      ·split <;> omega
 ·rw [if_neg h]
  omega
theorem put_is {L : List (List Int)} {t : List Int} {j : Nat} (hs : L.Pairwise fun a b => ¬ cfM b a < 0) (hj : j ≤ L.length) (hlo : ∀ i, (h : i < L.length) → i < j → cfM L[i] t < 0) (hhi : ∀ h : j < L.length, ¬ cfM L[j] t < 0) : L.take j ++ [t] ++ L.drop j = sortM (t :: L) := by
 refine sortM_is ?_ ?_
 ·rw [List.append_assoc]
  refine List.perm_append_comm.trans ?_
  rw [List.append_assoc]
  refine (List.Perm.append_left [t] (List.perm_append_comm)).trans ?_
  rw [List.take_append_drop]
  exact .refl _
 ·have hn := cfM_total.swo.ntrans
  simp only [decide_eq_false_iff_not] at hn
  have htd := hs
  rw [← List.take_append_drop j L, List.pairwise_append] at htd
  obtain ⟨h1, h2, h3⟩ := htd
  have hta : ∀ a ∈ L.take j, ¬ cfM t a < 0 := by
   intro a ha
   obtain ⟨i, hi, rfl⟩ := List.getElem_of_mem ha
   have hi2 : i < j ∧ i < L.length := by rw [List.length_take] at hi; omega
   have h4 := hlo i hi2.2 hi2.1
   have h5 := (cfM_total.anti L[i] t).1 h4
   rw [List.getElem_take]
   omega
  have htb : ∀ b ∈ L.drop j, ¬ cfM b t < 0 := by
   intro b hb
   obtain ⟨i, hi, rfl⟩ := List.getElem_of_mem hb
   rw [List.length_drop] at hi
   have h4 := hhi (by omega)
   rw [List.getElem_drop]
   rcases Nat.eq_zero_or_pos i with e | e
   ·subst e; exact h4
   ·have h5 := List.pairwise_iff_getElem.1 hs j (j + i) (by omega) (by omega) (by omega)
    exact hn _ _ _ h5 h4
  rw [List.append_assoc, List.pairwise_append]
  refine ⟨h1, ?_, ?_⟩
  ·show ([t] ++ L.drop j).Pairwise _
   rw [List.singleton_append, List.pairwise_cons]
   exact ⟨htb, h2⟩
  ·intro a ha b hb
   rcases List.mem_append.1 hb with hb | hb
   ·rw [List.mem_singleton.1 hb]; exact hta a ha
   ·exact h3 a ha b hb
theorem mkPut_ev {L : List (List Int)} {t : List Int} (hL : ∀ x ∈ L, isMk x = true) (ht : isMk t = true) (hs : L.Pairwise fun a b => ¬ cfM b a < 0) (hl : L.length ≤ 5000000000) : Ev (fun k => spec_mkPut.f k L t) (sortM (t :: L)) := by
 obtain ⟨x, y, z, rfl⟩ := mk_three ht
 have hlx : (([x, y, z] : List Int).length : Int) = 3 := rfl
 have r0 : rd [x, y, z] 0 = x := rfl
 have r1 : rd [x, y, z] 1 = y := rfl
 have r2 : rd [x, y, z] 2 = z := rfl
 have q0 : (0 : Int) < 3 := by decide
 have q1 : (1 : Int) < 3 := by decide
 have q2 : (2 : Int) < 3 := by decide
 have jt : ∀ (j : Nat) (r : List (List Int)), j < L.length → Ev (fun k => spec_mkPut.l0 k L [x, y, z] ((j + 1 : Nat) : Int)) r → Ev (fun k => spec_mkPut.j1 k L [x, y, z] (j : Int) true) r := by
  intro j r hj hr
  refine Ev.step (fun k => ?_) hr
  simp only [spec_mkPut.j1, if_true]
  rw [w64_succ hj (by omega)]
 have jf : ∀ (j : Nat), j ≤ L.length → L.take j ++ [[x, y, z]] ++ L.drop j = sortM ([x, y, z] :: L) → Ev (fun k => spec_mkPut.j1 k L [x, y, z] (j : Int) false) (sortM ([x, y, z] :: L)) := by
  intro j hj hp
  have c2 : (0 : Int) ≤ (j : Int) := by omega
  have c3 : (j : Int) ≤ (L.length : Int) := by omega
  have c4 : (L.take j).length < 5864062014805 := by rw [List.length_take]; omega
  have c5 : (L.take j ++ [[x, y, z]]).length + (L.drop j).length < 5864062014805 := by simp only [List.length_append, List.length_take, List.length_drop, List.length_singleton]; omega
  refine Ev.step (f := fun _ => some (sortM ([x, y, z] :: L))) (fun k => ?_) (Ev.is rfl)
  simp only [spec_mkPut.j1, Bool.false_eq_true, c2, c3, if_true, if_false, Option.bind_some, Int.toNat_natCast, List.nil_append, List.length_nil, Nat.zero_add, c4, c5, hp]
 have go : ∀ (d j : Nat), j + d = L.length → (∀ i, (h : i < L.length) → i < j → cfM L[i] [x, y, z] < 0) → Ev (fun k => spec_mkPut.l0 k L [x, y, z] (j : Int)) (sortM ([x, y, z] :: L)) := by
  intro d
  induction d with
  | zero =>
   intro j hj hlo
   have hp := put_is hs (j := j) (by omega) hlo (fun h => by omega)
   have c1 : ¬ (j : Int) < (L.length : Int) := by omega
   refine Ev.step (fun k => ?_) (jf j (by omega) hp)
   simp only [spec_mkPut.l0, c1, if_false]
  | succ d ih =>
   intro j hj hlo
   have hjl : j < L.length := by omega
   obtain ⟨a, b, c, e⟩ := mk_three (hL L[j] (List.getElem_mem hjl))
   have c1 : (j : Int) < (L.length : Int) := by omega
   have c2 : (0 : Int) ≤ (j : Int) := by omega
   have hrl : rd_L1 L (j : Int) = [a, b, c] := by rw [rdL1_lt L j hjl, e]
   have hla : (([a, b, c] : List Int).length : Int) = 3 := rfl
   have s0 : rd [a, b, c] 0 = a := rfl
   have s1 : rd [a, b, c] 1 = b := rfl
   have s2 : rd [a, b, c] 2 = c := rfl
   have hcf := cfM_three a b c x y z
   by_cases hlt : cfM [a, b, c] [x, y, z] < 0
   ·have hr := ih (j + 1) (by omega) (fun i h hi => by
     rcases Nat.lt_or_eq_of_le (Nat.le_of_lt_succ hi) with h1 | h1
     ·exact hlo i h h1
     ·subst h1; rw [e]; exact hlt)
    refine Ev.step (fun k => ?_) (jt j _ hjl hr)
    simp only [spec_mkPut.l0, c1, c2, if_true, hrl, hlx, hla, q2, r2, s2, q0, r0, s0, q1, r1, s1]
    rcases hcf.1 hlt with h1 | ⟨h1, h2 | ⟨h2, h3⟩⟩
    ·rw [if_pos h1]
    ·rw [if_neg (by omega), if_pos h1, if_pos h2]
    ·rw [if_neg (by omega), if_pos h1, if_neg (by omega), if_pos h2, decide_eq_true h3]
   ·have hp := put_is hs (j := j) (by omega) hlo (fun h => by rw [e]; exact hlt)
    refine Ev.step (fun k => ?_) (jf j (by omega) hp)
    have n1 : ¬ c < z := fun h => hlt (hcf.2 (.inl h))
    simp only [spec_mkPut.l0, c1, c2, if_true, hrl, hlx, hla, q2, r2, s2, q0, r0, s0, q1, r1, s1, n1, if_false]
    by_cases h1 : c = z
    ·have n2 : ¬ a < x := fun h => hlt (hcf.2 (.inr ⟨h1, .inl h⟩))
     rw [if_pos h1, if_neg n2]
     by_cases h2 : a = x
     ·have n3 : ¬ b < y := fun h => hlt (hcf.2 (.inr ⟨h1, .inr ⟨h2, h⟩⟩))
      rw [if_pos h2, decide_eq_false n3]
     ·rw [if_neg h2]
    ·rw [if_neg h1]
 unfold spec_mkPut.f
 exact go L.length 0 (by omega) (fun i h hi => by omega)
theorem sortM_mk {l : List (List Int)} (h : ∀ x ∈ l, isMk x = true) : ∀ x ∈ sortM l, isMk x = true := fun x hx => h x ((sortM_perm l).mem_iff.1 hx)
theorem sortM_self {l : List (List Int)} (h : l.Pairwise fun a b => ¬ cfM b a < 0) : sortM l = l := (sortM_is (.refl _) h).symm
theorem mkAll_loop (m : Int) (us : List (List Int)) (g : List Int → List (List Int)) (hg : ∀ u ∈ us, ∀ x ∈ g u, isMk x = true) (hul : us.length ≤ 2)
  (hrec : ∀ u ∈ us, ∀ L : List (List Int), (∀ x ∈ L, isMk x = true) → (L.Pairwise fun a b => ¬ cfM b a < 0) → L.length + (g u).length ≤ 5000000000 → Ev (fun k => spec_mkAll.f k L u m) (sortM (L ++ g u))) :
  ∀ (d i : Nat), i + d = us.length → ∀ L : List (List Int), (∀ x ∈ L, isMk x = true) → (L.Pairwise fun a b => ¬ cfM b a < 0) → L.length + ((us.drop i).flatMap g).length ≤ 5000000000 → Ev (fun k => spec_mkAll.l0 k L m us (us.length : Int) (i : Int)) (sortM (L ++ (us.drop i).flatMap g))
 | 0, i, hi, L, hL, hs, hb => by
  refine Ev.step (f := fun _ => some L) (fun k => ?_) (Ev.is ?_)
  ·simp only [spec_mkAll.l0]
   rw [if_neg (by omega)]
  ·rw [List.drop_of_length_le (by omega)]
   simp [sortM_self hs]
 | d + 1, i, hi, L, hL, hs, hb => by
  have hil : i < us.length := by omega
  have hm := List.getElem_mem hil
  have hd : us.drop i = us[i] :: us.drop (i + 1) := List.drop_eq_getElem_cons hil
  rw [hd, List.flatMap_cons, List.length_append] at hb
  have h1 := hrec us[i] hm L hL hs (by omega)
  have hlen : (sortM (L ++ g us[i])).length = L.length + (g us[i]).length := by rw [(sortM_perm _).length_eq, List.length_append]
  have h2 := mkAll_loop m us g hg hul hrec d (i + 1) (by omega) (sortM (L ++ g us[i])) (sortM_mk fun x hx => by
   rcases List.mem_append.1 hx with h | h
   ·exact hL x h
   ·exact hg us[i] hm x h) (sortM_sorted _) (by omega)
  have he : sortM (sortM (L ++ g us[i]) ++ (us.drop (i + 1)).flatMap g) = sortM (L ++ (us.drop i).flatMap g) := by
   refine sortM_congr ?_
   rw [hd, List.flatMap_cons, ← List.append_assoc]
   exact (sortM_perm _).append_right _
  rw [he] at h2
  refine Ev.step (f := fun k => (spec_mkAll.f k L us[i] m).bind fun t => spec_mkAll.l0 k t m us (us.length : Int) (wrap64 ((i : Int) + 1))) (fun k => ?_) (Ev.bind h1 ?_)
  ·simp only [spec_mkAll.l0]
   rw [if_pos (by omega), if_pos (by omega), if_pos (by omega), rdL1_lt us i hil]
  ·rw [w64_succ hil (by omega)]
   exact h2
def upTo (m : Int) (n : Nat) (t : List Int) : List (List Int) := if rd t 2 ≤ m then dfs m n t else []
theorem ups_cut {m : Int} (hm : m ≤ 1000000000) (f : List Int → List (List Int)) {t : List Int} (h : isMk t = true) : (upsL 1000000000 t).flatMap (fun u => if rd u 2 ≤ m then f u else []) = (upsL m t).flatMap f := by
 obtain ⟨x, y, z, rfl⟩ := mk_three h
 show ((if 3 * x * z - y ≤ 1000000000 then [[x, z, 3 * x * z - y]] else []) ++ (if 3 * y * z - x ≤ 1000000000 ∧ x ≠ y then [[y, z, 3 * y * z - x]] else [])).flatMap _ = ((if 3 * x * z - y ≤ m then [[x, z, 3 * x * z - y]] else []) ++ (if 3 * y * z - x ≤ m ∧ x ≠ y then [[y, z, 3 * y * z - x]] else [])).flatMap f
 have hr : ∀ a b c : Int, rd [a, b, c] 2 = c := fun _ _ _ => rfl
 generalize 3 * x * z - y = n1
 generalize 3 * y * z - x = n0
 have one : ∀ (p q : Prop) [Decidable p] [Decidable q] (u : List Int), (q ↔ p ∧ rd u 2 ≤ m) → (if p then [u] else []).flatMap (fun u => if rd u 2 ≤ m then f u else []) = (if q then [u] else []).flatMap f := by
  intro p q _ _ u hq
  by_cases h1 : p
  ·by_cases h2 : rd u 2 ≤ m
   ·rw [if_pos h1, if_pos (hq.2 ⟨h1, h2⟩)]
    simp [h2]
   ·rw [if_pos h1, if_neg (fun h => h2 (hq.1 h).2)]
    simp [h2]
  ·rw [if_neg h1, if_neg (fun h => h1 (hq.1 h).1)]
   rfl
 rw [List.flatMap_append, List.flatMap_append]
 congr 1
 ·refine one _ _ _ ?_
  rw [hr]
  omega
 ·refine one _ _ _ ?_
  rw [hr]
  constructor
  ·rintro ⟨h1, h2⟩; exact ⟨⟨by omega, h2⟩, h1⟩
  ·rintro ⟨⟨h1, h2⟩, h3⟩; exact ⟨h3, h2⟩
theorem mkAll_no {m : Int} {t : List Int} (h : isMk t = true) (hb : rd t 2 > m) (L : List (List Int)) : Ev (fun k => spec_mkAll.f k L t m) L := by
 have hl := mk_len_ h
 refine Ev.step (f := fun _ => some L) (fun k => ?_) (Ev.is rfl)
 rw [spec_mkAll.f]
 rw [if_pos (by omega), if_pos hb]
theorem mkAll_ev {m : Int} (hm : m ≤ 1000000000) : ∀ (n : Nat) (t : List Int), isMk t = true → m < rd t 2 * 2 ^ (n + 1) → ∀ L : List (List Int), (∀ x ∈ L, isMk x = true) → (L.Pairwise fun a b => ¬ cfM b a < 0) → L.length + (upTo m n t).length ≤ 5000000000 → Ev (fun k => spec_mkAll.f k L t m) (sortM (L ++ upTo m n t)) := by
 intro n
 induction n with
 | zero =>
  intro t h hb L hL hs hl
  by_cases hc : rd t 2 ≤ m
  ·have hup : upTo m 0 t = [t] := by unfold upTo; rw [if_pos hc]; rfl
   rw [hup] at hl ⊢
   rw [List.length_singleton] at hl
   have hlt := mk_len_ h
   have h1 := mkPut_ev hL h hs (by omega)
   have h2 := mkUp_ev h
   have hmk : ∀ x ∈ t :: L, isMk x = true := fun x hx => by
    rcases List.mem_cons.1 hx with e | h3
    ·rw [e]; exact h
    ·exact hL x h3
   have h3 := mkAll_loop m (upsL 1000000000 t) (fun _ => []) (by simp) (upsL_len _ h) (fun u hu L' hL' hs' hl' => by
    have h4 := upsL_mk (Int.le_refl _) h hu
    have h5 := mkAll_no h4.1 (by omega) L' (m := m)
    rw [List.append_nil, sortM_self hs']
    exact h5) (upsL 1000000000 t).length 0 (by omega) (sortM (t :: L)) (sortM_mk hmk) (sortM_sorted _) (by
     have e0 : ((upsL 1000000000 t).drop 0).flatMap (fun _ => ([] : List (List Int))) = [] := by simp
     rw [(sortM_perm _).length_eq, e0, List.length_cons, List.length_nil]
     omega)
   have he : sortM (sortM (t :: L) ++ ((upsL 1000000000 t).drop 0).flatMap (fun _ => [])) = sortM (L ++ [t]) := by
    refine sortM_congr ?_
    have e0 : ((upsL 1000000000 t).drop 0).flatMap (fun _ => ([] : List (List Int))) = [] := by simp
    rw [e0, List.append_nil]
    exact (sortM_perm _).trans (List.perm_append_comm (l₁ := [t]))
   rw [he] at h3
   refine Ev.step (f := fun k => (spec_mkPut.f k L t).bind fun a => (spec_mkUp.f k t).bind fun b => spec_mkAll.l0 k a m b (b.length : Int) 0) (fun k => ?_) (Ev.bind h1 (Ev.bind h2 h3))
   rw [spec_mkAll.f]
   rw [if_pos (by omega), if_neg (by omega)]
  ·have hup : upTo m 0 t = [] := by unfold upTo; rw [if_neg hc]
   rw [hup, List.append_nil, sortM_self hs]
   exact mkAll_no h (by omega) L
 | succ n ih =>
  intro t h hb L hL hs hl
  by_cases hc : rd t 2 ≤ m
  ·have hup : upTo m (n + 1) t = t :: (upsL m t).flatMap (dfs m n) := by unfold upTo; rw [if_pos hc]; rfl
   rw [hup] at hl ⊢
   rw [List.length_cons] at hl
   have hlt := mk_len_ h
   have h1 := mkPut_ev hL h hs (by omega)
   have h2 := mkUp_ev h
   have hmk : ∀ x ∈ t :: L, isMk x = true := fun x hx => by
    rcases List.mem_cons.1 hx with e | h3
    ·rw [e]; exact h
    ·exact hL x h3
   have hcut := ups_cut hm (dfs m n) h
   have h3 := mkAll_loop m (upsL 1000000000 t) (upTo m n) (fun u hu x hx => by
    unfold upTo at hx
    split at hx
    ·exact dfs_mk hm n u (upsL_mk (Int.le_refl _) h hu).1 x hx
    ·simp at hx) (upsL_len _ h) (fun u hu L' hL' hs' hl' => by
    have h4 := upsL_mk (Int.le_refl _) h hu
    refine ih u h4.1 ?_ L' hL' hs' hl'
    have e : rd t 2 * 2 ^ (n + 1 + 1) = (2 * rd t 2) * 2 ^ (n + 1) := by rw [Int.pow_succ 2 (n + 1)]; generalize (2 : Int) ^ (n + 1) = q; grind
    have hp : (0 : Int) ≤ 2 ^ (n + 1) := Int.le_of_lt (Int.pow_pos (by decide))
    have := Int.mul_le_mul_of_nonneg_right h4.2.1 hp
    omega) (upsL 1000000000 t).length 0 (by omega) (sortM (t :: L)) (sortM_mk hmk) (sortM_sorted _) (by
     rw [(sortM_perm _).length_eq, List.drop_zero, List.length_cons]
     show L.length + 1 + ((upsL 1000000000 t).flatMap (fun u => if rd u 2 ≤ m then dfs m n u else [])).length ≤ _
     rw [hcut]
     omega)
   have he : sortM (sortM (t :: L) ++ ((upsL 1000000000 t).drop 0).flatMap (upTo m n)) = sortM (L ++ t :: (upsL m t).flatMap (dfs m n)) := by
    refine sortM_congr ?_
    rw [List.drop_zero]
    show (sortM (t :: L) ++ (upsL 1000000000 t).flatMap (fun u => if rd u 2 ≤ m then dfs m n u else [])).Perm _
    rw [hcut]
    refine ((sortM_perm _).append_right _).trans ?_
    rw [List.cons_append]
    exact List.perm_middle.symm
   rw [he] at h3
   refine Ev.step (f := fun k => (spec_mkPut.f k L t).bind fun a => (spec_mkUp.f k t).bind fun b => spec_mkAll.l0 k a m b (b.length : Int) 0) (fun k => ?_) (Ev.bind h1 (Ev.bind h2 h3))
   rw [spec_mkAll.f]
   rw [if_pos (by omega), if_neg (by omega)]
  ·have hup : upTo m (n + 1) t = [] := by unfold upTo; rw [if_neg hc]
   rw [hup, List.append_nil, sortM_self hs]
   exact mkAll_no h (by omega) L
theorem mkUpTo_ev {m : Int} (h1 : 1 ≤ m) (hm : m ≤ 1000000000) : Ev (fun k => spec_mkUpTo.f k m) (allUpTo m) := by
 have hl := treeOf_len hm one_mk
 have hup : upTo m 31 [1, 1, 1] = treeOf m [1, 1, 1] := by
  unfold upTo treeOf
  rw [if_pos (show rd [1, 1, 1] 2 ≤ m from h1)]
 have h := mkAll_ev hm 31 [1, 1, 1] one_mk (by
  rw [show rd [1, 1, 1] 2 = 1 from rfl, show (2 : Int) ^ (31 + 1) = 4294967296 by decide]
  omega) [] (by simp) .nil (by rw [hup]; simp; omega)
 rw [hup, List.nil_append] at h
 unfold spec_mkUpTo.f
 exact Ev.bind h (Ev.is rfl)
end Go.Proofs.Ytkdgpbcecnmdhaa.P
namespace Go.Proofs.Ytkdgpbcecnmdhaa.P
open Go.RowKit Go.Proofs.YtkdgpbcecnmdhaaW.PrintWords Go.Proofs.YtkdgpbcecnmdhaaW.PrintLast Go.Proofs.YtkdgpbcecnmdhaaW.PrintMore
theorem most_in (m : Int) : spec_mkMost.f m = some (inB 1 1000000000 m) := by
  unfold spec_mkMost.f spec_l1In.f inB
  by_cases h : 1 ≤ m <;> simp [h]
theorem within_most (m : Int) : impl_within.f m 1 1000000000 = some (inB 1 1000000000 m) := by
  unfold impl_within.f inB
  by_cases h : 1 ≤ m <;> simp [h]
theorem most_iff {m : Int} : inB 1 1000000000 m = true ↔ 1 ≤ m ∧ m ≤ 1000000000 := by simp [inB]
theorem allUpTo_len {m : Int} (hm : m ≤ 1000000000) : (allUpTo m).length ≤ 4294967296 := by
 unfold allUpTo
 rw [(sortM_perm _).length_eq]
 exact treeOf_len hm one_mk
theorem allUpTo_mk {m : Int} (hm : m ≤ 1000000000) : ∀ x ∈ allUpTo m, isMk x = true := by
 intro x hx
 unfold allUpTo at hx
 exact dfs_mk hm 31 [1, 1, 1] one_mk x ((sortM_perm _).mem_iff.1 hx)
theorem allUpTo_sorted (m : Int) : (allUpTo m).Pairwise fun a b => ¬ cfM b a < 0 := sortM_sorted _
end Go.Proofs.Ytkdgpbcecnmdhaa.P
namespace Go.Proofs.Ytkdgpbcecnmdhaa.P
open Go.RowKit Go.Proofs.YtkdgpbcecnmdhaaW.PrintWords Go.Proofs.YtkdgpbcecnmdhaaW.PrintLast Go.Proofs.YtkdgpbcecnmdhaaW.PrintMore
def addLast (o : List Int) (v : Int) : List Int := if o.getLast? = some v then o else o ++ [v]
theorem addLast_last (o : List Int) (v : Int) : (addLast o v).getLast? = some v := by
 unfold addLast
 split
 ·assumption
 ·simp
def numsOf (L : List Int) : List Int := L.foldl addLast []
theorem nums_snoc (L : List Int) (v : Int) : numsOf (L ++ [v]) = addLast (numsOf L) v := by simp [numsOf, List.foldl_append]
theorem compact_upto (L : List Int) : ∀ i, i ≤ L.length → Go.Lib.compactUpTo L.toArray i = numsOf (L.take i) ∧ (∀ h : i - 1 < L.length, 0 < i → (numsOf (L.take i)).getLast? = some L[i - 1])
 | 0, _ => by
  refine ⟨?_, fun h hi => absurd hi (Nat.lt_irrefl _)⟩
  simp [Go.Lib.compactUpTo, numsOf]
 | i + 1, hi => by
  obtain ⟨h1, h2⟩ := compact_upto L i (by omega)
  have hg : L.toArray[i]! = L[i] := by rw [getElem!_pos L.toArray i (by simp; omega)]; simp
  have ht : L.take (i + 1) = L.take i ++ [L[i]] := List.take_succ_eq_append_getElem (by omega)
  rw [ht, nums_snoc]
  refine ⟨?_, fun h _ => by rw [addLast_last]; rfl⟩
  rw [Go.Lib.compactUpTo_succ, h1, hg]
  unfold addLast
  by_cases h0 : i = 0
  ·subst h0
   simp [Go.Lib.keeps, numsOf]
  ·have hl := h2 (by omega) (by omega)
   have hg1 : L.toArray[i - 1]! = L[i - 1] := by rw [getElem!_pos L.toArray (i - 1) (by simp; omega)]; simp
   rw [hl]
   by_cases he : L[i] = L[i - 1]
   ·rw [Go.Lib.keeps_neg (by omega) (by rw [hg, hg1]; exact he)]
    simp [he]
   ·have he2 : ¬ L[i - 1] = L[i] := fun h => he h.symm
    rw [Go.Lib.keeps_pos (by rw [hg, hg1]; exact he)]
    simp [he2]
theorem compact_nums (L : List Int) : Go.Lib.compact L = numsOf L := by
 have := (compact_upto L L.length (Nat.le_refl _)).1
 rw [List.take_length] at this
 exact this
theorem nums_len (L : List Int) : (numsOf L).length ≤ L.length := by rw [← compact_nums]; exact compact_length L
def Rises (o : List Int) : Prop := o.Pairwise (· < ·)
theorem addLast_rises {o : List Int} (h : Rises o) {v : Int} (hv : ∀ x ∈ o, x ≤ v) : Rises (addLast o v) ∧ ∀ x ∈ addLast o v, x ≤ v := by
 unfold addLast
 by_cases hl : o.getLast? = some v
 ·rw [if_pos hl]
  exact ⟨h, hv⟩
 ·rw [if_neg hl]
  refine ⟨List.pairwise_append.2 ⟨h, by simp, fun a ha b hb => ?_⟩, fun x hx => ?_⟩
  ·rw [List.mem_singleton.1 hb]
   have h1 := hv a ha
   rcases Int.lt_or_eq_of_le h1 with h2 | h2
   ·exact h2
   ·exfalso
    subst h2
    have hne : o ≠ [] := List.ne_nil_of_mem ha
    rw [List.getLast?_eq_some_getLast hne] at hl
    have hlt : a < o.getLast hne := by
     obtain ⟨i, hi, rfl⟩ := List.getElem_of_mem ha
     rw [List.getLast_eq_getElem]
     rcases Nat.lt_or_ge i (o.length - 1) with h3 | h3
     ·exact List.pairwise_iff_getElem.1 h i (o.length - 1) hi (by omega) h3
     ·exfalso
      apply hl
      rw [List.getLast_eq_getElem]
      congr 2
      omega
    have := hv (o.getLast hne) (List.getLast_mem hne)
    omega
  ·rcases List.mem_append.1 hx with h2 | h2
   ·exact hv x h2
   ·rw [List.mem_singleton.1 h2]
    exact Int.le_refl _
theorem l1Put_ev {o : List Int} {v : Int} (hr : Rises o) (hv : ∀ x ∈ o, x ≤ v) (hl : o.length ≤ 5000000000) : Ev (fun k => spec_l1Put.f k o v) (addLast o v) := by
 have go : ∀ (d i : Nat), i + d = o.length → (∀ j, (h : j < o.length) → j < i → o[j] < v) → Ev (fun k => spec_l1Put.l0 k o v (i : Int)) (addLast o v) := by
  intro d
  induction d with
  | zero =>
   intro i hi hlo
   have hno : addLast o v = o ++ [v] := by
    unfold addLast
    rw [if_neg]
    intro h
    have hm := List.mem_of_getLast? h
    obtain ⟨j, hj, e⟩ := List.getElem_of_mem hm
    have := hlo j hj (by omega)
    omega
   refine Ev.step (f := fun _ => some (o ++ [v])) (fun k => ?_) (Ev.is (by rw [hno]))
   simp only [spec_l1Put.l0]
   rw [if_neg (by omega)]
   have c1 : (0 : Int) ≤ (i : Int) := by omega
   have c2 : (i : Int) ≤ (o.length : Int) := by omega
   have t1 : o.take i = o := List.take_of_length_le (by omega)
   have t2 : o.drop i = [] := List.drop_of_length_le (by omega)
   have c3 : o.length < 17592186044416 := by omega
   have c4 : (o ++ [v]).length < 17592186044416 := by rw [List.length_append, List.length_singleton]; omega
   simp only [Option.bind_some, c1, c2, if_true, Int.toNat_natCast, t1, t2, List.nil_append, List.length_nil, Nat.zero_add, Nat.add_zero, c3, c4, List.append_nil]
  | succ d ih =>
   intro i hi hlo
   have hil : i < o.length := by omega
   by_cases hlt : rd o (i : Int) < v
   ·have hr2 := ih (i + 1) (by omega) (fun j h hj => by
     rcases Nat.lt_or_eq_of_le (Nat.le_of_lt_succ hj) with h1 | h1
     ·exact hlo j h h1
     ·subst h1; rw [rd_lt o j h] at hlt; exact hlt)
    refine Ev.step (fun k => ?_) hr2
    simp only [spec_l1Put.l0]
    rw [if_pos (by omega), if_pos (by omega), if_pos hlt, w64_succ hil (by omega)]
   ·have he : rd o (i : Int) = v := by
     have := hv o[i] (List.getElem_mem hil)
     rw [← rd_lt o i hil] at this
     omega
    have hlast : addLast o v = o := by
     unfold addLast
     rw [if_pos]
     have hne : o ≠ [] := by intro h; rw [h] at hil; simp at hil
     rw [List.getLast?_eq_some_getLast hne, List.getLast_eq_getElem]
     rcases Nat.lt_or_ge i (o.length - 1) with h3 | h3
     ·exfalso
      have h4 := List.pairwise_iff_getElem.1 hr i (o.length - 1) hil (by omega) h3
      rw [← rd_lt o i hil, he] at h4
      have := hv o[o.length - 1] (List.getElem_mem (by omega))
      omega
     ·rw [← he, rd_lt o i hil]
      congr 2
      omega
    refine Ev.step (f := fun _ => some o) (fun k => ?_) (Ev.is (by rw [hlast]))
    simp only [spec_l1Put.l0]
    rw [if_pos (by omega), if_pos (by omega), if_neg hlt, if_pos he]
 unfold spec_l1Put.f
 exact go o.length 0 (by omega) (fun j h hj => by omega)
theorem cfM_le {a b : List Int} (h : ¬ cfM b a < 0) : rd a 2 ≤ rd b 2 := by
  unfold cfM at h
  split at h <;> omega
end Go.Proofs.Ytkdgpbcecnmdhaa.P
namespace Go.Proofs.Ytkdgpbcecnmdhaa.P
open Go.RowKit Go.Proofs.YtkdgpbcecnmdhaaW.PrintWords Go.Proofs.YtkdgpbcecnmdhaaW.PrintLast Go.Proofs.YtkdgpbcecnmdhaaW.PrintMore
theorem isMk_three {l : List Int} (h : isMk l = true) : ∃ x y z, l = [x, y, z] := by
 rcases Nat.decEq l.length 3 with h4 | h4
 ·rw [isMk_no l h4] at h; simp at h
 ·exact three_of l h4
def downOf (l : List Int) : List Int × Bool := match l with
  | [x, y, z] => if isMk [x, y, z] && !decide (z = 1) then (mv x y z 2, true) else ([], false)
  | _ => ([], false)
theorem downOf_no {l : List Int} (h : isMk l = false) : downOf l = ([], false) := by
 match l, h with
 | [x, y, z], h => show (if _ then _ else _) = _; rw [h]; rfl
 | [], _ => rfl
 | [_], _ => rfl
 | [_, _], _ => rfl
 | _ :: _ :: _ :: _ :: _, _ => rfl
theorem Down_ev (l : List Int) : Ev (fun k => impl_MarkovDown.f k l) (downOf l) := by
 have hI := IsMarkov_ev l
 unfold impl_MarkovDown.f
 cases h : isMk l with
 | false =>
  rw [h] at hI
  rw [downOf_no h]
  refine Ev.bind hI ?_
  simp only [Bool.false_eq_true, if_false]
  exact Ev.is rfl
 | true =>
  rw [h] at hI
  obtain ⟨x, y, z, rfl⟩ := isMk_three h
  have hl : (([x, y, z] : List Int).length : Int) = 3 := rfl
  have r2 : rd [x, y, z] 2 = z := rfl
  have c : (2 : Int) < 3 := by decide
  have hv := moved_is h 2 (Nat.le_refl 2)
  rw [show ((2 : Nat) : Int) = 2 from rfl] at hv
  by_cases h1 : z = 1
  ·have hdo : downOf [x, y, z] = ([], false) := by
    show (if _ then _ else _) = _
    rw [h, decide_eq_true h1]
    rfl
   rw [hdo]
   refine Ev.bind hI ?_
   simp only [if_true, hl, r2, c, h1]
   exact Ev.is rfl
  ·have hdo : downOf [x, y, z] = (mv x y z 2, true) := by
    show (if _ then _ else _) = _
    rw [h, decide_eq_false h1]
    rfl
   rw [hdo]
   refine Ev.bind hI ?_
   simp only [if_true, hl, r2, c, h1, if_false, hv]
   exact Ev.is rfl
theorem srt_id {x y z : Int} (h1 : x ≤ y) (h2 : y ≤ z) : srt x y z = [x, y, z] := by
  rcases srt_cases x y z with ⟨c1, c2, e⟩ | ⟨c1, c2, e⟩ | ⟨c1, c2, e⟩ | ⟨c1, c2, e⟩ | ⟨c1, c2, e⟩ | ⟨c1, c2, e⟩ <;> rw [e] <;> first | rfl | (simp only [List.cons.injEq, and_true, true_and]; omega) | (obtain rfl : x = y := by omega; obtain rfl : x = z := by omega; rfl)
theorem up_back {most : Int} (hm : most ≤ 1000000000) {l u : List Int} (h : isMk l = true) (hu : u ∈ upsL most l) : downOf u = (l, true) ∧ rd l 2 < rd u 2 := by
 have hmk := upsL_mk hm h hu
 obtain ⟨x, y, z, rfl⟩ := isMk_three h
 obtain ⟨h1, h2, h3, h4, h5, h6⟩ := isMk_iff.1 h
 obtain ⟨b1, b2, b3⟩ := up_big h
 replace hu : u ∈ (if 3 * x * z - y ≤ most then [[x, z, 3 * x * z - y]] else []) ++ (if 3 * y * z - x ≤ most ∧ x ≠ y then [[y, z, 3 * y * z - x]] else []) := hu
 have hgo : ∀ a b n : Int, isMk [a, b, n] = true → n ≠ 1 → srt a b (3 * a * b - n) = [x, y, z] → downOf [a, b, n] = ([x, y, z], true) := by
  intro a b n hk hn hs
  show (if _ then _ else _) = _
  rw [hk, decide_eq_false hn]
  show (srt a b (3 * a * b - n), true) = _
  rw [hs]
 have hsid := srt_id h4 h5
 rcases List.mem_append.1 hu with hu | hu
 ·split at hu
  ·obtain rfl := List.mem_singleton.1 hu
   refine ⟨hgo _ _ _ hmk.1 (by omega) ?_, by show z < 3 * x * z - y; omega⟩
   rw [show 3 * x * z - (3 * x * z - y) = y by omega, ← hsid, srt_rot x y z, srt_rot y z x, srt_ex]
  ·simp at hu
 ·split at hu
  ·obtain rfl := List.mem_singleton.1 hu
   refine ⟨hgo _ _ _ hmk.1 (by omega) ?_, by show z < 3 * y * z - x; omega⟩
   rw [show 3 * y * z - (3 * y * z - x) = x by omega, ← hsid, srt_rot x y z]
  ·simp at hu
theorem dSame_from (a b : List Int) (hl : a.length = b.length) (hn : a.length ≤ 4611686018427387904) (d : Nat) : ∀ i : Nat, i + d = a.length → a.take i = b.take i → Ev (fun k => laws_dSame.l0 k a b (a.length : Int) (i : Int)) (decide (a = b)) := by
 induction d with
 | zero =>
  intro i hi ht
  rw [List.take_of_length_le (by omega), List.take_of_length_le (by omega)] at ht
  refine Ev.step (fun k => by simp only [laws_dSame.l0]; rw [if_neg (by omega)]) ?_
  exact Ev.is (by rw [decide_eq_true ht])
 | succ d ih =>
  intro i hi ht
  by_cases h : rd a (i : Int) = rd b (i : Int)
  ·have hr := ih (i + 1) (by omega) (by rw [List.take_succ_eq_append_getElem (by omega), List.take_succ_eq_append_getElem (by omega), ht, ← rd_lt a i (by omega), ← rd_lt b i (by omega), h])
   exact Ev.step (fun k => by simp only [laws_dSame.l0]; rw [if_pos (by omega), if_pos (by omega), if_pos (by omega), if_pos (by omega), if_pos h, w64_succ (n := a.length) (by omega) hn]) hr
  ·have hd : decide (a = b) = false := decide_eq_false (fun e => h (by rw [e]))
   exact Ev.step (f := fun _ => some false) (fun k => by simp only [laws_dSame.l0]; rw [if_pos (by omega), if_pos (by omega), if_pos (by omega), if_pos (by omega), if_neg h]) (Ev.is (by rw [hd]))
theorem dSame_ev (a b : List Int) (hn : a.length ≤ 4611686018427387904) : Ev (fun k => laws_dSame.f k a b) (decide (a = b)) := by
 unfold laws_dSame.f
 by_cases hl : a.length = b.length
 ·simp only [hl, if_true]
  have := dSame_from a b hl hn a.length 0 (by omega) rfl
  rw [hl] at this
  exact this
 ·have h : ¬ (a.length : Int) = (b.length : Int) := by omega
  simp only [h, if_false]
  have hd : decide (a = b) = false := decide_eq_false (fun e => hl (by rw [e]))
  exact Ev.is (by rw [hd])
end Go.Proofs.Ytkdgpbcecnmdhaa.P
namespace Go.Proofs.Ytkdgpbcecnmdhaa.P
open Go.RowKit Go.Proofs.YtkdgpbcecnmdhaaW.PrintWords Go.Proofs.YtkdgpbcecnmdhaaW.PrintLast Go.Proofs.YtkdgpbcecnmdhaaW.PrintMore
theorem rdL1_get (L : List (List Int)) (i : Nat) (hi : i < L.length) : rd_L1 L (i : Int) = L[i] := by
 unfold rd_L1
 rw [Int.toNat_natCast, List.getD_eq_getElem?_getD, List.getElem?_eq_getElem hi]
 rfl
theorem dLists_from (W : List (List Int)) (hn : W.length ≤ 5000000000) (hs : ∀ x ∈ W, x.length ≤ 1000000) (d : Nat) : ∀ i : Nat, i + d = W.length → Ev (fun k => laws_dLists.l0 k W W (W.length : Int) (i : Int)) true := by
 induction d with
 | zero =>
  intro i hi
  exact Ev.step (f := fun _ => some true) (fun k => by simp only [laws_dLists.l0]; rw [if_neg (by omega)]) (Ev.is rfl)
 | succ d ih =>
  intro i hi
  have hil : i < W.length := by omega
  have hv := dSame_ev W[i] W[i] (by have := hs _ (List.getElem_mem hil); omega)
  rw [decide_eq_true rfl] at hv
  refine Ev.step (f := fun k => (laws_dSame.f k W[i] W[i]).bind fun t => if t = true then laws_dLists.l0 k W W (W.length : Int) ((i + 1 : Nat) : Int) else some false) (fun k => ?_) (Ev.bind hv ?_)
  ·simp only [laws_dLists.l0]
   rw [if_pos (by omega), if_pos (by omega), if_pos (by omega), if_pos (by omega), rdL1_get W i hil, w64_succ (n := W.length) (by omega) (by omega)]
  ·simp only [if_true]
   exact ih (i + 1) (by omega)
theorem dLists_ev (W : List (List Int)) (hn : W.length ≤ 5000000000) (hs : ∀ x ∈ W, x.length ≤ 1000000) : Ev (fun k => laws_dLists.f k W W) true := by
 unfold laws_dLists.f
 simp only [if_true]
 exact dLists_from W hn hs W.length 0 (by omega)
end Go.Proofs.Ytkdgpbcecnmdhaa.P
