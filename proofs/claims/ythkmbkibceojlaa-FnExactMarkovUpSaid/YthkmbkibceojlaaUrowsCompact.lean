/- slices.CompactFunc at rows with slices.Equal: a sorted row of rows loses its doubles. -/
import Derived.Test.YthkmbkibceojlaaUrowsSS
import Derived.Test.YthkmbkibceojlaaUcmp
import Derived.Test.YthkmbkibceojlaaUscalar
import Derived.Shelf.RegionOpenPlain
import Derived.WalkKit
import Derived.Deep.LoopGhost
import Derived.Deep.Draws
import Derived.Lib.Walk
import Derived.Sort.WalkB12
import Derived.Lib.SliceRun
import Derived.Lib.SlKept
import Derived.Shelf.SlicesE.Kit
import Derived.Sort.WalkA
namespace Go.Proofs.Ythkmbkibceojlaa.P
set_option linter.unusedVariables false
set_option linter.unusedSimpArgs false
open Go.Shelf Go.Lib Go.Sort Go.RowKit Go.Proofs.YthkmbkibceojlaaW.PrintWords Go.Proofs.YthkmbkibceojlaaW.PrintLast

/-- Which places are kept. -/
def kpOf {α : Type} [Inhabited α] (p : α → α → Bool) (d : Array α) (j : Nat) : Bool := j == 0 || !p d[j]! d[j - 1]!

set_option maxHeartbeats 4000000 in
set_option maxRecDepth 1000000 in
theorem compact_walk {α : Type} [Inhabited α] (enc : α → Value) (hO : OneCell enc) (p : α → α → Bool) (zr : α) (hz : enc zr = .slice none 0 0) (blk off cap : Nat) (d : Array α) (w : World)
    (hp : ∀ (dk : Array α) (u v : α) (q : Nat), dk.size = d.size → Calls Try.prog 107 #[enc u, enc v] (putRow enc (Sort.ahead w q) blk off dk) fun e w' => e = .returned (.bool (p u v)) ∧ ∃ qq, w' = (putRow enc (Sort.ahead w q) blk off dk).drewN qq)
    (hH : Holds enc w blk off d) (hsz : d.size ≤ 9223372036854775807) (hcap : d.size ≤ cap) :
    Calls Try.prog 106 #[.slice (some ⟨blk, off, none⟩) d.size cap, .func (.func 107) #[] #[]] w fun e w' => e = .returned (.slice (some ⟨blk, off, none⟩) (keptUpTo (kpOf p d) d d.size).length cap) ∧ ∃ q, w' = putRow enc (Sort.ahead w q) blk off (keptUpTo (kpOf p d) d d.size ++ List.replicate (d.size - (keptUpTo (kpOf p d) d d.size).length) zr).toArray := by
  have eg : ∀ args w, (callFunc 107 args).run Try.prog w = .ok (.enter 107 args) w := fun args w => enters_of Try.func107 (by kernel_rfl) rfl args w
  have t39 := Try.underlying39
  have t22 := Try.underlying22
  have hcl0 := hO.cells
  simp only [Value.cells] at hcl0
  have hst := hO.store Try.prog
  obtain ⟨kp, HK⟩ : ∃ kp : Nat → Bool, Hid (kp = kpOf p d) := ⟨_, rfl⟩
  rw [← HK.out]
  have hk0 : kp 0 = true := by rw [HK.out]; rfl
  have same : ∀ q, (∀ j, j < d.size → kp j = true) → (keptUpTo kp d d.size).length = d.size ∧ putRow enc (Sort.ahead w q) blk off d = putRow enc (Sort.ahead w q) blk off (keptUpTo kp d d.size ++ List.replicate (d.size - (keptUpTo kp d d.size).length) zr).toArray := by
    intro q hall
    have e : keptUpTo kp d d.size = d.toList := by rw [keptUpTo_all kp d _ hall, range_map_get]
    rw [e]
    refine ⟨by simp, ?_⟩
    simp only [Array.length_toList, Nat.sub_self, List.replicate_zero, List.append_nil, Array.toArray_toList]
  have HS : Aside (∀ q, (∀ j, j < d.size → kp j = true) → (keptUpTo kp d d.size).length = d.size ∧ putRow enc (Sort.ahead w q) blk off d = putRow enc (Sort.ahead w q) blk off (keptUpTo kp d d.size ++ List.replicate (d.size - (keptUpTo kp d d.size).length) zr).toArray) := same
  have HP : Aside (∀ (dk : Array α) (u v : α) (q : Nat), dk.size = d.size → Calls Try.prog 107 #[enc u, enc v] (putRow enc (Sort.ahead w q) blk off dk) fun e w' => e = .returned (.bool (p u v)) ∧ ∃ qq, w' = (putRow enc (Sort.ahead w q) blk off dk).drewN qq) := hp
  have HH : Aside (Holds enc w blk off d) := hH
  have ZR : Aside (enc zr = .slice none 0 0) := hz
  have HCL : Aside (OneCell enc) := hO
  clear same hp hH hz hO
  by_cases h2 : d.size < 2
  · have hsm : Aside (∀ j, j < d.size → kp j = true) := fun j hj => by
      obtain rfl : j = 0 := by omega
      exact hk0
    go_enter Try.func106, Try.ntmps106
    go_wp2
    go_ret
    obtain ⟨e1, e2⟩ := HS.out 0 hsm.out
    refine ⟨by rw [e1]; rfl, 0, ?_⟩
    rw [← e2]
    exact (putRow_self enc (Sort.ahead w 0) blk off d (holds_ahead enc w 0 blk off d HH.out)).symm
  · go_enter Try.func106, Try.ntmps106
    go_wp2
    go_loopg [5] d.size (fun g s3 wr => ∃ k q : Nat, 1 ≤ k ∧ k ≤ d.size ∧ d.size - k ≤ g ∧ s3 = .int .i64 k ∧ wr = putRow enc (Sort.ahead w q) blk off d ∧ Aside (∀ j, j < k → kp j = true))
    case atStart =>
      refine ⟨1, 0, Nat.le_refl _, by omega, by omega, rfl, (putRow_self enc (Sort.ahead w 0) blk off d (holds_ahead enc w 0 blk off d HH.out)).symm, (show Aside _ from fun j hj => ?_)⟩
      obtain rfl : j = 0 := by omega
      exact hk0
    case round =>
      obtain ⟨k, q, hk1, hk, hg, rfl, hwr, A⟩ := hrel
      have W2 : Aside (wr = putRow enc (Sort.ahead w q) blk off d) := hwr
      have hHk : Holds enc wr blk off d := by rw [hwr]; exact holds_putRow enc _ blk off d d (holds_ahead enc w q blk off d HH.out) rfl
      by_cases hlt : k < d.size
      · have hc : ∀ n, Calls Try.prog 107 #[enc d[k]!, enc d[k - 1]!] (wr.drewN n) fun e w' => e = .returned (.bool (p d[k]! d[k - 1]!)) ∧ ∃ m, w' = (wr.drewN n).drewN m := fun n => by
          have := HP.out d d[k]! d[k - 1]! (q + n) rfl
          rw [← putRow_drewN, ← hwr] at this
          exact this
        obtain ⟨c1, f1⟩ := hHk k hlt
        obtain ⟨c0, f0⟩ := hHk (k - 1) (by omega)
        clear hHk hwr
        generalize hx : d[k]! = x at c1 hc
        generalize hy : d[k - 1]! = y at c0 hc
        have B : Aside (d[k]! = x ∧ d[k - 1]! = y) := ⟨hx, hy⟩
        clear hx hy
        obtain ⟨jp, rfl⟩ : ∃ jp, k = jp + 1 := ⟨k - 1, by omega⟩
        simp only [Nat.add_sub_cancel] at c0 f0
        have hwp : IntKind.i64.wrap (jp : Int) = (jp : Int) := by rw [IntKind.wrap_i64]; omega
        have jz : (jp : Int) + 1 < (d.size : Int) := by omega
        have jz1 : (jp : Int) < (d.size : Int) := by omega
        have p0 : (0 : Int) ≤ (jp : Int) + 1 := by omega
        have e0 : ((jp : Int) + 1).toNat = jp + 1 := by omega
        have c1' : wr.cell? ⟨blk, off + (jp + 1), none⟩ = some (enc x) := c1
        have c0' : wr.cell? ⟨blk, off + jp, none⟩ = some (enc y) := c0
        clear c1 c0 f1 f0
        cases hq : p x y with
        | true =>
          rw [hq] at hc
          have hdup : Aside (kp (jp + 1) = false) := (by
            show kp (jp + 1) = false
            rw [HK.out]
            unfold kpOf
            rw [B.out.1, B.out.2, hq]
            simp)
          go_wp2_with fail
          go_quiet (first | (go_at_call 107; refine Calls.quiet_of (hc _)))
          clear c1' c0' hc
          have W3 : Aside (wr.drewN nq = putRow enc (Sort.ahead w (q + nq)) blk off d) := by show _ = _; rw [W2.out]; exact putRow_drewN _ _ _ _ _ _ _
          generalize wr.drewN nq = wr3 at W3 ⊢
          go_wp2
          go_loopg [5, 7] d.size (fun g s5 s7 wr => ∃ (kk k2 q2 : Nat) (dk : Array α), s5 = .int .i64 kk ∧ s7 = .int .i64 k2 ∧ 1 ≤ k2 ∧ jp + 1 + k2 ≤ d.size ∧ d.size - (jp + 1 + k2) ≤ g ∧ wr = putRow enc (Sort.ahead w q2) blk off dk ∧ Aside (KeptInv kp d (jp + 1 + k2) kk dk))
          case atStart => exact ⟨jp + 1, 1, q + nq, d, by go_num, rfl, Nat.le_refl _, by omega, by omega, W3.out, KeptInv.start A.out hdup.out⟩
          case round =>
            clear W3 W2 hdup
            obtain ⟨kk, k2, q2, dk, rfl, rfl, h1, hle, hg2, hwr, I2⟩ := hrel
            have hkk := I2.out.lt
            have hds := I2.out.size
            have hHk : Holds enc wr blk off dk := by rw [hwr]; exact holds_putRow enc _ blk off d dk (holds_ahead enc w q2 blk off d HH.out) hds
            have W5 : Aside (wr = putRow enc (Sort.ahead w q2) blk off dk) := hwr
            obtain ⟨j2, rfl⟩ : ∃ j2, k2 = j2 + 1 := ⟨k2 - 1, by omega⟩
            by_cases hlt2 : jp + 1 + (j2 + 1) < d.size
            · have hc : ∀ n, Calls Try.prog 107 #[enc d[jp + 1 + (j2 + 1)]!, enc d[jp + 1 + j2]!] (wr.drewN n) fun e w' => e = .returned (.bool (p d[jp + 1 + (j2 + 1)]! d[jp + 1 + j2]!)) ∧ ∃ m, w' = (wr.drewN n).drewN m := fun n => by
                have := HP.out dk d[jp + 1 + (j2 + 1)]! d[jp + 1 + j2]! (q2 + n) hds
                rw [← putRow_drewN, ← hwr] at this
                exact this
              obtain ⟨cm, _⟩ := hHk (jp + 1 + (j2 + 1)) (by omega)
              obtain ⟨cp, _⟩ := hHk (jp + 1 + j2) (by omega)
              obtain ⟨ck, fk⟩ := hHk kk (by omega)
              rw [I2.out.high (jp + 1 + (j2 + 1)) (by omega)] at cm
              rw [I2.out.high (jp + 1 + j2) (by omega)] at cp
              have cm' : wr.cell? ⟨blk, off + (jp + 1) + (j2 + 1), none⟩ = some (enc d[jp + 1 + (j2 + 1)]!) := by rw [← cm]; congr 2; omega
              have cp' : wr.cell? ⟨blk, off + (jp + 1) + j2, none⟩ = some (enc d[jp + 1 + j2]!) := by rw [← cp]; congr 2; omega
              clear hHk hwr cm cp
              generalize hu : d[jp + 1 + (j2 + 1)]! = u at cm' hc
              generalize hv : d[jp + 1 + j2]! = v at cp' hc
              generalize dk[kk]! = old at ck
              have C : Aside (d[jp + 1 + (j2 + 1)]! = u ∧ d[jp + 1 + j2]! = v) := ⟨hu, hv⟩
              clear hu hv
              have hwp2 : IntKind.i64.wrap (j2 : Int) = (j2 : Int) := by rw [IntKind.wrap_i64]; omega
              have y1 : (jp : Int) + 1 + ((j2 : Int) + 1) < (d.size : Int) := by omega
              have y2 : (j2 : Int) + 1 < (d.size : Int) - ((jp : Int) + 1) := by omega
              have y3 : (j2 : Int) < (d.size : Int) - ((jp : Int) + 1) := by omega
              have y4 : (0 : Int) ≤ (j2 : Int) + 1 := by omega
              have y5 : ((j2 : Int) + 1).toNat = j2 + 1 := by omega
              have y6 : (kk : Int) < (d.size : Int) := by omega
              have y7 : ((d.size - (jp + 1) : Nat) : Int) = (d.size : Int) - ((jp : Int) + 1) := by omega
              cases hq2 : p u v with
              | true =>
                rw [hq2] at hc
                go_wp2_with fail
                go_quiet (first | (go_at_call 107; refine Calls.quiet_of (hc _)))
                go_wp2
                go_roundg (d.size - (jp + 1 + (j2 + 1 + 1)))
                case measure => omega
                case rel => exact ⟨kk, j2 + 1 + 1, q2 + nq, dk, rfl, by go_num, by omega, by omega, Nat.le_refl _, by rw [W5.out]; exact putRow_drewN _ _ _ _ _ _ _, I2.out.skip (by rw [HK.out]; unfold kpOf; rw [show jp + 1 + (j2 + 1) - 1 = jp + 1 + j2 by omega, C.out.1, C.out.2, hq2]; simp)⟩
              | false =>
                rw [hq2] at hc
                go_wp2_with fail
                go_quiet (first | (go_at_call 107; refine Calls.quiet_of (hc _)))
                go_wp2_with fail
                have W6 : Aside (wr.drewN nq = putRow enc (Sort.ahead w (q2 + nq)) blk off dk) := by show _ = _; rw [W5.out]; exact putRow_drewN _ _ _ _ _ _ _
                have cm2 : (wr.drewN nq).cell? ⟨blk, off + (jp + 1) + (j2 + 1), none⟩ = some (enc u) := cm'
                have ck2 : (wr.drewN nq).cell? ⟨blk, off + kk, none⟩ = some (enc old) := ck
                have fk2 : (wr.drewN nq).frozen? ⟨blk, off + kk, none⟩ = false := fk
                clear cm' cp' ck fk hc
                generalize wr.drewN nq = wr6 at W6 cm2 ck2 fk2 ⊢
                go_wp2
                go_roundg (d.size - (jp + 1 + (j2 + 1 + 1)))
                case measure => omega
                case rel =>
                  refine ⟨kk + 1, j2 + 1 + 1, q2 + nq, dk.setIfInBounds kk u, by go_num, by go_num, by omega, by omega, Nat.le_refl _, ?_, (show Aside _ from ?_)⟩
                  · rw [W6.out]
                    exact putRow_set enc _ blk off dk kk u (by omega)
                  · have := I2.out.keep hlt2 (by rw [HK.out]; unfold kpOf; rw [show jp + 1 + (j2 + 1) - 1 = jp + 1 + j2 by omega, C.out.1, C.out.2, hq2]; simp)
                    rwa [C.out.1] at this
            · have hend : jp + 1 + (j2 + 1) = d.size := by omega
              have hcl : ∀ ty, (Builtin.clear_ #[39] ty #[.slice (some ⟨blk, off + kk, none⟩) (d.size - kk) (cap - kk)]).run Try.prog wr = .ok (.tuple #[]) (wr.setCells blk (off + kk) (List.replicate (d.size - kk) (enc zr))) :=
                fun ty => Lib.run_clear_slice wr _ _ ty _ t39 (fun w => by rw [ZR.out]; exact Try.zeroValue22 w) (HCL.out.cells zr) (HCL.out zr) blk (off + kk) _ _ (by omega) (fun j hj => by rw [show off + kk + j = off + (kk + j) by omega, (hHk (kk + j) (by omega)).1]; rfl) (fun j hj => by rw [show off + kk + j = off + (kk + j) by omega]; exact (hHk (kk + j) (by omega)).2)
              have y4 : (0 : Int) ≤ (j2 : Int) + 1 := by omega
              have y2 : ¬ (j2 : Int) + 1 < (d.size : Int) - ((jp : Int) + 1) := by omega
              have y7 : ((d.size - (jp + 1) : Nat) : Int) = (d.size : Int) - ((jp : Int) + 1) := by omega
              clear hHk hwr
              go_wp2
              go_ret
              have hI := I2.out
              rw [hend] at hI
              refine ⟨by rw [hI.len]; rfl, q2, ?_⟩
              rw [hI.len, ← hI.done zr, ← putRow_setCells enc _ blk off _ dk kk (by simp; omega), ← W5.out, List.map_replicate]
        | false =>
          rw [hq] at hc
          go_wp2_with fail
          go_quiet (first | (go_at_call 107; refine Calls.quiet_of (hc _)))
          go_wp2
          go_roundg (d.size - (jp + 1 + 1))
          case measure => omega
          case rel =>
            refine ⟨jp + 1 + 1, q + nq, by omega, by omega, Nat.le_refl _, by go_num, by rw [W2.out]; exact putRow_drewN _ _ _ _ _ _ _, (show Aside _ from fun j hj => ?_)⟩
            by_cases e : j = jp + 1
            · subst e
              rw [HK.out]
              unfold kpOf
              rw [B.out.1, B.out.2, hq]
              simp
            · exact A.out j (by omega)
      · have : k = d.size := by omega
        subst this
        clear hHk hwr
        go_wp2
        go_ret
        obtain ⟨e1, e2⟩ := HS.out q A.out
        exact ⟨by rw [e1]; rfl, q, by rw [← e2]; exact W2.out⟩
end Go.Proofs.Ythkmbkibceojlaa.P
