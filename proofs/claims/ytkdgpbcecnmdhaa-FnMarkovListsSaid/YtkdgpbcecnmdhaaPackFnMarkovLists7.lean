/- All triples up to a bound are told in order, with all that are below them, and each number is the greatest one of those that are told. No condition. -/
import Derived.Test.YtkdgpbcecnmdhaaPackFnMarkovLists6
import Derived.Shelf.SlicesE.DeleteFunc
set_option linter.unusedVariables false
set_option linter.unusedSimpArgs false
namespace Go.Proofs.Ytkdgpbcecnmdhaa.P
open Go.Shelf Go.RowKit Go.Proofs.YtkdgpbcecnmdhaaW.PrintWords Go.Proofs.YtkdgpbcecnmdhaaW.PrintLast
theorem with_enters : ∀ args w, (callFunc 39 args).run Try.prog w = .ok (.enter 39 args) w := fun args w => enters_of Try.func39 (by kernel_rfl) rfl args w
set_option maxHeartbeats 1000000 in
set_option maxRecDepth 100000 in
theorem with_at (W : World) (A : Option Addr) (c : Nat) (x : List Int) (b : Nat) (n : Int) (hx : 2 < x.length) (h1 : Kd.C (Kd.int .i64) W A x.length x) (h2 : x.length ≤ c) (hb : W.heap[b]? = some (.cells #[.int .i64 n] 3 (0, 0))) : Go.Proofs.FnGives Try.prog 39 #[.pointer (some ⟨b, 0, none⟩)] #[.slice A x.length c] (.bool (rd x 2 != n)) W := by
 show Calls Try.prog 39 #[.slice A x.length c, .pointer (some ⟨b, 0, none⟩)] W fun e w' => e = .returned (.bool (rd x 2 != n)) ∧ ∃ q, w' = W.drewN q
 have p1 : 0 ≤ (2 : Int) := by omega
 have q1 : 2 < (x.length : Int) := by omega
 obtain ⟨ad1, e1, hx1⟩ := Kd.at_int h1 2 p1 q1
 cases e1
 (try simp only [show (2 : Int).toNat = 2 from rfl, Nat.reduceMul, Nat.reduceEqDiff, Go.Addr.add, ↓reduceIte] at hx1)
 have qi1 : (2 < x.length) = True := eq_true (by omega)
 have hcb : W.cell? ⟨b, 0, none⟩ = some (.int .i64 n) := by simp [World.cell?, hb]
 clear h1 hb hx
 generalize rd x 2 = a at *
 by_cases e : a = n
 ·have eb0 : (a == n) = true := beq_iff_eq.mpr e
  have eb1 : (a != n) = false := bne_eq_false_iff_eq.mpr e
  rw [eb1]
  clear e
  go_enter Try.func39, Try.ntmps39
  go_wp2
  repeat (go_quiet (fail); try go_wp2)
  go_ret
  exact ⟨by first | rfl | (simp [*]; done), _, rfl⟩
 ·have eb0 : (a == n) = false := beq_eq_false_iff_ne.mpr e
  have eb1 : (a != n) = true := bne_iff_ne.mpr e
  rw [eb1]
  clear e
  go_enter Try.func39, Try.ntmps39
  go_wp2
  repeat (go_quiet (fail); try go_wp2)
  go_ret
  exact ⟨by first | rfl | (simp [*]; done), _, rfl⟩
def encO {α : Type} (enc : α → Value) : Option α → Value
  | none => .slice none 0 0
  | some x => enc x
def pO {α : Type} (p : α → Bool) : Option α → Bool
  | none => true
  | some x => p x
theorem filter_some {α : Type} (p : α → Bool) (l : List α) : (l.map some).filter (fun x => !pO p x) = (l.filter fun x => !p x).map some := by
 induction l with
 | nil => rfl
 | cons x l ih =>
  simp only [List.map_cons, List.filter_cons, ih]
  cases h : p x <;> simp [pO, h]
set_option maxHeartbeats 4000000 in
set_option maxRecDepth 1000000 in
open Go.Lib Go.Sort in
theorem delete_walk {α : Type} [Inhabited α] (enc : α → Value) (hO1 : OneCell enc) (p : α → Bool) (g : Nat) (lb : Array Value) (eg : ∀ args w, (callFunc g args).run Try.prog w = .ok (.enter g args) w)
  (blk off cap : Nat) (d : Array α) (w : World) (hp : Go.Proofs.PredAt Try.prog g lb enc p w) (hcallAt : ∀ (dk : Array (Option α)) (u : α) (q : Nat), dk.size = d.size → Calls Try.prog g (#[enc u] ++ lb) (putRow (encO enc) (Sort.ahead w q) blk off dk) fun e w' => e = .returned (.bool (p u)) ∧ ∃ qq, w' = (putRow (encO enc) (Sort.ahead w q) blk off dk).drewN qq)
  (hH : Holds (encO enc) w blk off (d.map some)) (hsz : d.size ≤ 9223372036854775807) (hcap : d.size ≤ cap) :
  Calls Try.prog 38 #[.slice (some ⟨blk, off, none⟩) d.size cap, .func (.func g) #[] lb] w fun e w' => e = .returned (.slice (some ⟨blk, off, none⟩) (d.toList.filter fun x => !p x).length cap) ∧ ∃ q, w' = putRow (encO enc) (Sort.ahead w q) blk off ((d.toList.filter fun x => !p x).map some ++ List.replicate (d.size - (d.toList.filter fun x => !p x).length) none).toArray := by
 have hO : OneCell (encO enc) := fun x => by cases x with
  | none => rfl
  | some x => exact hO1 x
 have t39 := Try.underlying25
 have t22 := Try.underlying30
 have hcl0 := hO.cells
 simp only [Value.cells] at hcl0
 have hst := hO.store Try.prog
 have hcl1 := hO1.cells
 simp only [Value.cells] at hcl1
 have hst1 := hO1.store Try.prog
 have hds : (d.map some).size = d.size := Array.size_map ..
 have tl : ∀ j, j < d.size → d.toList[j]! = d[j]! := fun j hj => by rw [getElem!_pos d j hj, getElem!_pos d.toList j (by simpa using hj)]; simp
 have tm : ∀ j, j < d.size → (d.map some)[j]! = some d[j]! := fun j hj => by rw [getElem!_pos d j hj, getElem!_pos (d.map some) j (by simpa using hj)]; simp
 have hcI : ∀ j, j < d.toList.length → w.cell? ⟨blk, off + j, none⟩ = some (enc d.toList[j]!) := fun j hj => by
  have hj' : j < d.size := by simpa using hj
  rw [(hH j (by rw [hds]; exact hj')).1, tl j hj', tm j hj']
  rfl
 have hIF := AnyE.slices_IndexFunc (P := Try.prog) (ρ := Try.laysSlH10_f38_ren) { Try.laysSlH10_f38 with } enc p g lb eg blk off d.size cap d.toList w hp (by simp) hsz hcI
 rw [show d.toList.take d.size = d.toList from List.take_of_length_le (by simp)] at hIF
 obtain ⟨kp, HK⟩ : ∃ kp : Nat → Bool, Hid (kp = fun j => !pO p (d.map some)[j]!) := ⟨_, rfl⟩
 have hfil : (d.toList.filter fun x => !p x).map some = keptUpTo kp (d.map some) (d.map some).size := by
  rw [HK.out, keptUpTo_filter (fun x => !pO p x) (d.map some)]
  simp only [Array.toList_map]
  rw [filter_some]
 have hfl : (d.toList.filter fun x => !p x).length = (keptUpTo kp (d.map some) (d.map some).size).length := by rw [← hfil, List.length_map]
 rw [hfil, hfl, hds]
 have hIG : Calls Try.prog 52 #[.slice (some ⟨blk, off, none⟩) d.size cap, .func (.func g) #[] lb] w fun e w' => e = .returned (.int .i64 (Lib.idxBy (fun _ y => p y) d.toList default)) ∧ ∃ q, w' = w.drewN q := hIF
 clear hIF
 rcases Go.Proofs.idxByFrom_spec (fun _ y => p y) default d.toList 0 with ⟨e1, hall⟩ | ⟨k0, hk0, e1, ht, hall⟩
 ·have e2 : Lib.idxBy (fun _ y => p y) d.toList default = -1 := e1
  rw [e2] at hIG
  have hkeep : ∀ j, j < (d.map some).size → kp j = true := fun j hj => by
   rw [hds] at hj
   rw [HK.out]
   show (!pO p (d.map some)[j]!) = true
   rw [tm j hj]
   show (!p d[j]!) = true
   rw [← tl j hj, hall j (by simpa using hj)]
   rfl
  have e3 : keptUpTo kp (d.map some) d.size = (d.map some).toList := by
   have := keptUpTo_all kp (d.map some) _ hkeep
   rw [hds] at this
   rw [this, ← hds, range_map_get]
  have e4 : (keptUpTo kp (d.map some) d.size).length = d.size := by rw [e3]; simp
  have HH : Aside (Holds (encO enc) w blk off (d.map some)) := hH
  have E3 : Aside (keptUpTo kp (d.map some) d.size = (d.map some).toList) := e3
  have E4 : Aside ((keptUpTo kp (d.map some) d.size).length = d.size) := e4
  clear hH hcallAt hp e3 e4 hkeep hall hfil hfl hcI tl tm
  go_enter Try.func38, Try.ntmps38
  go_wp2_with (go_at_call 52; refine hIG.mono ?_; rintro e w' ⟨rfl, q0, rfl⟩)
  go_ret
  refine ⟨by rw [E4.out]; rfl, q0, ?_⟩
  rw [E4.out, E3.out, Nat.sub_self, List.replicate_zero, List.append_nil, Array.toArray_toList]
  exact (putRow_self (encO enc) (Sort.ahead w q0) blk off (d.map some) (holds_ahead (encO enc) w q0 blk off _ HH.out)).symm
 ·have hk0' : k0 < d.size := by simpa using hk0
  have e2 : Lib.idxBy (fun _ y => p y) d.toList default = (k0 : Int) := by unfold Lib.idxBy; rw [e1]; simp
  rw [e2] at hIG
  have hkeep : ∀ j, j < k0 → kp j = true := fun j hj => by
   rw [HK.out]
   show (!pO p (d.map some)[j]!) = true
   rw [tm j (by omega)]
   show (!p d[j]!) = true
   rw [← tl j (by omega), hall j hj]
   rfl
  have hdrop : kp k0 = false := by
   rw [HK.out]
   show (!pO p (d.map some)[k0]!) = false
   rw [tm k0 hk0']
   show (!p d[k0]!) = false
   rw [← tl k0 hk0', show p d.toList[k0]! = true from ht]
   rfl
  have hne1 : ((k0 : Int) == -1) = false := beq_eq_false_iff_ne.2 (by omega)
  have HC : Aside _ := hcallAt
  have HH : Aside (Holds (encO enc) w blk off (d.map some)) := hH
  have TM : Aside (∀ j, j < d.size → (d.map some)[j]! = some d[j]!) := tm
  have HST := KeptInv.start (d := d.map some) hkeep hdrop
  have HST2 : Aside (KeptInv kp (d.map some) (k0 + 1) k0 (d.map some)) := HST
  clear hcallAt hp hH hall ht e1 e2 tl tm HST hkeep hdrop hcI hfil hfl
  obtain ⟨D, hD⟩ : ∃ D : Array (Option α), D = d.map some := ⟨_, rfl⟩
  rw [← hD] at hds HH TM HST2 ⊢
  have HD : Aside (D = d.map some) := hD
  clear hD
  go_enter Try.func38, Try.ntmps38
  go_wp2_with (go_at_call 52; refine hIG.mono ?_; rintro e w' ⟨rfl, q0, rfl⟩)
  clear hIG
  go_loopg [5, 6, 7] d.size (fun gg s5 s6 _ wr => ∃ (i j q : Nat) (dk : Array (Option α)), s5 = .int .i64 i ∧ s6 = .int .i64 j ∧ j ≤ d.size ∧ d.size - j ≤ gg ∧ wr = putRow (encO enc) (Sort.ahead w q) blk off dk ∧ Aside (KeptInv kp D j i dk))
  case atStart => exact ⟨k0, k0 + 1, q0, D, rfl, by go_num, by omega, by omega, (putRow_self (encO enc) (Sort.ahead w q0) blk off D (holds_ahead (encO enc) w q0 blk off D HH.out)).symm, HST2⟩
  case round =>
   obtain ⟨i, j, q, dk, rfl, rfl, hjd, hgg, hwr, I2⟩ := hrel
   have hI := I2.out
   have hij := hI.lt
   have hdk : dk.size = d.size := hI.size.trans hds
   have hHk : Holds (encO enc) wr blk off dk := by rw [hwr]; exact holds_putRow (encO enc) _ blk off D dk (holds_ahead (encO enc) w q blk off D HH.out) hI.size
   have W2 : Aside (wr = putRow (encO enc) (Sort.ahead w q) blk off dk) := hwr
   by_cases hlt : j < d.size
   ·have hltz : (j : Int) < (d.size : Int) := by omega
    obtain ⟨cj, _⟩ := hHk j (by omega)
    obtain ⟨ci, fi⟩ := hHk i (by omega)
    rw [hI.high j (by omega), TM.out j hlt] at cj
    have hcall := HC.out dk d[j]! q hdk
    rw [← hwr] at hcall
    have C0 := TM.out j hlt
    clear hHk hI hwr
    generalize hu : d[j]! = u at cj hcall C0
    generalize dk[i]! = old at ci
    have C : Aside (D[j]! = some u) := C0
    have cj' : wr.cell? ⟨blk, off + j, none⟩ = some (enc u) := cj
    clear hu C0 cj
    cases hq : p u with
    | false =>
     rw [hq] at hcall
     go_wp2_with (go_at_fn g; refine hcall.mono ?_; rintro e w' ⟨rfl, qq, rfl⟩)
     go_roundg (d.size - (j + 1))
     case measure => omega
     case rel =>
      refine ⟨i + 1, j + 1, q + qq, dk.setIfInBounds i (some u), by go_num, by go_num, by omega, Nat.le_refl _, ?_, (show Aside _ from ?_)⟩
      ·rw [W2.out, show (putRow (encO enc) (Sort.ahead w q) blk off dk).drewN qq = putRow (encO enc) (Sort.ahead w (q + qq)) blk off dk from putRow_drewN _ _ _ _ _ _ _]
       exact putRow_set (encO enc) _ blk off dk i (some u) (by omega)
      ·have := I2.out.keep (by omega) (by rw [HK.out]; show (!pO p (d.map some)[j]!) = true; rw [← HD.out, C.out]; show (!p u) = true; rw [hq]; rfl)
       rwa [C.out] at this
    | true =>
     rw [hq] at hcall
     go_wp2_with (go_at_fn g; refine hcall.mono ?_; rintro e w' ⟨rfl, qq, rfl⟩)
     go_roundg (d.size - (j + 1))
     case measure => omega
     case rel => exact ⟨i, j + 1, q + qq, dk, rfl, by go_num, by omega, Nat.le_refl _, by rw [W2.out]; exact putRow_drewN _ _ _ _ _ _ _, I2.out.skip (by rw [HK.out]; show (!pO p (d.map some)[j]!) = false; rw [← HD.out, C.out]; show (!p u) = false; rw [hq]; rfl)⟩
   ·obtain rfl : j = d.size := by omega
    have hltz : ¬ (d.size : Int) < (d.size : Int) := by omega
    have hcl : ∀ ty, (Builtin.clear_ #[25] ty #[.slice (some ⟨blk, off + i, none⟩) (d.size - i) (cap - i)]).run Try.prog wr = .ok (.tuple #[]) (wr.setCells blk (off + i) (List.replicate (d.size - i) (encO enc none))) :=
     fun ty => Lib.run_clear_slice wr _ _ ty _ t39 (fun w => Try.zeroValue30 w) (hO.cells none) (hO none) blk (off + i) _ _ (by omega) (fun t ht => by rw [show off + i + t = off + (i + t) by omega, (hHk (i + t) (by omega)).1]; rfl) (fun t ht => by rw [show off + i + t = off + (i + t) by omega]; exact (hHk (i + t) (by omega)).2)
    clear hHk hI hwr
    go_wp2
    go_ret
    have hI := I2.out
    have hlen : (keptUpTo kp D d.size).length = i := by rw [← hI.len]
    refine ⟨by rw [hlen]; rfl, q, ?_⟩
    have hI2 : KeptInv kp D D.size i dk := by rw [hds]; exact hI
    have hdn := hI2.done none
    rw [hds] at hdn
    rw [hlen, ← hdn, ← putRow_setCells (encO enc) _ blk off _ dk i (by simp; omega), ← W2.out, List.map_replicate]
set_option maxHeartbeats 1000000 in
theorem rows_delete (p : List Int → Bool) (Pr : List Int → Prop) (gf : Nat) (lb : Array Value) (b : Nat)
  (eg : ∀ args w, (callFunc gf args).run Try.prog w = .ok (.enter gf args) w) (w0 w : World) (hbs : b < w.heap.size)
  (hp : ∀ (W : World) (A : Option Addr) (c : Nat) (x : List Int), W.heap[b]? = w.heap[b]? → Pr x → Kd.C (Kd.int .i64) W A x.length x → x.length ≤ c → Go.Proofs.FnGives Try.prog gf lb #[.slice A x.length c] (.bool (p x)) W)
  (hbt : ∀ cur, w.heap[b]? ≠ some (.cells cur 30 (0, 0)))
  (v : Value) (xs : List (List Int)) (hB : Below w0.heap.size w0 w) (hP : ∀ x ∈ xs, Pr x) (hne : xs ≠ []) (ho : Kd.S KII 30 w w0.heap.size (fun _ => True) v xs) :
  Calls Try.prog 38 #[v, .func (.func gf) #[] lb] w fun e w' => ∃ v', e = .returned v' ∧ Kd.S KII 30 w' w0.heap.size (fun _ => True) v' (xs.filter fun x => !p x) ∧ Below w0.heap.size w0 w' := by
 obtain ⟨vs, h0, hown, hv⟩ := S_vals ho
 obtain ⟨hlen, hcase⟩ := hown
 rcases hcase with ⟨ev, hn⟩ | ⟨g, cap, cur, ev, hg, hb, hc, hm, hcs, ht⟩
 ·exact absurd (List.eq_nil_of_length_eq_zero hn) hne
 ·subst ev
  obtain ⟨ds, e1, e2⟩ := rows_at (Pr := Pr) vs xs hv.len hv.row hP
  have hds : ds ≠ [] := fun e => hne (by rw [← e2, e]; rfl)
  letI : Inhabited (RowAt w w0.heap.size (fun k => True ∧ some k ≠ (Value.slice (some ⟨g, 0, none⟩) xs.length cap).ownBlock) Pr) := ⟨ds.head hds⟩
  have hdl : ds.length = xs.length := by have := congrArg List.length e2; simpa using this
  have ht' : cur.toList.take ds.length = ds.map RowAt.v := by rw [hdl, e1]; simpa using ht
  have hlt : g < w.heap.size := (Array.getElem?_eq_some_iff.1 hb).1
  have hbg : b ≠ g := fun e => hbt cur (by rw [e]; exact hb)
  have hng : ∀ k, (True ∧ some k ≠ (Value.slice (some ⟨g, 0, none⟩) xs.length cap).ownBlock) → k ≠ g := fun k hk e => hk.2 (by rw [e]; rfl)
  have hOO : ∀ x : Option (RowAt w w0.heap.size (fun k => True ∧ some k ≠ (Value.slice (some ⟨g, 0, none⟩) xs.length cap).ownBlock) Pr), (encO RowAt.v x).oneCell' = true := fun x => by
   cases x with
   | none => rfl
   | some x => exact RowAt.one x
  have hgive : ∀ (W : World) (x : RowAt w w0.heap.size (fun k => True ∧ some k ≠ (Value.slice (some ⟨g, 0, none⟩) xs.length cap).ownBlock) Pr), (∀ k, k < w.heap.size → k ≠ g → W.heap[k]? = w.heap[k]?) → Go.Proofs.FnGives Try.prog gf lb #[x.v] (.bool (p x.l)) W := fun W x hW => by
   have hx := Kd.R_step (w1 := W) x.hR (fun k hk hlk => hW k hlk (hng k hk))
   obtain ⟨A, c, ea, ha, hra⟩ := Kd.R_reads hx
   rw [ea]
   exact hp W A c x.l (hW b hbs hbg) x.hP hra ha
  have ht2 : cur.toList.take (ds.map some).length = (ds.map some).map (encO RowAt.v) := by
   rw [List.length_map, ht', List.map_map]
   rfl
  have hC := delete_walk (RowAt.v (w := w) (base := w0.heap.size) (ok := fun k => True ∧ some k ≠ (Value.slice (some ⟨g, 0, none⟩) xs.length cap).ownBlock) (Pr := Pr)) RowAt.one (fun a => p a.l) gf lb eg g 0 cap ds.toArray w
   (fun W x hb => hgive W x (fun k hk _ => hb.block k hk))
   (fun dk x q hsd => hgive _ x (fun k hk hkg => by
     have := sortWorld_other (encO RowAt.v) w g q dk #[] k hk hkg
     rwa [Go.Sort.grow_empty] at this))
   (by have h_ := scalar_holds (enc := encO RowAt.v) (xs := ds.map some) hb ht2; rwa [← List.map_toArray] at h_) (by have : cap ≤ 9223372036854775807 := hm; simp only [List.size_toArray]; omega) (by simp only [List.size_toArray]; omega)
  rw [show ds.toArray.size = xs.length by simpa using hdl] at hC
  refine hC.mono ?_
  rintro e w' ⟨rfl, q, hw⟩
  obtain ⟨ks, hks⟩ : ∃ ks, ks = ds.filter (fun a => !p a.l) := ⟨_, rfl⟩
  have hks2 : (ds.toArray.toList.filter fun a => !p a.l) = ks := hks.symm
  rw [hks2] at hw ⊢
  have hsub : ks.Sublist ds := by rw [hks]; exact List.filter_sublist
  have hlk : ks.length ≤ ds.length := hsub.length_le
  have hS := scalar_sorted (enc := encO RowAt.v) (h1 := hOO) (xs := ds.map some) (ys := ks.map some ++ List.replicate (xs.length - ks.length) none) (cap := cap) (ok := fun _ => True) hB trivial hg hb (by rw [List.length_map, hdl]; exact hc) hm (by simpa using hcs) (by simp; omega) q #[] w' (by rw [hw, Go.Sort.grow_empty])
  have hTk := scalar_take hS.1 (ks.map some).length (by simp)
  rw [List.take_left] at hTk
  obtain ⟨hown1, hown2⟩ := scalar_R.1 hTk
  have hap : (ks.map RowAt.v).Pairwise Apart := List.Pairwise.sublist (hsub.map RowAt.v) (by rw [e1]; exact hv.apart)
  have hL : ks.map RowAt.l = xs.filter fun x => !p x := by
   rw [hks, ← e2, List.filter_map]
   rfl
  rw [← hL]
  have hmm : (ks.map some).map (encO RowAt.v) = ks.map RowAt.v := by rw [List.map_map]; rfl
  rw [hmm, List.length_map] at hown2
  rw [List.length_map] at hown1
  refine ⟨_, rfl, Kd.S_mono (vals_S (ok := fun k_ => (True ∨ w.heap.size ≤ k_)) (vs := ks.map RowAt.v) hown1 ?_ (rows_back hap (fun k hk hlk2 => ?_) (fun k hk => ⟨.inl trivial, hk.2⟩))) (fun _ _ => trivial), hS.2.1⟩
  ·rw [List.length_map]
   exact hown2
  ·rw [hw]
   have := sortWorld_other (encO RowAt.v) w g q (ks.map some ++ List.replicate (xs.length - ks.length) none).toArray #[] k hlk2 (hng k hk)
   rwa [Go.Sort.grow_empty] at this
def impl_TriplesWith.f (k : Nat) (a0 : Int) : Option (List (List Int) × Bool) := if inB 1 1000000000 a0 = true then (impl_markovs.f k a0).bind fun l => (if l ≠ [] ∧ l.length < 5864062014805 ∧ l.all prM = true then some (l.filter (fun x => !(rd x 2 != a0)), true) else none) else some ([], false)
theorem impl_TriplesWith.mono : ∀ a0 k, LeO (impl_TriplesWith.f k a0) (impl_TriplesWith.f (k + 1) a0) := by
 intro a0 k
 unfold impl_TriplesWith.f
 repeat' first
  | (with_reducible exact impl_markovs.mono _ _)
  | (with_reducible exact LeO.refl _)
  | (with_reducible exact LeO.none _)
  | (with_reducible refine LeO.ite ?_ ?_)
  | (with_reducible refine LeO.bind ?_ (fun _ => ?_))
set_option maxHeartbeats 4000000 in
set_option maxRecDepth 100000 in
theorem impl_TriplesWith.calls (k : Nat) (a0 : Int) (r1 : List (List Int)) (r2 : Bool) (w : World) (h : impl_TriplesWith.f k a0 = some (r1, r2)) :
  Calls Try.prog 21 #[.int .i64 a0] w fun e w' => ∃ v0_ : Value, e = .returned (.tuple #[v0_, .bool r2]) ∧ Kd.S (Kd.slice 3 (Kd.int .i64)) 30 w' w.heap.size (fun _ => True) v0_ r1 ∧ Below w.heap.size w w' := by
 unfold impl_TriplesWith.f at h
 have hB1 : Below w.heap.size w (w.alloc (.cells #[.int .i64 a0] 3)) := below_alloc (Below.refl _ _) _
 have kb : (w.alloc (.cells #[.int .i64 a0] 3)).heap[w.heap.size]? = some (.cells #[.int .i64 a0] 3 (0, 0)) := blk_new w _
 have hsz : (w.alloc (.cells #[.int .i64 a0] 3)).heap.size = w.heap.size + 1 := by simp
 cases hin : inB 1 1000000000 a0 with
 | false =>
  rw [hin] at h
  have h_ : some (([], false) : List (List Int) × Bool) = some (r1, r2) := h
  obtain ⟨rfl, rfl⟩ := Prod.mk.inj (Option.some.inj h_)
  have hW := impl_within.given a0 1 1000000000
  rw [hin] at hW
  have HB := Aside0.mk hB1
  clear hB1 kb hsz h h_ hin
  go_enter Try.func21, Try.ntmps21
  go_wp2_with (go_at_call 33; refine (hW _).mono ?_; rintro e w' ⟨rfl, rfl⟩)
  go_ret2
  exact ⟨_, rfl, Kd.S_nil _ _ _ _ _, HB.out⟩
 | true =>
  rw [hin] at h
  have h_ : ((impl_markovs.f k a0).bind fun l => (if l ≠ [] ∧ l.length < 5864062014805 ∧ l.all prM = true then some (l.filter (fun x => !(rd x 2 != a0)), true) else none)) = some (r1, r2) := h
  obtain ⟨L, hL, h2⟩ := Option.bind_eq_some_iff.mp h_
  by_cases hq : L ≠ [] ∧ L.length < 5864062014805 ∧ L.all prM = true
  ·replace h2 : (if L ≠ [] ∧ L.length < 5864062014805 ∧ L.all prM = true then some (L.filter (fun x => !(rd x 2 != a0)), true) else none) = some (r1, r2) := h2
   rw [if_pos hq] at h2
   obtain ⟨rfl, rfl⟩ := Prod.mk.inj (Option.some.inj h2)
   have hW := impl_within.given a0 1 1000000000
   rw [hin] at hW
   have HB := Aside0.mk hB1
   have KB := Aside0.mk kb
   have HSZ := Aside0.mk hsz
   have HL := Aside0.mk hL
   have HQ := Aside0.mk hq
   have HFL : Aside0 ((L.filter (fun x => !(rd x 2 != a0))).length < 5864062014805) := ⟨by have := List.length_filter_le (fun x => !(rd x 2 != a0)) L; have := hq.2.1; omega⟩
   clear hB1 kb hsz h h_ h2 hin hL hq
   go_enter Try.func21, Try.ntmps21
   go_wp2_with (first
    | (go_at_call 33; refine (hW _).mono ?_; rintro e w' ⟨rfl, rfl⟩)
    | (go_at_call 34; refine (impl_markovs.calls k a0 L _ HL.out).mono ?_; rintro e w2 ⟨v2, rfl, ho, hb⟩; have n0_ := Aside0.mk (Kd.S_lower ho (below_size HB.out)); have n1_ := Aside0.mk (HB.out.trans (hb.mono HB.out.size)); have n2_ := Aside0.mk ((hb.block w.heap.size (by have := HSZ.out; omega)).trans KB.out); have n3_ := Aside0.mk (Nat.lt_of_lt_of_le (show w.heap.size < (w.alloc (.cells #[.int .i64 a0] 3)).heap.size by have := HSZ.out; omega) hb.size); clear HB KB HSZ HL ho hb; have HO := n0_; have HB := n1_; have KB := n2_; have HLT := n3_; clear n0_ n1_ n2_ n3_)
    | (go_at_call 38; refine (rows_delete (fun x => rd x 2 != a0) (fun x => 2 < x.length) 39 #[.pointer (some ⟨w.heap.size, 0, none⟩)] w.heap.size with_enters w _ HLT.out (fun W A c x hW hP hc hl => with_at W A c x w.heap.size a0 hP hc hl (hW.trans KB.out)) (fun cur e => by rw [KB.out] at e; injection e with e; injection e with e1 e2; exact absurd e2 (by decide)) v2 L HB.out (fun x hx => (prM_iff.1 (List.all_eq_true.1 HQ.out.2.2 x hx)).1) HQ.out.1 HO.out).mono ?_; rintro e w3 ⟨v3, rfl, ho, hb⟩; have n0_ := Aside0.mk ho; have n1_ := Aside0.mk hb; clear HO HB KB HLT ho hb; have HO := n0_; have HB := n1_; clear n0_ n1_)
    | (go_at_call 37; refine (rows_clone v3 _ w _ HB.out HFL.out HO.out).mono ?_; rintro e w4 ⟨v4, rfl, ho, hb⟩; have n0_ := Aside0.mk ho; have n1_ := Aside0.mk hb; clear HO HB ho hb; have HO := n0_; have HB := n1_; clear n0_ n1_))
   go_ret2
   exact ⟨_, rfl, HO.out, HB.out⟩
  ·have h2_ : (if L ≠ [] ∧ L.length < 5864062014805 ∧ L.all prM = true then some (L.filter (fun x => !(rd x 2 != a0)), true) else none) = some (r1, r2) := h2
   rw [if_neg hq] at h2_
   simp at h2_
end Go.Proofs.Ytkdgpbcecnmdhaa.P
namespace Go.Proofs.Ytkdgpbcecnmdhaa.P
open Go.RowKit Go.Proofs.YtkdgpbcecnmdhaaW.PrintWords Go.Proofs.YtkdgpbcecnmdhaaW.PrintLast
def impl_IsMarkovNumber.f (k : Nat) (a0 : Int) : Option (Bool × Bool) := (impl_TriplesWith.f k a0).bind fun bt197 => (some (decide ((bt197.1.length : Int) > 0), bt197.2))
theorem impl_IsMarkovNumber.mono : ∀ a0 k, LeO (impl_IsMarkovNumber.f k a0) (impl_IsMarkovNumber.f (k + 1) a0) := by
 intro a0 k
 unfold impl_IsMarkovNumber.f
 repeat' first
   | (with_reducible exact impl_TriplesWith.mono _ _)
   | (with_reducible exact LeO.refl _)
   | (with_reducible exact LeO.none _)
   | (with_reducible refine LeO.ite ?_ ?_)
   | (with_reducible refine LeO.bind ?_ (fun _ => ?_))
   | exact impl_TriplesWith.mono _ _
   | exact LeO.none _
   | refine LeO.ite ?_ ?_
   | refine LeO.bind ?_ (fun _ => ?_)
set_option maxHeartbeats 8000000 in
set_option maxRecDepth 100000 in
theorem impl_IsMarkovNumber.calls (k : Nat) (a0 : Int) (r1 : Bool) (r2 : Bool) (w : World) (h : impl_IsMarkovNumber.f k a0 = some (r1, r2)) :
  Calls Try.prog 9 #[.int .i64 a0] w fun e w' => e = .returned (.tuple #[.bool r1, .bool r2]) ∧ Below w.heap.size w w' := by
 have HB := Aside0.mk (Below.refl w.heap.size w)
 have H : ((impl_TriplesWith.f k a0).bind fun bt197 => (some (decide ((bt197.1.length : Int) > 0), bt197.2))) = some (r1, r2) := h
 clear h
 replace H := Option.bind_eq_some_iff.mp H
 obtain ⟨⟨t197, t198⟩, A20, H⟩ := H
 replace H : (some (decide ((t197.length : Int) > 0), t198)) = some (r1, r2) := H
 have A2 := Aside0.mk A20
 clear A20
 simp only [Option.some.injEq, Prod.mk.injEq] at H
 obtain ⟨rfl, rfl⟩ := H
 go_enter Try.func9, Try.ntmps9
 go_wp2_with (first | ((with_reducible refine gate_callee (f := 21) rfl ?_); refine goesL_ (some 8) rfl rfl Try.func21 (by kernel_rfl) rfl #[.int .i64 a0] rfl (by (try simp only [List.map_toArray, List.map_cons, List.map_nil]); first | done | rfl | (simp only [List.length_drop, List.length_take]; rfl)) ?_; (with_reducible refine (impl_TriplesWith.calls k a0 t197 t198 _ A2.out).mono ?_); rintro e w3 ⟨v199, rfl, ho0, hb⟩; refine ⟨_, rfl, ?_⟩; have n0_ := Aside0.mk (Kd.S_lower ho0 (below_size (by repeat (first | (with_reducible first | exact HB.out | apply below_alloc | apply pw_below_drewN | apply below_drew1) | exact HB.out)))); have n1_ := Aside0.mk (below_step (by repeat (first | (with_reducible first | exact HB.out | apply below_alloc | apply pw_below_drewN | apply below_drew1) | exact HB.out)) hb); clear HB; have HO200 := n0_; have HB := n1_; clear n0_ n1_; (try clear hb); (try clear hb2); (try clear hk); (try clear hi); (try clear ho0); obtain ⟨Ao4, co4, eo4⟩ := Kd.S_slice HO200.out; subst eo4))
 go_ret2
 exact ⟨by first | rfl | (simp [errW_none, errW_some] <;> rfl) | (simp [*, errW_none, errW_some] <;> rfl), by repeat (first | (with_reducible first | exact HB.out | apply below_alloc | apply pw_below_drewN | apply below_drew1) | exact HB.out)⟩
end Go.Proofs.Ytkdgpbcecnmdhaa.P
namespace Go.Proofs.Ytkdgpbcecnmdhaa.P
open Go.RowKit Go.Proofs.YtkdgpbcecnmdhaaW.PrintWords Go.Proofs.YtkdgpbcecnmdhaaW.PrintLast
mutual
def laws_FnMarkovLists.j0 : Nat → List Int → Int → List (List Int) → List Int → Bool → Option (Bool)
 | 0, _, _, _, _, _ => none
 | k + 1, x1, x5, x6, x10, x81 => if x81 = true then (some false) else (laws_FnMarkovLists.l0 k x1 x5 x6 x10 x6 (x6.length : Int) 0)
def laws_FnMarkovLists.l0 : Nat → List Int → Int → List (List Int) → List Int → List (List Int) → Int → Int → Option (Bool)
 | 0, _, _, _, _, _, _, _ => none
 | k + 1, x1, x5, x6, x10, x82, x83, x84 => if x84 < x83 then (if 0 ≤ x84 then (if x84 < (x82.length : Int) then ((impl_IsMarkov.f k (rd_L1 x82 x84)).bind fun t458 => (if t458 = true then (if 2 < ((rd_L1 x82 x84).length : Int) then (if (rd (rd_L1 x82 x84) 2) > x5 then (some false) else ((laws_dHas.f k x10 (rd (rd_L1 x82 x84) 2)).bind fun t461 => (if t461 = true then (if x84 > 0 then (if 0 ≤ (wrap64 (x84 - 1)) then (if (wrap64 (x84 - 1)) < (x6.length : Int) then (if 2 < ((rd_L1 x6 (wrap64 (x84 - 1))).length : Int) then (if (rd (rd_L1 x82 x84) 2) < (rd (rd_L1 x6 (wrap64 (x84 - 1))) 2) then (some false) else ((impl_MarkovDown.f k (rd_L1 x82 x84)).bind fun bt465 => (if x84 ≤ (x6.length : Int) then ((some (x6.take (x84 : Int).toNat : List (List Int))).bind fun y469 => (laws_FnMarkovLists.l1 k x1 x5 x6 x10 bt465.1 bt465.2 false x82 x83 x84 y469 (y469.length : Int) 0)) else (none)))) else (none)) else (none)) else (none)) else (laws_FnMarkovLists.l0 k x1 x5 x6 x10 x82 x83 (wrap64 (x84 + 1)))) else (some false)))) else (none)) else (some false))) else (none)) else (none)) else ((spec_DrawTriplesWith.f k x1).bind fun t476 => ((impl_TriplesWith.f k t476).bind fun bt477 => ((spec_TriplesWith.f k t476).bind fun bt481 => ((impl_IsMarkovNumber.f k t476).bind fun bt485 => ((spec_IsMarkovNumber.f k t476).bind fun bt487 => (if (bt477.2 != bt481.2) = true then (some false) else ((laws_dLists.f k bt477.1 bt481.1).bind fun t489 => (if t489 = true then (if (bt485.2 != bt487.2) = true then (some false) else (if (bt485.1 != bt487.1) = true then (some false) else (if (bt485.2 != bt477.2) = true then (some false) else (if (bt485.1 != (decide ((bt477.1.length : Int) > 0))) = true then (some false) else (laws_FnMarkovLists.l2 k t476 bt477.1 (bt477.1.length : Int) 0))))) else (some false)))))))))
def laws_FnMarkovLists.l1 : Nat → List Int → Int → List (List Int) → List Int → List Int → Bool → Bool → List (List Int) → Int → Int → List (List Int) → Int → Int → Option (Bool)
 | 0, _, _, _, _, _, _, _, _, _, _, _, _, _ => none
 | k + 1, x1, x5, x6, x10, x16, x17, x18, x82, x83, x84, x133, x134, x135 => if x135 < x134 then (if 0 ≤ x135 then (if x135 < (x133.length : Int) then (if x18 = true then (laws_FnMarkovLists.l1 k x1 x5 x6 x10 x16 x17 true x82 x83 x84 x133 x134 (wrap64 (x135 + 1))) else ((laws_dSame.f k (rd_L1 x133 x135) x16).bind fun t475 => (laws_FnMarkovLists.l1 k x1 x5 x6 x10 x16 x17 t475 x82 x83 x84 x133 x134 (wrap64 (x135 + 1))))) else (none)) else (none)) else (if x17 = true then (if x18 = true then (laws_FnMarkovLists.l0 k x1 x5 x6 x10 x82 x83 (wrap64 (x84 + 1))) else (some false)) else (some false))
def laws_FnMarkovLists.l2 : Nat → Int → List (List Int) → Int → Int → Option (Bool)
 | 0, _, _, _, _ => none
 | k + 1, x21, x206, x207, x208 => if x208 < x207 then (if 0 ≤ x208 then (if x208 < (x206.length : Int) then ((impl_IsMarkov.f k (rd_L1 x206 x208)).bind fun t491 => (if t491 = true then (if 2 < ((rd_L1 x206 x208).length : Int) then (if (rd (rd_L1 x206 x208) 2) = x21 then (laws_FnMarkovLists.l2 k x21 x206 x207 (wrap64 (x208 + 1))) else (some false)) else (none)) else (some false))) else (none)) else (none)) else (some true)
end
def laws_FnMarkovLists.f (k : Nat) (l0 : List Int) (l1 : List Int) : Option (Bool) := (laws_big.f l0 l1).bind fun t437 => (if t437 = true then (some true) else ((spec_DrawMarkovUpTo.f l0).bind fun t438 => ((impl_MarkovUpTo.f k t438).bind fun bt439 => ((spec_MarkovUpTo.f k t438).bind fun bt443 => ((impl_MarkovNumbersUpTo.f k t438).bind fun bt447 => ((spec_MarkovNumbersUpTo.f k t438).bind fun bt451 => (if (bt439.2 != bt443.2) = true then (laws_FnMarkovLists.j0 k l1 t438 bt439.1 bt447.1 true) else ((laws_dLists.f k bt439.1 bt443.1).bind fun t455 => (if t455 = true then (if (bt447.2 != bt451.2) = true then (laws_FnMarkovLists.j0 k l1 t438 bt439.1 bt447.1 true) else ((laws_dSame.f k bt447.1 bt451.1).bind fun t456 => (if t456 = true then (laws_FnMarkovLists.j0 k l1 t438 bt439.1 bt447.1 (bt447.2 != bt439.2)) else (laws_FnMarkovLists.j0 k l1 t438 bt439.1 bt447.1 true)))) else (laws_FnMarkovLists.j0 k l1 t438 bt439.1 bt447.1 true))))))))))
theorem laws_FnMarkovLists.mono_l : ∀ k, (∀ y0 y1 y2 y3 y4, LeO (laws_FnMarkovLists.j0 k y0 y1 y2 y3 y4) (laws_FnMarkovLists.j0 (k + 1) y0 y1 y2 y3 y4)) ∧ (∀ y0 y1 y2 y3 y4 y5 y6, LeO (laws_FnMarkovLists.l0 k y0 y1 y2 y3 y4 y5 y6) (laws_FnMarkovLists.l0 (k + 1) y0 y1 y2 y3 y4 y5 y6)) ∧ (∀ y0 y1 y2 y3 y4 y5 y6 y7 y8 y9 y10 y11 y12, LeO (laws_FnMarkovLists.l1 k y0 y1 y2 y3 y4 y5 y6 y7 y8 y9 y10 y11 y12) (laws_FnMarkovLists.l1 (k + 1) y0 y1 y2 y3 y4 y5 y6 y7 y8 y9 y10 y11 y12)) ∧ (∀ y0 y1 y2 y3, LeO (laws_FnMarkovLists.l2 k y0 y1 y2 y3) (laws_FnMarkovLists.l2 (k + 1) y0 y1 y2 y3))
 | 0 => ⟨fun _ _ _ _ _ r h => by simp [laws_FnMarkovLists.j0] at h, fun _ _ _ _ _ _ _ r h => by simp [laws_FnMarkovLists.l0] at h, fun _ _ _ _ _ _ _ _ _ _ _ _ _ r h => by simp [laws_FnMarkovLists.l1] at h, fun _ _ _ _ r h => by simp [laws_FnMarkovLists.l2] at h⟩
 | k + 1 => by
  obtain ⟨ih0, ih1, ih2, ih3⟩ := laws_FnMarkovLists.mono_l k
  refine ⟨?_, ?_, ?_, ?_⟩
  ·intro y0 y1 y2 y3 y4
   unfold laws_FnMarkovLists.j0
   repeat' first
   | (with_reducible exact ih0 _ _ _ _ _)
   | (with_reducible exact ih1 _ _ _ _ _ _ _)
   | (with_reducible exact ih2 _ _ _ _ _ _ _ _ _ _ _ _ _)
   | (with_reducible exact ih3 _ _ _ _)
   | (with_reducible exact impl_IsMarkov.mono _ _)
   | (with_reducible exact impl_IsMarkovNumber.mono _ _)
   | (with_reducible exact impl_MarkovDown.mono _ _)
   | (with_reducible exact impl_MarkovNumbersUpTo.mono _ _)
   | (with_reducible exact impl_MarkovUpTo.mono _ _)
   | (with_reducible exact impl_TriplesWith.mono _ _)
   | (with_reducible exact laws_dHas.mono _ _ _)
   | (with_reducible exact laws_dLists.mono _ _ _)
   | (with_reducible exact laws_dSame.mono _ _ _)
   | (with_reducible exact spec_DrawTriplesWith.mono _ _)
   | (with_reducible exact spec_IsMarkovNumber.mono _ _)
   | (with_reducible exact spec_MarkovNumbersUpTo.mono _ _)
   | (with_reducible exact spec_MarkovUpTo.mono _ _)
   | (with_reducible exact spec_TriplesWith.mono _ _)
   | (with_reducible exact LeO.refl _)
   | (with_reducible exact LeO.none _)
   | (with_reducible refine LeO.ite ?_ ?_)
   | (with_reducible refine LeO.bind ?_ (fun _ => ?_))
   | exact ih0 _ _ _ _ _
   | exact ih1 _ _ _ _ _ _ _
   | exact ih2 _ _ _ _ _ _ _ _ _ _ _ _ _
   | exact ih3 _ _ _ _
   | exact impl_IsMarkov.mono _ _
   | exact impl_IsMarkovNumber.mono _ _
   | exact impl_MarkovDown.mono _ _
   | exact impl_MarkovNumbersUpTo.mono _ _
   | exact impl_MarkovUpTo.mono _ _
   | exact impl_TriplesWith.mono _ _
   | exact laws_dHas.mono _ _ _
   | exact laws_dLists.mono _ _ _
   | exact laws_dSame.mono _ _ _
   | exact spec_DrawTriplesWith.mono _ _
   | exact spec_IsMarkovNumber.mono _ _
   | exact spec_MarkovNumbersUpTo.mono _ _
   | exact spec_MarkovUpTo.mono _ _
   | exact spec_TriplesWith.mono _ _
   | exact LeO.none _
   | refine LeO.ite ?_ ?_
   | refine LeO.bind ?_ (fun _ => ?_)
  ·intro y0 y1 y2 y3 y4 y5 y6
   unfold laws_FnMarkovLists.l0
   repeat' first
   | (with_reducible exact ih0 _ _ _ _ _)
   | (with_reducible exact ih1 _ _ _ _ _ _ _)
   | (with_reducible exact ih2 _ _ _ _ _ _ _ _ _ _ _ _ _)
   | (with_reducible exact ih3 _ _ _ _)
   | (with_reducible exact impl_IsMarkov.mono _ _)
   | (with_reducible exact impl_IsMarkovNumber.mono _ _)
   | (with_reducible exact impl_MarkovDown.mono _ _)
   | (with_reducible exact impl_MarkovNumbersUpTo.mono _ _)
   | (with_reducible exact impl_MarkovUpTo.mono _ _)
   | (with_reducible exact impl_TriplesWith.mono _ _)
   | (with_reducible exact laws_dHas.mono _ _ _)
   | (with_reducible exact laws_dLists.mono _ _ _)
   | (with_reducible exact laws_dSame.mono _ _ _)
   | (with_reducible exact spec_DrawTriplesWith.mono _ _)
   | (with_reducible exact spec_IsMarkovNumber.mono _ _)
   | (with_reducible exact spec_MarkovNumbersUpTo.mono _ _)
   | (with_reducible exact spec_MarkovUpTo.mono _ _)
   | (with_reducible exact spec_TriplesWith.mono _ _)
   | (with_reducible exact LeO.refl _)
   | (with_reducible exact LeO.none _)
   | (with_reducible refine LeO.ite ?_ ?_)
   | (with_reducible refine LeO.bind ?_ (fun _ => ?_))
   | exact ih0 _ _ _ _ _
   | exact ih1 _ _ _ _ _ _ _
   | exact ih2 _ _ _ _ _ _ _ _ _ _ _ _ _
   | exact ih3 _ _ _ _
   | exact impl_IsMarkov.mono _ _
   | exact impl_IsMarkovNumber.mono _ _
   | exact impl_MarkovDown.mono _ _
   | exact impl_MarkovNumbersUpTo.mono _ _
   | exact impl_MarkovUpTo.mono _ _
   | exact impl_TriplesWith.mono _ _
   | exact laws_dHas.mono _ _ _
   | exact laws_dLists.mono _ _ _
   | exact laws_dSame.mono _ _ _
   | exact spec_DrawTriplesWith.mono _ _
   | exact spec_IsMarkovNumber.mono _ _
   | exact spec_MarkovNumbersUpTo.mono _ _
   | exact spec_MarkovUpTo.mono _ _
   | exact spec_TriplesWith.mono _ _
   | exact LeO.none _
   | refine LeO.ite ?_ ?_
   | refine LeO.bind ?_ (fun _ => ?_)
  ·intro y0 y1 y2 y3 y4 y5 y6 y7 y8 y9 y10 y11 y12
   unfold laws_FnMarkovLists.l1
   repeat' first
   | (with_reducible exact ih0 _ _ _ _ _)
   | (with_reducible exact ih1 _ _ _ _ _ _ _)
   | (with_reducible exact ih2 _ _ _ _ _ _ _ _ _ _ _ _ _)
   | (with_reducible exact ih3 _ _ _ _)
   | (with_reducible exact impl_IsMarkov.mono _ _)
   | (with_reducible exact impl_IsMarkovNumber.mono _ _)
   | (with_reducible exact impl_MarkovDown.mono _ _)
   | (with_reducible exact impl_MarkovNumbersUpTo.mono _ _)
   | (with_reducible exact impl_MarkovUpTo.mono _ _)
   | (with_reducible exact impl_TriplesWith.mono _ _)
   | (with_reducible exact laws_dHas.mono _ _ _)
   | (with_reducible exact laws_dLists.mono _ _ _)
   | (with_reducible exact laws_dSame.mono _ _ _)
   | (with_reducible exact spec_DrawTriplesWith.mono _ _)
   | (with_reducible exact spec_IsMarkovNumber.mono _ _)
   | (with_reducible exact spec_MarkovNumbersUpTo.mono _ _)
   | (with_reducible exact spec_MarkovUpTo.mono _ _)
   | (with_reducible exact spec_TriplesWith.mono _ _)
   | (with_reducible exact LeO.refl _)
   | (with_reducible exact LeO.none _)
   | (with_reducible refine LeO.ite ?_ ?_)
   | (with_reducible refine LeO.bind ?_ (fun _ => ?_))
   | exact ih0 _ _ _ _ _
   | exact ih1 _ _ _ _ _ _ _
   | exact ih2 _ _ _ _ _ _ _ _ _ _ _ _ _
   | exact ih3 _ _ _ _
   | exact impl_IsMarkov.mono _ _
   | exact impl_IsMarkovNumber.mono _ _
   | exact impl_MarkovDown.mono _ _
   | exact impl_MarkovNumbersUpTo.mono _ _
   | exact impl_MarkovUpTo.mono _ _
   | exact impl_TriplesWith.mono _ _
   | exact laws_dHas.mono _ _ _
   | exact laws_dLists.mono _ _ _
   | exact laws_dSame.mono _ _ _
   | exact spec_DrawTriplesWith.mono _ _
   | exact spec_IsMarkovNumber.mono _ _
   | exact spec_MarkovNumbersUpTo.mono _ _
   | exact spec_MarkovUpTo.mono _ _
   | exact spec_TriplesWith.mono _ _
   | exact LeO.none _
   | refine LeO.ite ?_ ?_
   | refine LeO.bind ?_ (fun _ => ?_)
  ·intro y0 y1 y2 y3
   unfold laws_FnMarkovLists.l2
   repeat' first
   | (with_reducible exact ih0 _ _ _ _ _)
   | (with_reducible exact ih1 _ _ _ _ _ _ _)
   | (with_reducible exact ih2 _ _ _ _ _ _ _ _ _ _ _ _ _)
   | (with_reducible exact ih3 _ _ _ _)
   | (with_reducible exact impl_IsMarkov.mono _ _)
   | (with_reducible exact impl_IsMarkovNumber.mono _ _)
   | (with_reducible exact impl_MarkovDown.mono _ _)
   | (with_reducible exact impl_MarkovNumbersUpTo.mono _ _)
   | (with_reducible exact impl_MarkovUpTo.mono _ _)
   | (with_reducible exact impl_TriplesWith.mono _ _)
   | (with_reducible exact laws_dHas.mono _ _ _)
   | (with_reducible exact laws_dLists.mono _ _ _)
   | (with_reducible exact laws_dSame.mono _ _ _)
   | (with_reducible exact spec_DrawTriplesWith.mono _ _)
   | (with_reducible exact spec_IsMarkovNumber.mono _ _)
   | (with_reducible exact spec_MarkovNumbersUpTo.mono _ _)
   | (with_reducible exact spec_MarkovUpTo.mono _ _)
   | (with_reducible exact spec_TriplesWith.mono _ _)
   | (with_reducible exact LeO.refl _)
   | (with_reducible exact LeO.none _)
   | (with_reducible refine LeO.ite ?_ ?_)
   | (with_reducible refine LeO.bind ?_ (fun _ => ?_))
   | exact ih0 _ _ _ _ _
   | exact ih1 _ _ _ _ _ _ _
   | exact ih2 _ _ _ _ _ _ _ _ _ _ _ _ _
   | exact ih3 _ _ _ _
   | exact impl_IsMarkov.mono _ _
   | exact impl_IsMarkovNumber.mono _ _
   | exact impl_MarkovDown.mono _ _
   | exact impl_MarkovNumbersUpTo.mono _ _
   | exact impl_MarkovUpTo.mono _ _
   | exact impl_TriplesWith.mono _ _
   | exact laws_dHas.mono _ _ _
   | exact laws_dLists.mono _ _ _
   | exact laws_dSame.mono _ _ _
   | exact spec_DrawTriplesWith.mono _ _
   | exact spec_IsMarkovNumber.mono _ _
   | exact spec_MarkovNumbersUpTo.mono _ _
   | exact spec_MarkovUpTo.mono _ _
   | exact spec_TriplesWith.mono _ _
   | exact LeO.none _
   | refine LeO.ite ?_ ?_
   | refine LeO.bind ?_ (fun _ => ?_)
theorem laws_FnMarkovLists.mono : ∀ a0 a1 k, LeO (laws_FnMarkovLists.f k a0 a1) (laws_FnMarkovLists.f (k + 1) a0 a1) := by
 intro a0 a1 k
 obtain ⟨ih0, ih1, ih2, ih3⟩ := laws_FnMarkovLists.mono_l k
 unfold laws_FnMarkovLists.f
 repeat' first
   | (with_reducible exact ih0 _ _ _ _ _)
   | (with_reducible exact ih1 _ _ _ _ _ _ _)
   | (with_reducible exact ih2 _ _ _ _ _ _ _ _ _ _ _ _ _)
   | (with_reducible exact ih3 _ _ _ _)
   | (with_reducible exact impl_IsMarkov.mono _ _)
   | (with_reducible exact impl_IsMarkovNumber.mono _ _)
   | (with_reducible exact impl_MarkovDown.mono _ _)
   | (with_reducible exact impl_MarkovNumbersUpTo.mono _ _)
   | (with_reducible exact impl_MarkovUpTo.mono _ _)
   | (with_reducible exact impl_TriplesWith.mono _ _)
   | (with_reducible exact laws_dHas.mono _ _ _)
   | (with_reducible exact laws_dLists.mono _ _ _)
   | (with_reducible exact laws_dSame.mono _ _ _)
   | (with_reducible exact spec_DrawTriplesWith.mono _ _)
   | (with_reducible exact spec_IsMarkovNumber.mono _ _)
   | (with_reducible exact spec_MarkovNumbersUpTo.mono _ _)
   | (with_reducible exact spec_MarkovUpTo.mono _ _)
   | (with_reducible exact spec_TriplesWith.mono _ _)
   | (with_reducible exact LeO.refl _)
   | (with_reducible exact LeO.none _)
   | (with_reducible refine LeO.ite ?_ ?_)
   | (with_reducible refine LeO.bind ?_ (fun _ => ?_))
   | exact ih0 _ _ _ _ _
   | exact ih1 _ _ _ _ _ _ _
   | exact ih2 _ _ _ _ _ _ _ _ _ _ _ _ _
   | exact ih3 _ _ _ _
   | exact impl_IsMarkov.mono _ _
   | exact impl_IsMarkovNumber.mono _ _
   | exact impl_MarkovDown.mono _ _
   | exact impl_MarkovNumbersUpTo.mono _ _
   | exact impl_MarkovUpTo.mono _ _
   | exact impl_TriplesWith.mono _ _
   | exact laws_dHas.mono _ _ _
   | exact laws_dLists.mono _ _ _
   | exact laws_dSame.mono _ _ _
   | exact spec_DrawTriplesWith.mono _ _
   | exact spec_IsMarkovNumber.mono _ _
   | exact spec_MarkovNumbersUpTo.mono _ _
   | exact spec_MarkovUpTo.mono _ _
   | exact spec_TriplesWith.mono _ _
   | exact LeO.none _
   | refine LeO.ite ?_ ?_
   | refine LeO.bind ?_ (fun _ => ?_)
def laws_FnMarkovLists.T13 : Bool × List (List Nat × List Nat) := (true, [([], []), ([0], [0]), ([1], [1]), ([2, 1], [2]), ([3], [3]), ([4, 3], [3, 4]), ([5, 3], [3, 5]), ([3], [3]), ([6, 7, 3], [3, 6, 7]), ([3, 8], [3, 8]), ([9, 3], [9]), ([10], [10]), ([10], [10]), ([12, 10], [10, 12]), ([13, 10], [10, 13]), ([11, 14, 10, 10], [10, 11, 14]), ([15, 10], [10, 15]), ([10, 16], [10, 16]), ([17, 15], [17]), ([18], [18]), ([19, 18], [18, 19]), ([20, 18, 18], [18, 20]), ([21], [21]), ([22, 21], [21, 22]), ([23, 21], [21, 23]), ([21], [21]), ([21], [21]), ([26, 21], [21, 26]), ([25, 27, 21], [21, 25, 27]), ([28, 21], [21, 28]), ([29, 21], [21, 29]), ([30, 21], [21, 30]), ([24, 31, 21], [21, 24, 31]), ([21, 32, 18], [18, 21, 32]), ([18, 33], [18, 33])])
def laws_FnMarkovLists.B13 : List Nat := [0, 1, 3, 7, 15, 31, 63, 15, 255, 511, 1023, 2047, 2047, 6143, 14335, 32767, 65535, 131071, 262143, 524287, 1048575, 2097151, 4194303, 8388607, 16777215, 4194303, 4194303, 71303167, 239075327, 507510783, 1044381695, 2118123519, 4294967295, 8589934591, 17179869183]
theorem laws_FnMarkovLists.tab13 : rtab .any (opsOf Try.f7 13) = laws_FnMarkovLists.T13 := by kernel_rfl
theorem laws_FnMarkovLists.bits13 : waitsOk laws_FnMarkovLists.T13.2 laws_FnMarkovLists.B13 = true := by kernel_rfl
abbrev b0ML : Array Bool := #[false,false,false,false,false,false,false,false,false,false,false,false,false,false,false,false,false,false,false,false,false,false,false,false,false,false,false,false,false,false,false,false,false,false,false]
abbrev b1ML : Array Bool := #[true,false,false,false,false,false,false,false,false,false,false,false,false,false,false,false,false,false,false,false,false,false,false,false,false,false,false,false,false,false,false,false,false,false,false]
abbrev b2ML : Array Bool := #[true,true,false,false,false,false,false,false,false,false,false,false,false,false,false,false,false,false,false,false,false,false,false,false,false,false,false,false,false,false,false,false,false,false,false]
abbrev b3ML : Array Bool := #[true,true,true,false,false,false,false,false,false,false,false,false,false,false,false,false,false,false,false,false,false,false,false,false,false,false,false,false,false,false,false,false,false,false,false]
abbrev b4ML : Array Bool := #[true,true,true,true,false,false,false,false,false,false,false,false,false,false,false,false,false,false,false,false,false,false,false,false,false,false,false,false,false,false,false,false,false,false,false]
abbrev b5ML : Array Bool := #[true,true,true,true,true,false,false,false,false,false,false,false,false,false,false,false,false,false,false,false,false,false,false,false,false,false,false,false,false,false,false,false,false,false,false]
abbrev b6ML : Array Bool := #[true,true,true,true,true,true,false,false,false,false,false,false,false,false,false,false,false,false,false,false,false,false,false,false,false,false,false,false,false,false,false,false,false,false,false]
abbrev b7ML : Array Bool := #[true,true,true,true,true,true,false,true,false,false,false,false,false,false,false,false,false,false,false,false,false,false,false,false,false,false,false,false,false,false,false,false,false,false,false]
abbrev b8ML : Array Bool := #[true,true,true,true,true,true,true,true,false,false,false,false,false,false,false,false,false,false,false,false,false,false,false,false,false,false,false,false,false,false,false,false,false,false,false]
abbrev b9ML : Array Bool := #[true,true,true,true,true,true,true,true,true,false,false,false,false,false,false,false,false,false,false,false,false,false,false,false,false,false,false,false,false,false,false,false,false,false,false]
abbrev b10ML : Array Bool := #[true,true,true,true,true,true,true,true,true,true,false,false,false,false,false,false,false,false,false,false,false,false,false,false,false,false,false,false,false,false,false,false,false,false,false]
abbrev b11ML : Array Bool := #[true,true,true,true,true,true,true,true,true,true,true,false,false,false,false,false,false,false,false,false,false,false,false,false,false,false,false,false,false,false,false,false,false,false,false]
abbrev b12ML : Array Bool := #[true,true,true,true,true,true,true,true,true,true,true,true,false,false,false,false,false,false,false,false,false,false,false,false,false,false,false,false,false,false,false,false,false,false,false]
abbrev b13ML : Array Bool := #[true,true,true,true,true,true,true,true,true,true,true,true,true,false,false,false,false,false,false,false,false,false,false,false,false,false,false,false,false,false,false,false,false,false,false]
abbrev b14ML : Array Bool := #[true,true,true,true,true,true,true,true,true,true,true,true,true,true,false,false,false,false,false,false,false,false,false,false,false,false,false,false,false,false,false,false,false,false,false]
abbrev b15ML : Array Bool := #[true,true,true,true,true,true,true,true,true,true,true,true,true,true,true,false,false,false,false,false,false,false,false,false,false,false,false,false,false,false,false,false,false,false,false]
abbrev b16ML : Array Bool := #[true,true,true,true,true,true,true,true,true,true,true,true,true,true,true,true,false,false,false,false,false,false,false,false,false,false,false,false,false,false,false,false,false,false,false]
abbrev b17ML : Array Bool := #[true,true,true,true,true,true,true,true,true,true,true,true,true,true,true,true,true,false,false,false,false,false,false,false,false,false,false,false,false,false,false,false,false,false,false]
abbrev b18ML : Array Bool := #[true,true,true,true,true,true,true,true,true,true,true,true,true,true,true,true,true,true,false,false,false,false,false,false,false,false,false,false,false,false,false,false,false,false,false]
abbrev b19ML : Array Bool := #[true,true,true,true,true,true,true,true,true,true,true,true,true,true,true,true,true,true,true,false,false,false,false,false,false,false,false,false,false,false,false,false,false,false,false]
abbrev b20ML : Array Bool := #[true,true,true,true,true,true,true,true,true,true,true,true,true,true,true,true,true,true,true,true,false,false,false,false,false,false,false,false,false,false,false,false,false,false,false]
abbrev b21ML : Array Bool := #[true,true,true,true,true,true,true,true,true,true,true,true,true,true,true,true,true,true,true,true,true,false,false,false,false,false,false,false,false,false,false,false,false,false,false]
abbrev b22ML : Array Bool := #[true,true,true,true,true,true,true,true,true,true,true,true,true,true,true,true,true,true,true,true,true,true,false,false,false,false,false,false,false,false,false,false,false,false,false]
abbrev b23ML : Array Bool := #[true,true,true,true,true,true,true,true,true,true,true,true,true,true,true,true,true,true,true,true,true,true,true,false,false,false,false,false,false,false,false,false,false,false,false]
abbrev b24ML : Array Bool := #[true,true,true,true,true,true,true,true,true,true,true,true,true,true,true,true,true,true,true,true,true,true,true,true,false,false,false,false,false,false,false,false,false,false,false]
abbrev b25ML : Array Bool := #[true,true,true,true,true,true,true,true,true,true,true,true,true,true,true,true,true,true,true,true,true,true,true,true,true,false,false,false,false,false,false,false,false,false,false]
abbrev b26ML : Array Bool := #[true,true,true,true,true,true,true,true,true,true,true,true,true,true,true,true,true,true,true,true,true,true,true,true,true,true,false,false,false,false,false,false,false,false,false]
abbrev b27ML : Array Bool := #[true,true,true,true,true,true,true,true,true,true,true,true,true,true,true,true,true,true,true,true,true,true,true,true,true,true,true,false,false,false,false,false,false,false,false]
abbrev b28ML : Array Bool := #[true,true,true,true,true,true,true,true,true,true,true,true,true,true,true,true,true,true,true,true,true,true,true,true,true,true,true,true,false,false,false,false,false,false,false]
abbrev b29ML : Array Bool := #[true,true,true,true,true,true,true,true,true,true,true,true,true,true,true,true,true,true,true,true,true,true,true,true,true,true,true,true,true,false,false,false,false,false,false]
abbrev b30ML : Array Bool := #[true,true,true,true,true,true,true,true,true,true,true,true,true,true,true,true,true,true,true,true,true,true,true,true,true,true,true,true,true,true,false,false,false,false,false]
abbrev b31ML : Array Bool := #[true,true,true,true,true,true,true,true,true,true,true,true,true,true,true,true,true,true,true,true,true,true,true,true,true,true,true,true,true,true,true,false,false,false,false]
abbrev b32ML : Array Bool := #[true,true,true,true,true,true,true,true,true,true,true,true,true,true,true,true,true,true,true,true,true,true,true,true,true,true,true,true,true,true,true,true,false,false,false]
abbrev b33ML : Array Bool := #[true,true,true,true,true,true,true,true,true,true,true,true,true,true,true,true,true,true,true,true,true,true,true,true,true,true,true,true,true,true,true,true,true,false,false]
abbrev b34ML : Array Bool := #[true,true,true,true,true,true,true,true,true,true,true,true,true,true,true,true,true,true,true,true,true,true,true,true,true,true,true,true,true,true,true,true,true,true,false]
abbrev b35ML : Array Bool := #[true,true,true,true,true,true,true,true,true,true,true,true,true,true,true,true,true,true,true,true,true,true,true,true,true,true,true,true,true,true,true,true,true,true,true]
abbrev b36ML : Array Bool := #[true,true,true,true,true,true,true,true,true,true,true,true,true,true,true,true,true,true,true,true,true,true,true,true,false,true,false,false,false,false,false,false,false,false,false]
abbrev b37ML : Array Bool := #[true,true,true,true,true,true,true,true,true,true,true,true,true,true,true,true,true,true,true,true,true,true,true,true,false,true,true,false,false,false,false,false,false,false,false]
abbrev b38ML : Array Bool := #[true,true,true,true,true,true,true,true,true,true,true,true,true,true,true,true,true,true,true,true,true,true,true,true,false,true,true,true,false,false,false,false,false,false,false]
abbrev b39ML : Array Bool := #[true,true,true,true,true,true,true,true,true,true,true,true,true,true,true,true,true,true,true,true,true,true,true,true,false,true,true,true,true,false,false,false,false,false,false]
abbrev b40ML : Array Bool := #[true,true,true,true,true,true,true,false,false,false,false,false,false,false,false,false,false,false,false,false,false,false,false,false,false,false,false,false,false,false,false,false,false,false,false]
end Go.Proofs.Ytkdgpbcecnmdhaa.P
