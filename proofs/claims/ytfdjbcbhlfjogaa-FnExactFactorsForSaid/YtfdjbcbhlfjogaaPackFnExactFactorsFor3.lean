/- FactorsFor answers what the reference answers, for all numbers; what it hands back is its own. No condition. -/
import Derived.Test.YtfdjbcbhlfjogaaPackFnExactFactorsFor2
import Derived.Deep.MidRow
import Derived.KernelRfl
-- UboolRow
namespace Go.Proofs.Ytfdjbcbhlfjogaa.P
open Go Go.RowKit Go.Proofs.YtfdjbcbhlfjogaaW.PrintWords Go.Proofs.YtfdjbcbhlfjogaaW.PrintLast
set_option linter.unusedVariables false
set_option linter.unusedSimpArgs false
theorem heap_setCells_same (b : Nat) (t : TypeId) : ∀ (vs : List Value) (o : Nat) (W : World) (cs : Array Value), W.heap[b]? = some (.cells cs t (0, 0)) → (∀ j v, vs[j]? = some v → cs[o + j]? = some v) → (∀ k : Nat, (W.setCells b o vs).heap[k]? = W.heap[k]?) ∧ (W.setCells b o vs).heap.size = W.heap.size ∧ (W.setCells b o vs).os = W.os ∧ (W.setCells b o vs).tape = W.tape ∧ (W.setCells b o vs).output = W.output
  | [], o, W, cs, _, _ => ⟨fun _ => rfl, rfl, rfl, rfl, rfl⟩
  | v :: vs, o, W, cs, h, hv => by
    have h0 := hv 0 v rfl
    rw [Nat.add_zero] at h0
    have e1 : cs.setIfInBounds o v = cs := by
      apply Array.ext_getElem?
      intro i
      rw [Array.getElem?_setIfInBounds]
      split
      · rename_i hi
        subst hi
        split
        · exact h0.symm
        · rename_i hn
          rw [Array.getElem?_eq_none (by omega)] at h0
          simp at h0
      · rfl
    have h1 : (W.setCell ⟨b, o, none⟩ v).heap[b]? = some (.cells cs t (0, 0)) := by
      rw [heap_setCell_same W b o cs t v h, e1]
    have hk : ∀ k : Nat, (W.setCell ⟨b, o, none⟩ v).heap[k]? = W.heap[k]? := by
      intro k
      by_cases hb : k = b
      · rw [hb, h1, h]
      · exact heap_setCell_other W _ k v hb
    obtain ⟨i1, i2, i3, i4, i5⟩ := heap_setCells_same b t vs (o + 1) (W.setCell ⟨b, o, none⟩ v) cs h1 (fun j u hu => by
      have := hv (j + 1) u (by simpa using hu)
      rw [show o + 1 + j = o + (j + 1) from by omega]
      exact this)
    exact ⟨fun k => (i1 k).trans (hk k), i2.trans (by simp), i3, i4, i5⟩
def noB : List Value := List.replicate 21 (Value.bool false)
theorem noB_is : noB.toArray = #[Value.bool false, Value.bool false, Value.bool false, Value.bool false, Value.bool false, Value.bool false, Value.bool false, Value.bool false, Value.bool false, Value.bool false, Value.bool false, Value.bool false, Value.bool false, Value.bool false, Value.bool false, Value.bool false, Value.bool false, Value.bool false, Value.bool false, Value.bool false, Value.bool false] := rfl
theorem row_there {W : World} {b : Nat} {t : TypeId} {cs : List Value} (h : W.heap[b]? = some (.cells cs.toArray t (0, 0))) : W.there b 0 cs.length := by
  intro j hj
  refine ⟨?_, frozen_of_row W b _ _ _ h⟩
  simp [World.cell?, h, hj]
theorem row_range {W : World} {b : Nat} {t : TypeId} {cs : List Value} (h : W.heap[b]? = some (.cells cs.toArray t (0, 0))) : W.rangeAt b 0 cs := by
  intro j v hv
  simp [World.cell?, h, hv]
theorem infoHas : (Try.prog.info? 55).map (·.size) = some 21 := by kernel_rfl
theorem setCell_same (W : World) (b o : Nat) (t : TypeId) (cs : Array Value) (v : Value) (h : W.heap[b]? = some (.cells cs t (0, 0))) (hv : cs[o]? = some v) : W.setCell ⟨b, o, none⟩ v = W := by
  have h1 := (heap_setCells_same b t [v] o W cs h (fun j u hu => by
    cases j with
    | zero => simp at hu; rw [← hu]; exact hv
    | succ j => simp at hu)).1
  have h2 : (W.setCell ⟨b, o, none⟩ v).heap = W.heap := Array.ext_getElem? h1
  have h3 : W.setCell ⟨b, o, none⟩ v = { W with heap := (W.setCell ⟨b, o, none⟩ v).heap } := rfl
  rw [h3, h2]
theorem setCells_same (b : Nat) (t : TypeId) : ∀ (vs : List Value) (o : Nat) (W : World) (cs : Array Value), W.heap[b]? = some (.cells cs t (0, 0)) → (∀ j v, vs[j]? = some v → cs[o + j]? = some v) → W.setCells b o vs = W
  | [], _, _, _, _, _ => rfl
  | v :: vs, o, W, cs, h, hv => by
    have e : W.setCell ⟨b, o, none⟩ v = W := setCell_same W b o t cs v h (by have := hv 0 v rfl; rwa [Nat.add_zero] at this)
    show (W.setCell ⟨b, o, none⟩ v).setCells b (o + 1) vs = W
    rw [e]
    exact setCells_same b t vs (o + 1) W cs h (fun j u hu => by
      have := hv (j + 1) u (by simpa using hu)
      rw [show o + 1 + j = o + (j + 1) from by omega]
      exact this)
theorem infoBool : (Try.prog.info? 4).map (·.size) = some 1 := by kernel_rfl
theorem aggBool : Try.prog.underlying 4 = some .bool := by kernel_rfl
/-- One of them, read. -/
theorem run_index_bools (W : World) (hs : List Bool) (off : Nat) (bv : Bool) (hb : hs[off]? = some bv) (ho : off < 21) :
    (Instr.index 55 (.agg (hs.map Value.bool).toArray) (.int .i64 (off : Int))).run Try.prog W = .ok (.bool bv) W := by
  have h1 : (hs.map Value.bool)[off]? = some (.bool bv) := by rw [List.getElem?_map, hb]; rfl
  have h2 : (off : Int) < 21 := by omega
  obtain ⟨i, hi, hz⟩ := Option.map_eq_some_iff.1 infoBool
  simp [Instr.index, run_underlying Try.underlying55, run_underlying aggBool, asIntOf, go_sem, h2, sizeOf, typeInfo, hi, hz, isAgg, h1, hb, ho]
end Go.Proofs.Ytfdjbcbhlfjogaa.P

-- Gfactors
namespace Go.Proofs.Ytfdjbcbhlfjogaa.P
open Go Go.RowKit Go.Proofs.YtfdjbcbhlfjogaaW.PrintWords Go.Proofs.YtfdjbcbhlfjogaaW.PrintLast
set_option linter.unusedVariables false
set_option linter.unusedSimpArgs false

set_option maxHeartbeats 4000000 in
set_option maxRecDepth 100000 in
theorem falling_fac {σ : Type} (I : σ → World → (Nat → Prop) → Prop) (step : σ → List Int → Option σ) (B1 B2 : Nat) (V : Vis 65 #[.pointer (some ⟨B1, 0, none⟩), .pointer (some ⟨B2, 0, none⟩)] I step) (p : Nat) : ∀ (q : Int) (x : List Int) (m : Int) (s s' : σ) (W : World) (v : Value) (ok : Nat → Prop), q = p → x.length + p ≤ 1000 → p ≤ 1000 → m ≤ 1000000 → I s W ok → Lst W v x → (∀ k, v.ownBlock = some k → ¬ ok k) → fallS step p x m s = some s' →
    Calls Try.prog 64 #[v, .int .i64 q, .int .i64 m, .func (.func 65) #[] #[.pointer (some ⟨B1, 0, none⟩), .pointer (some ⟨B2, 0, none⟩)]] W fun e w' => e = .returned (.tuple #[]) ∧ I s' w' (fun k => ok k ∨ W.heap.size ≤ k) ∧ Fr W w' (fun k => ok k ∨ v.ownBlock = some k) ∧ Lst w' v x := by
  induction p with
  | zero =>
    intro q x m s s' W v ok hq hx hp hm hI hL hv hf
    have HV := Aside0.mk V
    have HI := Aside0.mk hI
    have HF := Aside0.mk (show step s x = some s' from hf)
    have HX := Aside0.mk hx
    have HN := Aside0.mk hv
    have HL := Aside0.mk hL
    obtain ⟨A, c, rfl, hc⟩ := hL.slice
    have HC := Aside0.mk hc
    have HK := Aside0.mk (Kd.R_reads' hL.R).2.2
    have c0b0 : (q == 0) = true := beq_iff_eq.mpr (by omega)
    have c0b1 : decide (q = 0) = true := decide_eq_true (by omega)
    clear hI hf hx hp hv hL hc hq hm V
    go_enter Try.func64, Try.ntmps64
    go_wp2_with (go_at_call 65; refine (HV.out.visit s s' _ A c x ok HI.out HF.out HK.out HC.out (by have := HX.out; omega)).mono ?_; rintro e w' ⟨rfl, hi1, hf1⟩; have HI1 := Aside0.mk hi1; have HF1 := Aside0.mk hf1; clear hi1 hf1)
    (try simp only [Exit.inBlock, Exit.then])
    refine bodyPost_ret (results_none rfl _ _ _) rfl ?_
    exact ⟨rfl, HI1.out, ⟨HF1.out.os, HF1.out.tape, HF1.out.output, HF1.out.size, fun k hk hn => HF1.out.block k hk (fun h_ => hn (.inl h_))⟩, HL.out.move (fun k hk => HF1.out.block k (HL.out.lt k hk) (HN.out k hk))⟩
  | succ p ih =>
    intro q x m s s' W v ok hq hx hp hm hI hL hv hf
    have HIH := Aside0.mk ih
    have HV := Aside0.mk V
    have HF := Aside0.mk (show fallL (fun s n => fallS step p (x ++ [n]) n s) m.toNat 1 s = some s' from hf)
    have HX := Aside0.mk hx
    have HP := Aside0.mk hp
    have HM := Aside0.mk hm
    have HN := Aside0.mk hv
    have HQ := Aside0.mk hq
    have HL0 := Aside0.mk hL
    have HI0 := Aside0.mk hI
    have c0b0 : (q == 0) = false := beq_eq_false_iff_ne.mpr (by omega)
    have c0b1 : decide (q = 0) = false := decide_eq_false (by omega)
    have HWQ : Aside0 (wrap64 (q - 1) = (p : Int)) := ⟨by unfold wrap64; omega⟩
    clear ih V hf hx hp hm hv hq hL hI
    go_enter Try.func64, Try.ntmps64
    go_wp2
    go_loopg [8] m.toNat (fun kj v8 wr => ∃ (s1 : σ) (n : Int) (j : Nat), v8 = .int .i64 n ∧ Aside0 (1 ≤ n ∧ n ≤ 1000001) ∧ Aside0 ((n + j = m + 1) ∨ (j = 0 ∧ m < n)) ∧ Aside0 (j ≤ kj) ∧ Aside0 (fallL (fun s n => fallS step p (x ++ [n]) n s) j n s1 = some s') ∧ Aside0 (I s1 wr (fun k => ok k ∨ W.heap.size ≤ k)) ∧ Aside0 (Fr W wr (fun k => ok k ∨ v.ownBlock = some k)) ∧ Aside0 (Lst wr v x))
    case atStart => exact ⟨s, 1, m.toNat, rfl, ⟨by omega⟩, ⟨by have := HM.out; omega⟩, ⟨Nat.le_refl _⟩, HF, ⟨HV.out.mono _ _ _ _ HI0.out (fun k hk => .inl hk)⟩, ⟨Fr.refl _ _⟩, HL0⟩
    case round =>
      clear HF
      obtain ⟨s1, n, j, rfl, HNN, HJ, HKJ, HF, HI, HFR, HL⟩ := hrel
      cases j with
      | zero =>
        have c1b0 : decide (n ≤ m) = false := decide_eq_false (by have := HJ.out; omega)
        obtain rfl : s1 = s' := Option.some.inj HF.out
        go_wp2
        go_end0
        exact ⟨rfl, HI.out, HFR.out, HL.out⟩
      | succ j =>
        have c1b0 : decide (n ≤ m) = true := decide_eq_true (by have := HJ.out; omega)
        obtain ⟨s2, h1, h2⟩ := Option.bind_eq_some_iff.mp HF.out
        have H1 := Aside0.mk h1
        have H2 := Aside0.mk h2
        clear h1 h2 HF
        go_wp2_with (first
          | ((with_reducible refine gate_builtin (b := .append) (xs := #[.tmp 19, .tmp 21]) rfl ?_); at_builtin; refine wpList_lst_append rfl (.tmp 19) (.tmp 21) 22 rfl Try.underlying22 info3 v x n rfl rfl HL.out (by have := HX.out; omega) ?_; intro v1 w1 ha1 ha2 ha3 ha4; have HA1 := Aside0.mk ha1; have HA2 := Aside0.mk ha2; have HA3 := Aside0.mk ha3; have HA4 := Aside0.mk ha4; clear ha1 ha2 ha3 ha4)
          | (go_at_call 64; refine (HIH.out _ (x ++ [n]) n s1 s2 _ v1 (fun k => (ok k ∨ W.heap.size ≤ k) ∧ k < wr.heap.size) HWQ.out (by have := HX.out; simp; omega) (by have := HP.out; omega) (by have := HNN.out; have := HJ.out; have := HM.out; omega) (HV.out.move _ _ _ _ (HV.out.bound _ _ _ HI.out) (fun k hk hlt => HA2.out.block k hlt (fun e0_ => by have e_ := e0_.1; have h3_ := HN.out k e_; have h4_ := HL0.out.lt k e_; rcases hk.1 with h5_ | h5_; exact h3_ h5_; omega)) HA2.out.size) HA1.out (fun k hk => by rintro ⟨h5_, h6_⟩; rcases HA3.out k hk with h3_ | h3_; (have h4_ := HL0.out.lt k h3_; have h7_ := HN.out k h3_; rcases h5_ with h5_ | h5_; exact h7_ h5_; omega); omega) H1.out).mono ?_; rintro e w2 ⟨rfl, hb1, hb2, hb3⟩; have HB1 := Aside0.mk hb1; have HB2 := Aside0.mk hb2; have HB3 := Aside0.mk hb3; clear hb1 hb2 hb3))
        go_roundg j
        case measure => have := HKJ.out; omega
        case rel =>
          have hw : Aside0 (wrap64 (n + 1) = n + 1) := ⟨by have := HNN.out; unfold wrap64; omega⟩
          have hs1 := HFR.out.size
          have hs2 := HA2.out.size
          refine ⟨s2, wrap64 (n + 1), j, (by first | rfl | (simp; done) | (simp [*]; done)), ⟨by have := HJ.out; have := HM.out; have := HNN.out; rw [hw.out]; omega⟩, ⟨by rw [hw.out]; have := HJ.out; omega⟩, ⟨by have := HKJ.out; omega⟩, ⟨by rw [hw.out]; exact H2.out⟩, ⟨HV.out.mono _ _ _ _ HB1.out (fun k hk => by rcases hk with ⟨h_, _⟩ | h_; exact h_; exact .inr (by omega))⟩, ⟨(HFR.out.trans HA2.out (fun k _ h_ => .inr h_.1)).trans HB2.out (fun k hk h_ => ?_)⟩, ⟨HA4.out w2 HB3.out (fun k hk hne => ?_)⟩⟩
          · rcases h_ with ⟨h5_ | h5_, _⟩ | h_
            · exact .inl h5_
            · omega
            · rcases HA3.out k h_ with h3_ | h3_
              · exact .inr h3_
              · omega
          · have h4_ := HL0.out.lt k hk
            have h7_ := HN.out k hk
            refine (HB2.out.block k (by omega) (fun h_ => ?_)).trans ?_
            · rcases h_ with ⟨h5_ | h5_, _⟩ | h_
              · exact h7_ h5_
              · omega
              · exact hne h_
            · exact HA2.out.block k (by omega) (fun h_ => hne h_.2)

/-- What FactorsFor's visitor holds: the rest, and the factors that were found. -/
def IF (B1 B2 : Nat) (b : Int) (hs : List Bool) (W : World) (ok : Nat → Prop) : Prop :=
  W.cell? ⟨B1, 0, none⟩ = some (.int .i64 b) ∧ W.heap[B2]? = some (.cells (hs.map Value.bool).toArray 55 (0, 0)) ∧ ok B1 ∧ ok B2 ∧ hs.length = 21
def facL : List Int → Int → Int → Int × Int
  | [], s, p => (s, p)
  | n :: t, s, p => facL t (wrap64 (s + wrap64 (n * n))) (wrap64 (p * n))
def facEnd (hs : List Bool) (s p : Int) : Option (List Bool) := if 0 < s then (if p = 0 then none else (if Int.tmod s p = 0 then (if wrap64 (Int.tdiv s p) ≤ 20 then (if 0 ≤ wrap64 (Int.tdiv s p) then some (hs.set (wrap64 (Int.tdiv s p)).toNat true) else none) else some hs) else some hs)) else some hs
def facStep (b : Int) (hs : List Bool) (x : List Int) : Option (List Bool) := facEnd hs (facL x (wrap64 (-b)) 1).1 (facL x (wrap64 (-b)) 1).2
set_option maxHeartbeats 4000000 in
set_option maxRecDepth 100000 in
theorem fac_visit (B1 B2 : Nat) (b : Int) (h12 : B1 ≠ B2) (hs hs' : List Bool) (W : World) (A : Option Addr) (c : Nat) (x : List Int) (ok : Nat → Prop) (hI : IF B1 B2 b hs W ok) (hf : facStep b hs x = some hs') (hK : Kd.C (Kd.int .i64) W A x.length x) (hc : x.length ≤ c) (hx : x.length ≤ 1000000) :
    Calls Try.prog 65 (#[.slice A x.length c] ++ #[.pointer (some ⟨B1, 0, none⟩), .pointer (some ⟨B2, 0, none⟩)]) W fun e w' => e = .returned (.tuple #[]) ∧ IF B1 B2 b hs' w' (fun k => ok k ∨ W.heap.size ≤ k) ∧ Fr W w' ok := by
  show Calls Try.prog 65 #[.slice A x.length c, .pointer (some ⟨B1, 0, none⟩), .pointer (some ⟨B2, 0, none⟩)] W _
  obtain ⟨hI1, hI2, hI3, hI4, hI5⟩ := hI
  unfold facStep at hf
  have HK := Aside0.mk hK
  have HX := Aside0.mk hx
  have H2 := Aside0.mk hI2
  have H34 := Aside0.mk (And.intro hI3 hI4)
  have HLEN := Aside0.mk hI5
  have HNE := Aside0.mk h12
  have HF := Aside0.mk hf
  have HI1 := Aside0.mk hI1
  clear hK hc hI2 hI3 hI4 hI5 h12 hf hx
  go_enter Try.func65, Try.ntmps65
  go_wp2
  go_loopg [4, 5, 12] x.length (fun kj v4 v5 v12 wr => ∃ (us : List Int) (s p : Int) (off : Nat), v4 = .int .i64 s ∧ v5 = .int .i64 p ∧ v12 = .int .i64 (off : Int) ∧ W = wr ∧ Aside0 (us.length ≤ kj) ∧ Aside0 (off + us.length = x.length) ∧ Aside0 (x.drop off = us) ∧ Aside0 (facEnd hs (facL us s p).1 (facL us s p).2 = some hs'))
  case atStart => exact ⟨x, wrap64 (-b), 1, 0, (by first | rfl | (simp; done) | (simp [*]; done)), rfl, rfl, rfl, ⟨Nat.le_refl _⟩, ⟨by simp⟩, ⟨rfl⟩, HF⟩
  case round =>
    clear HF hI1
    obtain ⟨us, s, p, off, rfl, rfl, rfl, rfl, HKJ, HOF, HD, HF⟩ := hrel
    cases us with
    | nil =>
      have HOF' : Aside0 (off = x.length) := ⟨by simpa using HOF.out⟩
      have d1b0 : decide ((off : Int) < (x.length : Int)) = false := decide_eq_false (by have := HOF'.out; omega)
      have d1b1 : decide (off < x.length) = false := decide_eq_false (by have := HOF'.out; omega)
      have H : facEnd hs s p = some hs' := HF.out
      unfold facEnd at H
      clear HF
      by_cases s1 : 0 < s
      · rw [if_pos s1] at H
        have s1b0 : decide (0 < s) = true := decide_eq_true s1
        by_cases p0 : p = 0
        · rw [if_pos p0] at H
          exact absurd H (by simp)
        · rw [if_neg p0] at H
          have p0b0 : (p == 0) = false := beq_eq_false_iff_ne.mpr p0
          have p0b1 : decide (p = 0) = false := decide_eq_false p0
          by_cases m0 : Int.tmod s p = 0
          · rw [if_pos m0] at H
            have m0b0 : (Int.tmod s p == 0) = true := beq_iff_eq.mpr m0
            have m0b1 : decide (Int.tmod s p = 0) = true := decide_eq_true m0
            by_cases q0 : wrap64 (Int.tdiv s p) ≤ 20
            · rw [if_pos q0] at H
              have q0b0 : decide (wrap64 (Int.tdiv s p) ≤ 20) = true := decide_eq_true q0
              by_cases q1 : 0 ≤ wrap64 (Int.tdiv s p)
              · rw [if_pos q1] at H
                obtain rfl : hs.set (wrap64 (Int.tdiv s p)).toNat true = hs' := Option.some.inj H
                have hq1 : (0 ≤ wrap64 (Int.tdiv s p)) = True := eq_true q1
                have hq2 : (wrap64 (Int.tdiv s p) < 21) = True := eq_true (by omega)
                have hlt : (wrap64 (Int.tdiv s p)).toNat < hs.length := by have := HLEN.out; omega
                obtain ⟨bv, hcell⟩ : ∃ bv, W.cell? ⟨B2, (wrap64 (Int.tdiv s p)).toNat, none⟩ = some bv := ⟨.bool hs[(wrap64 (Int.tdiv s p)).toNat], by simp [World.cell?, H2.out, hlt]⟩
                have hfz : W.frozen? ⟨B2, (wrap64 (Int.tdiv s p)).toNat, none⟩ = false := frozen_of_row W B2 _ _ _ H2.out
                have HLTS := Aside0.mk hlt
                clear H m0 s1 q0 q1 hlt
                go_wp2
                go_end0
                refine ⟨rfl, ⟨?_, ?_, .inl H34.out.1, .inl H34.out.2, by rw [List.length_set]; exact HLEN.out⟩, ⟨rfl, rfl, rfl, by simp, fun k_ hk hn => heap_setCell_other W _ k_ _ (fun e_ => hn (by rw [e_]; exact H34.out.2))⟩⟩
                · rw [World.cell?_of_block (heap_setCell_other W _ B1 _ HNE.out)]
                  exact HI1.out
                · rw [heap_setCell_same _ _ _ _ _ _ H2.out]
                  simp
              · rw [if_neg q1] at H
                exact absurd H (by simp)
            · rw [if_neg q0] at H
              have q0b0 : decide (wrap64 (Int.tdiv s p) ≤ 20) = false := decide_eq_false q0
              obtain rfl : hs = hs' := Option.some.inj H
              clear H m0 s1 q0
              go_wp2
              go_end0
              exact ⟨rfl, ⟨HI1.out, H2.out, .inl H34.out.1, .inl H34.out.2, HLEN.out⟩, Fr.refl _ _⟩
          · rw [if_neg m0] at H
            have m0b0 : (Int.tmod s p == 0) = false := beq_eq_false_iff_ne.mpr m0
            have m0b1 : decide (Int.tmod s p = 0) = false := decide_eq_false m0
            obtain rfl : hs = hs' := Option.some.inj H
            clear H m0 s1
            go_wp2
            go_end0
            exact ⟨rfl, ⟨HI1.out, H2.out, .inl H34.out.1, .inl H34.out.2, HLEN.out⟩, Fr.refl _ _⟩
      · rw [if_neg s1] at H
        have s1b0 : decide (0 < s) = false := decide_eq_false s1
        obtain rfl : hs = hs' := Option.some.inj H
        clear H s1
        go_wp2
        go_end0
        exact ⟨rfl, ⟨HI1.out, H2.out, .inl H34.out.1, .inl H34.out.2, HLEN.out⟩, Fr.refl _ _⟩
    | cons n us =>
      have HOL : Aside0 (off < x.length) := ⟨by have := HOF.out; simp at this; omega⟩
      have hlt : off < x.length := HOL.out
      have hltz : (off : Int) < (x.length : Int) := by omega
      have d1b0 : decide ((off : Int) < (x.length : Int)) = true := decide_eq_true hltz
      have d1b1 : decide (off < x.length) = true := decide_eq_true hlt
      obtain ⟨ad, e1, hx⟩ := Kd.at_int HK.out (off : Int) (by omega) (by omega)
      cases e1
      rw [Int.toNat_natCast] at hx
      have hd := HD.out
      rw [List.drop_eq_getElem_cons hlt] at hd
      injection hd with hn hd
      have hrd : rd x (off : Int) = n := by
        unfold rd
        rw [Int.toNat_natCast, List.getD_eq_getElem?_getD, List.getElem?_eq_getElem hlt, ← hn]
        rfl
      rw [hrd] at hx
      have HD' := Aside0.mk hd
      have HW : Aside0 (wrap64 ((off : Int) + 1) = ((off + 1 : Nat) : Int)) := ⟨by have := HOL.out; have := HX.out; unfold wrap64; omega⟩
      clear hn hd hrd HD
      go_wp2
      go_roundg us.length
      case measure => have := HKJ.out; simp at this; omega
      case rel => exact ⟨us, _, _, off + 1, rfl, rfl, (by rw [← HW.out]), rfl, ⟨Nat.le_refl _⟩, ⟨by have := HOF.out; simp at this; omega⟩, HD', HF⟩
theorem fac_vis (B1 B2 : Nat) (b : Int) (h12 : B1 ≠ B2) : Vis 65 #[.pointer (some ⟨B1, 0, none⟩), .pointer (some ⟨B2, 0, none⟩)] (IF B1 B2 b) (facStep b) where
  mono := by
    rintro s W ok ok' ⟨h1, h2, h3, h4, h5⟩ h
    exact ⟨h1, h2, h _ h3, h _ h4, h5⟩
  bound := by
    rintro s W ok ⟨h1, h2, h3, h4, h5⟩
    exact ⟨h1, h2, ⟨h3, World.block_lt_of_cell? _ _ h1⟩, ⟨h4, (Array.getElem?_eq_some_iff.1 h2).1⟩, h5⟩
  move := by
    rintro s W W1 ok ⟨h1, h2, h3, h4, h5⟩ h hs
    refine ⟨?_, (h B2 h4 (Array.getElem?_eq_some_iff.1 h2).1).trans h2, h3, h4, h5⟩
    rw [World.cell?_of_block (h B1 h3 (World.block_lt_of_cell? _ _ h1))]
    exact h1
  visit := fun s s' W A c x ok hI hf hK hc hx => fac_visit B1 B2 b h12 s s' W A c x ok hI hf hK hc hx

def foundF : List Bool → Int → List Int
  | [], _ => []
  | h :: t, i => if h = true then i :: foundF t (i + 1) else foundF t (i + 1)
def impl_FactorsFor.f (a0 a1 a2 : Int) : Option (List Int × Bool) := (impl_areTried.f a0 a1 a2).bind fun t => (if t = true then (if 0 ≤ a0 ∧ a0 ≤ 900 ∧ a2 ≤ 1000000 then ((fallS (facStep a1) a0.toNat [] a2 (List.replicate 21 false)).bind fun hs => some (foundF hs 0, true)) else none) else some ([], false))
set_option maxHeartbeats 4000000 in
set_option maxRecDepth 100000 in
theorem impl_FactorsFor.calls (a0 a1 a2 : Int) (r1 : List Int) (r2 : Bool) (w : World) (h : impl_FactorsFor.f a0 a1 a2 = some (r1, r2)) :
    Calls Try.prog 24 #[.int .i64 a0, .int .i64 a1, .int .i64 a2] w fun e w' => ∃ v0_ : Value, e = .returned (.tuple #[v0_, .bool r2]) ∧ Kd.R (Kd.int .i64) 3 w' w.heap.size (fun _ => True) v0_ r1 ∧ Below w.heap.size w w' := by
  unfold impl_FactorsFor.f at h
  obtain ⟨t, A3, h⟩ := Option.bind_eq_some_iff.mp h
  have HB := Aside0.mk (below_alloc (Below.refl w.heap.size w) (.cells #[.int .i64 a1] 3))
  have HC1 : Aside0 ((w.alloc (.cells #[.int .i64 a1] 3)).cell? ⟨w.heap.size, 0, none⟩ = some (.int .i64 a1)) := ⟨by simp⟩
  have HSZ : Aside0 ((w.alloc (.cells #[.int .i64 a1] 3)).heap.size = w.heap.size + 1) := ⟨by simp⟩
  have HA3 := Aside0.mk A3
  clear A3
  cases t with
  | false =>
    obtain ⟨rfl, rfl⟩ : ([] : List Int) = r1 ∧ false = r2 := by simpa using h
    clear h
    go_enter Try.func24, Try.ntmps24
    go_wp2_with (go_at_call 63; refine (impl_areTried.calls a0 a1 a2 false _ HA3.out).mono ?_; rintro e w5 ⟨rfl, ⟨nd1, rfl⟩⟩)
    go_ret2
    exact ⟨_, rfl, Kd.R_nil _ _ _ _ _, pw_below_drewN HB.out _⟩
  | true =>
    replace h : (if 0 ≤ a0 ∧ a0 ≤ 900 ∧ a2 ≤ 1000000 then ((fallS (facStep a1) a0.toNat [] a2 (List.replicate 21 false)).bind fun hs => some (foundF hs 0, true)) else none) = some (r1, r2) := by simpa using h
    by_cases hg : 0 ≤ a0 ∧ a0 ≤ 900 ∧ a2 ≤ 1000000
    · rw [if_pos hg] at h
      obtain ⟨hs, HF, h⟩ := Option.bind_eq_some_iff.mp h
      obtain ⟨rfl, rfl⟩ : foundF hs 0 = r1 ∧ true = r2 := by simpa using h
      have HF := Aside0.mk HF
      have HGD := Aside0.mk hg
      clear h hg
      go_enter Try.func24, Try.ntmps24
      go_wp2_with (first
        | (go_at_call 63; refine (impl_areTried.calls a0 a1 a2 true _ HA3.out).mono ?_; rintro e w5 ⟨rfl, ⟨nd1, hw5⟩⟩; have n0_ := Aside0.mk (show Below w.heap.size w w5 by rw [hw5]; exact pw_below_drewN HB.out _); have n1_ := Aside0.mk (show w5.cell? ⟨w.heap.size, 0, none⟩ = some (.int .i64 a1) by rw [hw5]; exact HC1.out); have n2_ := Aside0.mk (show w5.heap.size = w.heap.size + 1 by rw [hw5]; exact HSZ.out); clear hw5 HB HC1 HSZ; have HB := n0_; have HC1 := n1_; have HSZ := n2_; clear n0_ n1_ n2_)
        | (refine wpList_store_mid (P := Try.prog) rfl 55 (.tmp 8) (.tmp 17) rfl w5.heap.size 0 noB.toArray rfl (by rw [noB_is]; rfl) ?c1 infoHas (all_oneCell_toArray (fun v hv => by rw [List.eq_of_mem_replicate hv]; rfl)) ?_; (case c1 => exact row_there (heap_alloc_new w5 _)); rw [← noB_is]; have h0_ : (w5.alloc (.cells noB.toArray 55)).heap[w5.heap.size]? = some (.cells noB.toArray 55 (0, 0)) := heap_alloc_new w5 _; rw [show (w5.alloc (.cells noB.toArray 55)).setCells w5.heap.size 0 noB.toArray.toList = w5.alloc (.cells noB.toArray 55) from setCells_same w5.heap.size 55 noB.toArray.toList 0 _ noB.toArray h0_ (fun j v hv => by rw [Nat.zero_add]; rw [Array.getElem?_toList] at hv; exact hv)]; clear h0_)
        | (go_at_call 64; refine (falling_fac (IF w.heap.size w5.heap.size a1) (facStep a1) w.heap.size w5.heap.size (fac_vis _ _ a1 (by have := HSZ.out; omega)) a0.toNat a0 [] a2 (List.replicate 21 false) hs _ (.slice none 0 0) (fun k_ => w.heap.size ≤ k_) (by have := HGD.out; omega) (by have := HGD.out; simp; omega) (by have := HGD.out; omega) HGD.out.2.2 ?hI (.inl ⟨rfl, rfl⟩) (by simp [Value.ownBlock]) HF.out).mono ?_; (case hI => exact ⟨pw_cell_below (below_alloc (Below.refl _ _) _) HC1.out, heap_alloc_new _ _, Nat.le_refl _, by have := HSZ.out; omega, by simp⟩); rintro e w6 ⟨rfl, ⟨hi1, hi2, hi3, hi4, hi5⟩, hf, _⟩; have H2 := Aside0.mk hi2; have HLEN := Aside0.mk hi5; have n1_ := Aside0.mk ((below_alloc HB.out (.cells noB.toArray 55)).trans (Fr.below hf (fun k_ hk => ⟨by have := HSZ.out; simp; omega, fun h_ => by rcases h_ with h_ | h_; omega; simp [Value.ownBlock] at h_⟩))); clear hi1 hi2 hi3 hi4 hi5 hf HB; have HB := n1_; clear n1_)
        | ((with_reducible refine gate_dst (N := 22) rfl ?_); refine Kd.R_lit (Kd.int .i64) _ 3 ?hg (N := 22) ?hd (xs := ([] : List Int)) (inner := []) (ok := fun _ => True) (okp := fun _ => True) ?hr ?hp (fun _ hk => hk) trivial (Below.refl _ _) (Nat.le_refl _) (by simp) ?_; (case hd => rfl); (case hg => rfl); (case hr => first | (go_simp; done) | (go_simp; rfl)); (case hp => exact Reps.none _ _); intro v1 w7 ho hb hg_ hnew_; clear hg_ hnew_; have n0_ := Aside0.mk (Kd.R_lower ho (below_size HB.out)); have n1_ := Aside0.mk (below_step HB.out hb); have n2_ := Aside0.mk ((hb.block _ (Array.getElem?_eq_some_iff.1 H2.out).1).trans H2.out); clear HB H2 ho hb; have HO5 := n0_; have HB := n1_; have H2 := n2_; clear n0_ n1_ n2_; obtain ⟨Ao1, co1, eo1⟩ := Kd.R_slice HO5.out; subst eo1)
        | (refine wpList_load_mid (P := Try.prog) rfl 55 (.tmp 8) rfl w5.heap.size 0 rfl (hs.map Value.bool) _ (row_range H2.out) Try.underlying55 rfl (by rw [List.length_map, HLEN.out]; exact infoHas) ?_))
      go_loopg [9, 24] 21 (fun kj v9 v24 wr => ∃ (o : List Int) (off : Nat), v24 = .int .i64 (off : Int) ∧ Aside0 (off ≤ 21) ∧ Aside0 (21 - off ≤ kj) ∧ Aside0 (o ++ foundF (hs.drop off) (off : Int) = foundF hs 0) ∧ Aside0 (o.length ≤ off) ∧ Aside0 (Kd.R (Kd.int .i64) 3 wr w.heap.size (fun _ => True) v9 o) ∧ Aside0 (Below w.heap.size w wr))
      case atStart => exact ⟨[], 0, rfl, ⟨by omega⟩, ⟨by omega⟩, ⟨rfl⟩, ⟨by simp⟩, HO5, HB⟩
      case round =>
        clear HO5 HB H2 HF HA3 HC1
        obtain ⟨o, off, rfl, H21, HKJ, HFD, HOL, HO5, HB⟩ := hrel
        by_cases c1 : off < 21
        · have c1z : (off : Int) < 21 := by omega
          have c1b0 : decide ((off : Int) < 21) = true := decide_eq_true c1z
          have c1b1 : decide (off < 21) = true := decide_eq_true c1
          have hlt : off < hs.length := by have := HLEN.out; omega
          have HW : Aside0 (wrap64 ((off : Int) + 1) = ((off + 1 : Nat) : Int)) := ⟨by unfold wrap64; omega⟩
          have hfd := HFD.out
          rw [List.drop_eq_getElem_cons hlt, foundF] at hfd
          obtain ⟨bv, hbv⟩ : ∃ bv, bv = hs[off] := ⟨_, rfl⟩
          rw [← hbv] at hfd
          have hidx : hs[off]? = some bv := by rw [hbv, List.getElem?_eq_getElem hlt]
          have hidx2 : (List.map Value.bool hs)[off]? = some (.bool bv) := by rw [List.getElem?_map, hidx]; rfl
          have hix := run_index_bools wr hs off bv hidx c1
          have HC1 := Aside0.mk c1
          have eoff : ((off : Int)).toNat = off := Int.toNat_natCast off
          clear hbv hlt HFD
          cases bv with
          | false =>
            have HFD : Aside0 (o ++ foundF (hs.drop (off + 1)) ((off + 1 : Nat) : Int) = foundF hs 0) := ⟨by simpa using hfd⟩
            clear hfd c1
            go_wp2
            go_roundg (21 - (off + 1))
            case measure => have := HKJ.out; have := HC1.out; omega
            case rel => exact ⟨o, off + 1, (by first | (rw [← HW.out]; done) | (simp; done) | rfl), ⟨by have := HC1.out; omega⟩, ⟨Nat.le_refl _⟩, HFD, ⟨by have := HOL.out; omega⟩, HO5, HB⟩
          | true =>
            have HFD : Aside0 ((o ++ [(off : Int)]) ++ foundF (hs.drop (off + 1)) ((off + 1 : Nat) : Int) = foundF hs 0) := ⟨by rw [List.append_assoc]; simpa using hfd⟩
            clear hfd c1
            obtain ⟨A9, c9, e9⟩ := Kd.R_slice HO5.out
            subst e9
            go_wp2_with (first
              | ((with_reducible refine gate_builtin (b := .append) (xs := #[.tmp 29, .tmp 31]) rfl ?_); at_builtin; refine Kd.R_append (Kd.int .i64) (w0 := w) w.heap.size rfl (.tmp 29) (.tmp 31) 22 3 (.int .i64 0) 8 rfl Try.underlying22 info3 rfl (by decide) (by omega) (.slice A9 o.length c9) o (off : Int) [.int .i64 (off : Int)] (fun _ => True) (fun _ => False) rfl rfl rfl (fun _ h_ => h_.elim) (fun _ _ => trivial) HO5.out HB.out (below_size HB.out) (by have := HOL.out; have := HC1.out; omega) ?_; intro v1 w1 ho hb hg hat; clear HO5 HB; have HO5 := Aside0.mk ho; have HB := Aside0.mk hb; clear ho hb hg hat))
            go_roundg (21 - (off + 1))
            case measure => have := HKJ.out; have := HC1.out; omega
            case rel => exact ⟨o ++ [(off : Int)], off + 1, (by first | (rw [← HW.out]; done) | (simp; done) | rfl), ⟨by have := HC1.out; omega⟩, ⟨Nat.le_refl _⟩, HFD, ⟨by have := HOL.out; simp; omega⟩, HO5, HB⟩
        · have c1b0 : decide ((off : Int) < 21) = false := decide_eq_false (by omega)
          have c1b1 : decide (off < 21) = false := decide_eq_false c1
          have HE : Aside0 (o = foundF hs 0) := ⟨by
            have h_ := HFD.out
            rw [List.drop_of_length_le (by have := HLEN.out; omega)] at h_
            simpa [foundF] using h_⟩
          clear c1
          go_wp2
          go_ret2
          exact ⟨_, rfl, by rw [← HE.out]; exact HO5.out, HB.out⟩
    · rw [if_neg hg] at h
      exact absurd h (by simp)
end Go.Proofs.Ytfdjbcbhlfjogaa.P

-- PFFnExactFactorsFor
namespace Go.Proofs.Ytfdjbcbhlfjogaa.P
open Go.RowKit Go.Proofs.YtfdjbcbhlfjogaaW.PrintWords Go.Proofs.YtfdjbcbhlfjogaaW.PrintLast
set_option linter.unusedVariables false
set_option linter.unusedSimpArgs false

/-! ### laws_FnExactFactorsFor: function 6 -/
mutual
def laws_FnExactFactorsFor.j0 : Nat → Int → Int → Int → List Int → Bool → List Int → Bool → Option (Bool)
 | 0, _, _, _, _, _, _, _ => none
 | k + 1, x0, x1, x2, x7, x8, x9, x37 => if x37 = true then (some false) else ((laws_markIntS.f k x9 1).bind fun bt251 => ((laws_heldIntS.f k bt251.2 1).bind fun t253 => (if t253 < 0 then (some false) else (if t253 = bt251.1 then ((impl_FactorsFor.f x0 x1 x2).bind fun bt254 => ((laws_eqIntS.f k bt254.1 x7).bind fun t258 => (if t258 = true then (laws_FnExactFactorsFor.j1 k bt251.2 bt251.1 (bt254.2 != x8)) else (laws_FnExactFactorsFor.j1 k bt251.2 bt251.1 true)))) else (some false)))))
def laws_FnExactFactorsFor.j1 : Nat → List Int → Int → Bool → Option (Bool)
 | 0, _, _, _ => none
 | k + 1, x9, x11, x64 => if x64 = true then (some false) else ((laws_heldIntS.f k x9 1).bind fun t259 => (if t259 < 0 then (some false) else (if t259 = x11 then (some true) else (some false))))
end
def laws_FnExactFactorsFor.f (k : Nat) (a0 : Int) (a1 : Int) (a2 : Int) : Option (Bool) := (spec_FactorsFor.f k a0 a1 a2).bind fun bt242 => ((impl_FactorsFor.f a0 a1 a2).bind fun bt246 => ((laws_eqIntS.f k bt246.1 bt242.1).bind fun t250 => (if t250 = true then (laws_FnExactFactorsFor.j0 k a0 a1 a2 bt242.1 bt242.2 bt246.1 (bt246.2 != bt242.2)) else (laws_FnExactFactorsFor.j0 k a0 a1 a2 bt242.1 bt242.2 bt246.1 true))))
theorem laws_FnExactFactorsFor.mono_l : ∀ k, (∀ y0 y1 y2 y3 y4 y5 y6, LeO (laws_FnExactFactorsFor.j0 k y0 y1 y2 y3 y4 y5 y6) (laws_FnExactFactorsFor.j0 (k + 1) y0 y1 y2 y3 y4 y5 y6)) ∧ (∀ y0 y1 y2, LeO (laws_FnExactFactorsFor.j1 k y0 y1 y2) (laws_FnExactFactorsFor.j1 (k + 1) y0 y1 y2))
 | 0 => ⟨fun _ _ _ _ _ _ _ r h => by simp [laws_FnExactFactorsFor.j0] at h, fun _ _ _ r h => by simp [laws_FnExactFactorsFor.j1] at h⟩
 | k + 1 => by
  obtain ⟨ih0, ih1⟩ := laws_FnExactFactorsFor.mono_l k
  refine ⟨?_, ?_⟩
  ·intro y0 y1 y2 y3 y4 y5 y6
   unfold laws_FnExactFactorsFor.j0
   repeat' first
   | (with_reducible exact ih0 _ _ _ _ _ _ _)
   | (with_reducible exact ih1 _ _ _)
   | (with_reducible exact laws_eqIntS.mono _ _ _)
   | (with_reducible exact laws_heldIntS.mono _ _ _)
   | (with_reducible exact laws_markIntS.mono _ _ _)
   | (with_reducible exact spec_FactorsFor.mono _ _ _ _)
   | (with_reducible exact LeO.refl _)
   | (with_reducible exact LeO.none _)
   | (with_reducible refine LeO.ite ?_ ?_)
   | (with_reducible refine LeO.bind ?_ (fun _ => ?_))
   | exact ih0 _ _ _ _ _ _ _
   | exact ih1 _ _ _
   | exact laws_eqIntS.mono _ _ _
   | exact laws_heldIntS.mono _ _ _
   | exact laws_markIntS.mono _ _ _
   | exact spec_FactorsFor.mono _ _ _ _
   | exact LeO.none _
   | refine LeO.ite ?_ ?_
   | refine LeO.bind ?_ (fun _ => ?_)
  ·intro y0 y1 y2
   unfold laws_FnExactFactorsFor.j1
   repeat' first
   | (with_reducible exact ih0 _ _ _ _ _ _ _)
   | (with_reducible exact ih1 _ _ _)
   | (with_reducible exact laws_eqIntS.mono _ _ _)
   | (with_reducible exact laws_heldIntS.mono _ _ _)
   | (with_reducible exact laws_markIntS.mono _ _ _)
   | (with_reducible exact spec_FactorsFor.mono _ _ _ _)
   | (with_reducible exact LeO.refl _)
   | (with_reducible exact LeO.none _)
   | (with_reducible refine LeO.ite ?_ ?_)
   | (with_reducible refine LeO.bind ?_ (fun _ => ?_))
   | exact ih0 _ _ _ _ _ _ _
   | exact ih1 _ _ _
   | exact laws_eqIntS.mono _ _ _
   | exact laws_heldIntS.mono _ _ _
   | exact laws_markIntS.mono _ _ _
   | exact spec_FactorsFor.mono _ _ _ _
   | exact LeO.none _
   | refine LeO.ite ?_ ?_
   | refine LeO.bind ?_ (fun _ => ?_)
theorem laws_FnExactFactorsFor.mono : ∀ a0 a1 a2 k, LeO (laws_FnExactFactorsFor.f k a0 a1 a2) (laws_FnExactFactorsFor.f (k + 1) a0 a1 a2) := by
 intro a0 a1 a2 k
 obtain ⟨ih0, ih1⟩ := laws_FnExactFactorsFor.mono_l k
 unfold laws_FnExactFactorsFor.f
 repeat' first
   | (with_reducible exact ih0 _ _ _ _ _ _ _)
   | (with_reducible exact ih1 _ _ _)
   | (with_reducible exact laws_eqIntS.mono _ _ _)
   | (with_reducible exact laws_heldIntS.mono _ _ _)
   | (with_reducible exact laws_markIntS.mono _ _ _)
   | (with_reducible exact spec_FactorsFor.mono _ _ _ _)
   | (with_reducible exact LeO.refl _)
   | (with_reducible exact LeO.none _)
   | (with_reducible refine LeO.ite ?_ ?_)
   | (with_reducible refine LeO.bind ?_ (fun _ => ?_))
   | exact ih0 _ _ _ _ _ _ _
   | exact ih1 _ _ _
   | exact laws_eqIntS.mono _ _ _
   | exact laws_heldIntS.mono _ _ _
   | exact laws_markIntS.mono _ _ _
   | exact spec_FactorsFor.mono _ _ _ _
   | exact LeO.none _
   | refine LeO.ite ?_ ?_
   | refine LeO.bind ?_ (fun _ => ?_)
set_option maxHeartbeats 8000000 in
set_option maxRecDepth 100000 in
theorem laws_FnExactFactorsFor.calls (k : Nat) (a0 : Int) (a1 : Int) (a2 : Int) (r : Bool) (w : World) (h : laws_FnExactFactorsFor.f k a0 a1 a2 = some r) :
  Calls Try.prog 6 #[.int .i64 a0, .int .i64 a1, .int .i64 a2] w fun e w' => e = .returned (.bool r) ∧ Below w.heap.size w w' := by
 have HB := Aside0.mk (Below.refl w.heap.size w)
 have H : ((spec_FactorsFor.f k a0 a1 a2).bind fun bt242 => ((impl_FactorsFor.f a0 a1 a2).bind fun bt246 => ((laws_eqIntS.f k bt246.1 bt242.1).bind fun t250 => (if t250 = true then (laws_FnExactFactorsFor.j0 k a0 a1 a2 bt242.1 bt242.2 bt246.1 (bt246.2 != bt242.2)) else (laws_FnExactFactorsFor.j0 k a0 a1 a2 bt242.1 bt242.2 bt246.1 true))))) = some r := h
 clear h
 replace H := Option.bind_eq_some_iff.mp H
 obtain ⟨⟨t242, t243⟩, A40, H⟩ := H
 replace H : ((impl_FactorsFor.f a0 a1 a2).bind fun bt246 => ((laws_eqIntS.f k bt246.1 t242).bind fun t250 => (if t250 = true then (laws_FnExactFactorsFor.j0 k a0 a1 a2 t242 t243 bt246.1 (bt246.2 != t243)) else (laws_FnExactFactorsFor.j0 k a0 a1 a2 t242 t243 bt246.1 true)))) = some r := H
 have A4 := Aside0.mk A40
 clear A40
 replace H := Option.bind_eq_some_iff.mp H
 obtain ⟨⟨t246, t247⟩, A50, H⟩ := H
 replace H : ((laws_eqIntS.f k t246 t242).bind fun t250 => (if t250 = true then (laws_FnExactFactorsFor.j0 k a0 a1 a2 t242 t243 t246 (t247 != t243)) else (laws_FnExactFactorsFor.j0 k a0 a1 a2 t242 t243 t246 true))) = some r := H
 have A5 := Aside0.mk A50
 clear A50
 have HC6 := Aside0.mk H
 clear H
 go_enter Try.func6, Try.ntmps6
 go_upto_region 3 with (first | ((with_reducible refine gate_callee (f := 23) rfl ?_); refine goesL_ (some 19) rfl rfl Try.func23 (by kernel_rfl) rfl #[.int .i64 a0, .int .i64 a1, .int .i64 a2] rfl (by (try simp only [List.map_toArray, List.map_cons, List.map_nil]); first | done | rfl | (simp only [List.length_drop, List.length_take]; rfl)) ?_; (with_reducible refine (spec_FactorsFor.calls k a0 a1 a2 t242 t243 _ A4.out).mono ?_); rintro e w7 ⟨v244, rfl, ho0, hb⟩; refine ⟨_, rfl, ?_⟩; have n0_ := Aside0.mk (Kd.R_lower ho0 (below_size (by repeat (first | (with_reducible first | exact HB.out | apply below_alloc | apply pw_below_drewN | apply below_drew1) | exact HB.out)))); have n1_ := Aside0.mk (below_step (by repeat (first | (with_reducible first | exact HB.out | apply below_alloc | apply pw_below_drewN | apply below_drew1) | exact HB.out)) hb); clear HB; have HO245 := n0_; have HB := n1_; clear n0_ n1_; (try clear hb); (try clear hb2); (try clear hk); (try clear hi); (try clear ho0)) | ((with_reducible refine gate_callee (f := 24) rfl ?_); refine goesL_ (some 26) rfl rfl Try.func24 (by kernel_rfl) rfl #[.int .i64 a0, .int .i64 a1, .int .i64 a2] rfl (by (try simp only [List.map_toArray, List.map_cons, List.map_nil]); first | done | rfl | (simp only [List.length_drop, List.length_take]; rfl)) ?_; (with_reducible refine (impl_FactorsFor.calls a0 a1 a2 t246 t247 _ A5.out).mono ?_); rintro e w8 ⟨v248, rfl, ho0, hb⟩; refine ⟨_, rfl, ?_⟩; have n0_ := Aside0.mk (Kd.R_elder' (by (with_reducible repeat (first | apply Kd.R_alloc | apply Kd.R_drewN | apply Kd.R_drew)); exact HO245.out) (Kd.R_base ho0) hb); have n1_ := Aside0.mk (Kd.R_lower (Kd.R_new' ho0 (Kd.R_lt (by (with_reducible repeat (first | apply Kd.R_alloc | apply Kd.R_drewN | apply Kd.R_drew)); exact HO245.out))) (below_size (by repeat (first | (with_reducible first | exact HB.out | apply below_alloc | apply pw_below_drewN | apply below_drew1) | exact HB.out)))); have n2_ := Aside0.mk (below_step (by repeat (first | (with_reducible first | exact HB.out | apply below_alloc | apply pw_below_drewN | apply below_drew1) | exact HB.out)) hb); clear HO245; clear HB; have HO245 := n0_; have HO249 := n1_; have HB := n2_; clear n0_ n1_ n2_; (try clear hb); (try clear hb2); (try clear hk); (try clear hi); (try clear ho0)))
 (try simp only [Act.put, List.setIfInBounds_toArray, List.set_cons_zero, List.set_cons_succ])
 go_cut [37] (fun v37 wc => ∃ (kq : Nat) (x37_5 : Bool), v37 = .bool x37_5 ∧ Aside0 (laws_FnExactFactorsFor.j0 kq a0 a1 a2 t242 t243 t246 x37_5 = some r) ∧ Aside0 (kq ≤ k) ∧ Aside0 (Kd.R (Kd.int .i64) 3 wc w.heap.size (fun k_ => some k_ ≠ (v248 : Value).ownBlock) v244 t242) ∧ Aside0 (Kd.R (Kd.int .i64) 3 wc w.heap.size (fun k_ => some k_ ≠ (v244 : Value).ownBlock) v248 t246) ∧ Aside0 (Below w.heap.size w wc))
 case first =>
  have H := HC6.out
  clear HC6
  replace H := Option.bind_eq_some_iff.mp H
  obtain ⟨t250, A90, H⟩ := H
  replace H : (if t250 = true then (laws_FnExactFactorsFor.j0 k a0 a1 a2 t242 t243 t246 (t247 != t243)) else (laws_FnExactFactorsFor.j0 k a0 a1 a2 t242 t243 t246 true)) = some r := H
  have A9 := Aside0.mk A90
  clear A90
  by_cases c10 : t250 = true
  ·subst c10
   have H1 : (laws_FnExactFactorsFor.j0 k a0 a1 a2 t242 t243 t246 (t247 != t243)) = some r := by rw [if_pos rfl] at H; exact H
   clear H
   have H := H1
   clear H1
   have H' := Aside0.mk H
   clear H
   obtain ⟨Ao11, co11, eo11⟩ := Kd.R_slice HO249.out
   subst eo11
   obtain ⟨Ao12, co12, eo12⟩ := Kd.R_slice HO245.out
   subst eo12
   go_wp2_with (first | ((with_reducible refine gate_callee (f := 18) rfl ?_); refine goesL_ (some 31) rfl rfl Try.func18 (by kernel_rfl) rfl #[.slice Ao11 t246.length co11, .slice Ao12 t242.length co12] rfl (by (try simp only [List.map_toArray, List.map_cons, List.map_nil]); first | done | rfl | (simp only [List.length_drop, List.length_take]; rfl)) ?_; (with_reducible refine (laws_eqIntS.calls k _ _ t246 _ _ t242 true _ ?side1 ?side2 ?side3 ?side4 A9.out).mono ?_); (case side1 => repeat (first | exact (Kd.R_reads' HO249.out).2.2 | (with_reducible refine Kd.C_alloc ?_ _) | (with_reducible refine Kd.C_drewN ?_ _) | (with_reducible refine Kd.C_drew ?_))); (case side2 => exact (Kd.R_reads' HO249.out).2.1); (case side3 => repeat (first | exact (Kd.R_reads' HO245.out).2.2 | (with_reducible refine Kd.C_alloc ?_ _) | (with_reducible refine Kd.C_drewN ?_ _) | (with_reducible refine Kd.C_drew ?_))); (case side4 => exact (Kd.R_reads' HO245.out).2.1); rintro e w' ⟨rfl, ⟨nd, rfl⟩⟩; refine ⟨_, rfl, ?_⟩))
   go_meet
   case rel => exact ⟨_, ((t247 != t243)), (by first | rfl | (simp; done) | (simp [*]; done)), H', ⟨by first | omega | exact Nat.le_refl _⟩, ⟨by (with_reducible repeat (first | apply Kd.R_alloc | apply Kd.R_drewN | apply Kd.R_drew)); exact Kd.R_mono HO245.out (fun _ hk => hk.2)⟩, ⟨by (with_reducible repeat (first | apply Kd.R_alloc | apply Kd.R_drewN | apply Kd.R_drew)); exact Kd.R_mono HO249.out (fun _ hk => hk.2)⟩, ⟨by repeat (first | (with_reducible first | exact HB.out | apply below_alloc | apply pw_below_drewN | apply below_drew1) | exact HB.out)⟩⟩
  ·replace c10 := Bool.eq_false_iff.mpr c10
   subst c10
   have H1 : (laws_FnExactFactorsFor.j0 k a0 a1 a2 t242 t243 t246 true) = some r := by rw [if_neg (show ¬ (false = true) by decide)] at H; exact H
   clear H
   have H := H1
   clear H1
   have H' := Aside0.mk H
   clear H
   obtain ⟨Ao13, co13, eo13⟩ := Kd.R_slice HO249.out
   subst eo13
   obtain ⟨Ao14, co14, eo14⟩ := Kd.R_slice HO245.out
   subst eo14
   go_wp2_with (first | ((with_reducible refine gate_callee (f := 18) rfl ?_); refine goesL_ (some 31) rfl rfl Try.func18 (by kernel_rfl) rfl #[.slice Ao13 t246.length co13, .slice Ao14 t242.length co14] rfl (by (try simp only [List.map_toArray, List.map_cons, List.map_nil]); first | done | rfl | (simp only [List.length_drop, List.length_take]; rfl)) ?_; (with_reducible refine (laws_eqIntS.calls k _ _ t246 _ _ t242 false _ ?side1 ?side2 ?side3 ?side4 A9.out).mono ?_); (case side1 => repeat (first | exact (Kd.R_reads' HO249.out).2.2 | (with_reducible refine Kd.C_alloc ?_ _) | (with_reducible refine Kd.C_drewN ?_ _) | (with_reducible refine Kd.C_drew ?_))); (case side2 => exact (Kd.R_reads' HO249.out).2.1); (case side3 => repeat (first | exact (Kd.R_reads' HO245.out).2.2 | (with_reducible refine Kd.C_alloc ?_ _) | (with_reducible refine Kd.C_drewN ?_ _) | (with_reducible refine Kd.C_drew ?_))); (case side4 => exact (Kd.R_reads' HO245.out).2.1); rintro e w' ⟨rfl, ⟨nd, rfl⟩⟩; refine ⟨_, rfl, ?_⟩))
   go_meet
   case rel => exact ⟨_, (true), (by first | rfl | (simp; done) | (simp [*]; done)), H', ⟨by first | omega | exact Nat.le_refl _⟩, ⟨by (with_reducible repeat (first | apply Kd.R_alloc | apply Kd.R_drewN | apply Kd.R_drew)); exact Kd.R_mono HO245.out (fun _ hk => hk.2)⟩, ⟨by (with_reducible repeat (first | apply Kd.R_alloc | apply Kd.R_drewN | apply Kd.R_drew)); exact Kd.R_mono HO249.out (fun _ hk => hk.2)⟩, ⟨by repeat (first | (with_reducible first | exact HB.out | apply below_alloc | apply pw_below_drewN | apply below_drew1) | exact HB.out)⟩⟩
 case rest =>
  clear HC6
  try clear c1
  try clear c2
  try clear p2
  try clear c6
  try clear c10
  obtain ⟨kq, x37_5, rfl, HA, HJ5, HO_7, HO_9, HB⟩ := hcut
  cases kq with
  | zero => exact absurd HA.out (by simp [laws_FnExactFactorsFor.j0])
  | succ kj5 =>
   have H := HA.out
   clear HA
   simp only [laws_FnExactFactorsFor.j0] at H
   by_cases c15 : x37_5 = true
   ·subst c15
    have H1 : (some false) = some r := by rw [if_pos rfl] at H; exact H
    clear H
    have H := H1
    clear H1
    obtain rfl := Option.some.inj H
    go_wp2
    go_ret
    exact ⟨by first | rfl | (simp [errW_none, errW_some] <;> rfl) | (simp [*, errW_none, errW_some] <;> rfl), by repeat (first | (with_reducible first | exact HB.out | apply below_alloc | apply pw_below_drewN | apply below_drew1) | exact HB.out)⟩
   ·replace c15 := Bool.eq_false_iff.mpr c15
    subst c15
    have H1 : ((laws_markIntS.f kj5 t246 1).bind fun bt251 => ((laws_heldIntS.f kj5 bt251.2 1).bind fun t253 => (if t253 < 0 then (some false) else (if t253 = bt251.1 then ((impl_FactorsFor.f a0 a1 a2).bind fun bt254 => ((laws_eqIntS.f kj5 bt254.1 t242).bind fun t258 => (if t258 = true then (laws_FnExactFactorsFor.j1 kj5 bt251.2 bt251.1 (bt254.2 != t243)) else (laws_FnExactFactorsFor.j1 kj5 bt251.2 bt251.1 true)))) else (some false))))) = some r := by rw [if_neg (show ¬ (false = true) by decide)] at H; exact H
    clear H
    have H := H1
    clear H1
    replace H := Option.bind_eq_some_iff.mp H
    obtain ⟨⟨t251, t252⟩, A160, H⟩ := H
    replace H : ((laws_heldIntS.f kj5 t252 1).bind fun t253 => (if t253 < 0 then (some false) else (if t253 = t251 then ((impl_FactorsFor.f a0 a1 a2).bind fun bt254 => ((laws_eqIntS.f kj5 bt254.1 t242).bind fun t258 => (if t258 = true then (laws_FnExactFactorsFor.j1 kj5 t252 t251 (bt254.2 != t243)) else (laws_FnExactFactorsFor.j1 kj5 t252 t251 true)))) else (some false)))) = some r := H
    have A16 := Aside0.mk A160
    clear A160
    replace H := Option.bind_eq_some_iff.mp H
    obtain ⟨t253, A170, H⟩ := H
    replace H : (if t253 < 0 then (some false) else (if t253 = t251 then ((impl_FactorsFor.f a0 a1 a2).bind fun bt254 => ((laws_eqIntS.f kj5 bt254.1 t242).bind fun t258 => (if t258 = true then (laws_FnExactFactorsFor.j1 kj5 t252 t251 (bt254.2 != t243)) else (laws_FnExactFactorsFor.j1 kj5 t252 t251 true)))) else (some false))) = some r := H
    have A17 := Aside0.mk A170
    clear A170
    by_cases c18 : t253 < 0
    ·rw [if_pos c18] at H
     have c18b0 : decide (t253 < 0) = true := decide_eq_true c18
     clear c18
     obtain rfl := Option.some.inj H
     obtain ⟨Ao19, co19, eo19⟩ := Kd.R_slice HO_9.out
     subst eo19
     go_wp2_with (first | ((with_reducible refine gate_callee (f := 25) rfl ?_); refine goesL_ (some 40) rfl rfl Try.func25 (by kernel_rfl) rfl #[.slice Ao19 t246.length co19, .int .i64 1] rfl (by (try simp only [List.map_toArray, List.map_cons, List.map_nil]); first | done | rfl | (simp only [List.length_drop, List.length_take]; rfl)) ?_; (with_reducible refine (laws_markIntS.calls kj5 (fun k_ => some k_ = (.slice Ao19 t246.length co19 : Value).ownBlock) (.slice Ao19 t246.length co19) t246 1 t251 t252 w _ ?side1 ?side2 A16.out).mono ?_); (case side1 => repeat (first | (with_reducible first | exact HB.out | apply below_alloc | apply pw_below_drewN | apply below_drew1) | exact HB.out)); (case side2 => exact Kd.R_tight rfl HO_9.out); rintro e w20 ⟨rfl, hy0, hb, hkp⟩; refine ⟨_, rfl, ?_⟩; have n0_ := Aside0.mk (Kd.R_mono (ok' := fun k_ => some k_ ≠ (.slice Ao19 t246.length co19 : Value).ownBlock) (Kd.R_keptB (HO_7.out) hkp (fun k_ hk_ hs_ => (hk_) hs_)) (fun k_ hk_ => hk_.1)); have n1_ := Aside0.mk (Kd.R_reok rfl hy0 (fun k_ e_ => HO_9.out.1 k_ e_)); have n2_ := Aside0.mk (hb); clear HO_7; clear HO_9; clear HB; have HO_7 := n0_; have HO_9 := n1_; have HB := n2_; clear n0_ n1_ n2_; (try clear hb); (try clear hkp); (try clear hy0)) | ((with_reducible refine gate_callee (f := 26) rfl ?_); refine goesL_ (some 43) rfl rfl Try.func26 (by kernel_rfl) rfl #[.slice Ao19 t252.length co19, .int .i64 1] rfl (by (try simp only [List.map_toArray, List.map_cons, List.map_nil]); first | done | (rw [show t252.length = t246.length from (Kd.R_reads' HO_9.out).1.symm] <;> rfl) | rfl | (simp only [List.length_drop, List.length_take]; rfl)) ?_; (with_reducible refine (laws_heldIntS.calls kj5 _ _ t252 1 t253 _ ?side1 ?side2 A17.out).mono ?_); (case side1 => repeat (first | exact (Kd.R_reads' HO_9.out).2.2 | (with_reducible refine Kd.C_alloc ?_ _) | (with_reducible refine Kd.C_drewN ?_ _) | (with_reducible refine Kd.C_drew ?_))); (case side2 => rw [show t252.length = t246.length from (Kd.R_reads' HO_9.out).1.symm]; exact (Kd.R_reads' HO_9.out).2.1); rintro e w' ⟨rfl, ⟨nd, rfl⟩⟩; refine ⟨_, rfl, ?_⟩))
     go_ret
     exact ⟨by first | rfl | (simp [errW_none, errW_some] <;> rfl) | (simp [*, errW_none, errW_some] <;> rfl), by repeat (first | (with_reducible first | exact HB.out | apply below_alloc | apply pw_below_drewN | apply below_drew1) | exact HB.out)⟩
    ·rw [if_neg c18] at H
     have c18b0 : decide (t253 < 0) = false := decide_eq_false c18
     clear c18
     by_cases c21 : t253 = t251
     ·rw [if_pos c21] at H
      have c21b0 : (t253 == t251) = true := beq_iff_eq.mpr c21
      have c21b1 : (t253 != t251) = false := bne_eq_false_iff_eq.mpr c21
      clear c21
      replace H := Option.bind_eq_some_iff.mp H
      obtain ⟨⟨t254, t255⟩, A220, H⟩ := H
      replace H : ((laws_eqIntS.f kj5 t254 t242).bind fun t258 => (if t258 = true then (laws_FnExactFactorsFor.j1 kj5 t252 t251 (t255 != t243)) else (laws_FnExactFactorsFor.j1 kj5 t252 t251 true))) = some r := H
      have A22 := Aside0.mk A220
      clear A220
      have HC23 := Aside0.mk H
      clear H
      obtain ⟨Ao24, co24, eo24⟩ := Kd.R_slice HO_9.out
      subst eo24
      go_upto_region 14 with (first | ((with_reducible refine gate_callee (f := 25) rfl ?_); refine goesL_ (some 40) rfl rfl Try.func25 (by kernel_rfl) rfl #[.slice Ao24 t246.length co24, .int .i64 1] rfl (by (try simp only [List.map_toArray, List.map_cons, List.map_nil]); first | done | rfl | (simp only [List.length_drop, List.length_take]; rfl)) ?_; (with_reducible refine (laws_markIntS.calls kj5 (fun k_ => some k_ = (.slice Ao24 t246.length co24 : Value).ownBlock) (.slice Ao24 t246.length co24) t246 1 t251 t252 w _ ?side1 ?side2 A16.out).mono ?_); (case side1 => repeat (first | (with_reducible first | exact HB.out | apply below_alloc | apply pw_below_drewN | apply below_drew1) | exact HB.out)); (case side2 => exact Kd.R_tight rfl HO_9.out); rintro e w25 ⟨rfl, hy0, hb, hkp⟩; refine ⟨_, rfl, ?_⟩; have n0_ := Aside0.mk (Kd.R_mono (ok' := fun k_ => some k_ ≠ (.slice Ao24 t246.length co24 : Value).ownBlock) (Kd.R_keptB (HO_7.out) hkp (fun k_ hk_ hs_ => (hk_) hs_)) (fun k_ hk_ => hk_.1)); have n1_ := Aside0.mk (Kd.R_reok rfl hy0 (fun k_ e_ => HO_9.out.1 k_ e_)); have n2_ := Aside0.mk (hb); clear HO_7; clear HO_9; clear HB; have HO_7 := n0_; have HO_9 := n1_; have HB := n2_; clear n0_ n1_ n2_; (try clear hb); (try clear hkp); (try clear hy0)) | ((with_reducible refine gate_callee (f := 26) rfl ?_); refine goesL_ (some 43) rfl rfl Try.func26 (by kernel_rfl) rfl #[.slice Ao24 t252.length co24, .int .i64 1] rfl (by (try simp only [List.map_toArray, List.map_cons, List.map_nil]); first | done | (rw [show t252.length = t246.length from (Kd.R_reads' HO_9.out).1.symm] <;> rfl) | rfl | (simp only [List.length_drop, List.length_take]; rfl)) ?_; (with_reducible refine (laws_heldIntS.calls kj5 _ _ t252 1 t253 _ ?side1 ?side2 A17.out).mono ?_); (case side1 => repeat (first | exact (Kd.R_reads' HO_9.out).2.2 | (with_reducible refine Kd.C_alloc ?_ _) | (with_reducible refine Kd.C_drewN ?_ _) | (with_reducible refine Kd.C_drew ?_))); (case side2 => rw [show t252.length = t246.length from (Kd.R_reads' HO_9.out).1.symm]; exact (Kd.R_reads' HO_9.out).2.1); rintro e w' ⟨rfl, ⟨nd, rfl⟩⟩; refine ⟨_, rfl, ?_⟩) | ((with_reducible refine gate_callee (f := 24) rfl ?_); refine goesL_ (some 53) rfl rfl Try.func24 (by kernel_rfl) rfl #[.int .i64 a0, .int .i64 a1, .int .i64 a2] rfl (by (try simp only [List.map_toArray, List.map_cons, List.map_nil]); first | done | rfl | (simp only [List.length_drop, List.length_take]; rfl)) ?_; (with_reducible refine (impl_FactorsFor.calls a0 a1 a2 t254 t255 _ A22.out).mono ?_); rintro e w26 ⟨v256, rfl, ho0, hb⟩; refine ⟨_, rfl, ?_⟩; have n0_ := Aside0.mk (Kd.R_elder' (by (with_reducible repeat (first | apply Kd.R_alloc | apply Kd.R_drewN | apply Kd.R_drew)); exact HO_7.out) (Kd.R_base ho0) hb); have n1_ := Aside0.mk (Kd.R_elder' (by (with_reducible repeat (first | apply Kd.R_alloc | apply Kd.R_drewN | apply Kd.R_drew)); exact HO_9.out) (Kd.R_base ho0) hb); have n2_ := Aside0.mk (Kd.R_lower (Kd.R_new' (Kd.R_new' ho0 (Kd.R_lt (by (with_reducible repeat (first | apply Kd.R_alloc | apply Kd.R_drewN | apply Kd.R_drew)); exact HO_7.out))) (Kd.R_lt (by (with_reducible repeat (first | apply Kd.R_alloc | apply Kd.R_drewN | apply Kd.R_drew)); exact HO_9.out))) (below_size (by repeat (first | (with_reducible first | exact HB.out | apply below_alloc | apply pw_below_drewN | apply below_drew1) | exact HB.out)))); have n3_ := Aside0.mk (below_step (by repeat (first | (with_reducible first | exact HB.out | apply below_alloc | apply pw_below_drewN | apply below_drew1) | exact HB.out)) hb); clear HO_7; clear HO_9; clear HB; have HO_7 := n0_; have HO_9 := n1_; have HO257 := n2_; have HB := n3_; clear n0_ n1_ n2_ n3_; (try clear hb); (try clear hb2); (try clear hk); (try clear hi); (try clear ho0)))
      (try simp only [Act.put, List.setIfInBounds_toArray, List.set_cons_zero, List.set_cons_succ])
      go_cut [64] (fun v64 wc => ∃ (kq : Nat) (x64_22 : Bool), v64 = .bool x64_22 ∧ Aside0 (laws_FnExactFactorsFor.j1 kq t252 t251 x64_22 = some r) ∧ Aside0 (kq ≤ kj5) ∧ Aside0 (Kd.R (Kd.int .i64) 3 wc w.heap.size (fun _ => True) (.slice Ao24 t246.length co24) t252) ∧ Aside0 (Below w.heap.size w wc))
      case first =>
       have H := HC23.out
       clear HC23
       replace H := Option.bind_eq_some_iff.mp H
       obtain ⟨t258, A270, H⟩ := H
       replace H : (if t258 = true then (laws_FnExactFactorsFor.j1 kj5 t252 t251 (t255 != t243)) else (laws_FnExactFactorsFor.j1 kj5 t252 t251 true)) = some r := H
       have A27 := Aside0.mk A270
       clear A270
       by_cases c28 : t258 = true
       ·subst c28
        have H1 : (laws_FnExactFactorsFor.j1 kj5 t252 t251 (t255 != t243)) = some r := by rw [if_pos rfl] at H; exact H
        clear H
        have H := H1
        clear H1
        have H' := Aside0.mk H
        clear H
        obtain ⟨Ao29, co29, eo29⟩ := Kd.R_slice HO257.out
        subst eo29
        obtain ⟨Ao30, co30, eo30⟩ := Kd.R_slice HO_7.out
        subst eo30
        go_wp2_with (first | ((with_reducible refine gate_callee (f := 18) rfl ?_); refine goesL_ (some 58) rfl rfl Try.func18 (by kernel_rfl) rfl #[.slice Ao29 t254.length co29, .slice Ao30 t242.length co30] rfl (by (try simp only [List.map_toArray, List.map_cons, List.map_nil]); first | done | rfl | (simp only [List.length_drop, List.length_take]; rfl)) ?_; (with_reducible refine (laws_eqIntS.calls kj5 _ _ t254 _ _ t242 true _ ?side1 ?side2 ?side3 ?side4 A27.out).mono ?_); (case side1 => repeat (first | exact (Kd.R_reads' HO257.out).2.2 | (with_reducible refine Kd.C_alloc ?_ _) | (with_reducible refine Kd.C_drewN ?_ _) | (with_reducible refine Kd.C_drew ?_))); (case side2 => exact (Kd.R_reads' HO257.out).2.1); (case side3 => repeat (first | exact (Kd.R_reads' HO_7.out).2.2 | (with_reducible refine Kd.C_alloc ?_ _) | (with_reducible refine Kd.C_drewN ?_ _) | (with_reducible refine Kd.C_drew ?_))); (case side4 => exact (Kd.R_reads' HO_7.out).2.1); rintro e w' ⟨rfl, ⟨nd, rfl⟩⟩; refine ⟨_, rfl, ?_⟩))
        go_meet
        case rel => exact ⟨_, ((t255 != t243)), (by first | rfl | (simp; done) | (simp [*]; done)), H', ⟨by have := HJ5.out; first | omega | exact Nat.le_refl _⟩, ⟨by (with_reducible repeat (first | apply Kd.R_alloc | apply Kd.R_drewN | apply Kd.R_drew)); exact Kd.R_mono HO_9.out (fun _ hk => trivial)⟩, ⟨by repeat (first | (with_reducible first | exact HB.out | apply below_alloc | apply pw_below_drewN | apply below_drew1) | exact HB.out)⟩⟩
       ·replace c28 := Bool.eq_false_iff.mpr c28
        subst c28
        have H1 : (laws_FnExactFactorsFor.j1 kj5 t252 t251 true) = some r := by rw [if_neg (show ¬ (false = true) by decide)] at H; exact H
        clear H
        have H := H1
        clear H1
        have H' := Aside0.mk H
        clear H
        obtain ⟨Ao31, co31, eo31⟩ := Kd.R_slice HO257.out
        subst eo31
        obtain ⟨Ao32, co32, eo32⟩ := Kd.R_slice HO_7.out
        subst eo32
        go_wp2_with (first | ((with_reducible refine gate_callee (f := 18) rfl ?_); refine goesL_ (some 58) rfl rfl Try.func18 (by kernel_rfl) rfl #[.slice Ao31 t254.length co31, .slice Ao32 t242.length co32] rfl (by (try simp only [List.map_toArray, List.map_cons, List.map_nil]); first | done | rfl | (simp only [List.length_drop, List.length_take]; rfl)) ?_; (with_reducible refine (laws_eqIntS.calls kj5 _ _ t254 _ _ t242 false _ ?side1 ?side2 ?side3 ?side4 A27.out).mono ?_); (case side1 => repeat (first | exact (Kd.R_reads' HO257.out).2.2 | (with_reducible refine Kd.C_alloc ?_ _) | (with_reducible refine Kd.C_drewN ?_ _) | (with_reducible refine Kd.C_drew ?_))); (case side2 => exact (Kd.R_reads' HO257.out).2.1); (case side3 => repeat (first | exact (Kd.R_reads' HO_7.out).2.2 | (with_reducible refine Kd.C_alloc ?_ _) | (with_reducible refine Kd.C_drewN ?_ _) | (with_reducible refine Kd.C_drew ?_))); (case side4 => exact (Kd.R_reads' HO_7.out).2.1); rintro e w' ⟨rfl, ⟨nd, rfl⟩⟩; refine ⟨_, rfl, ?_⟩))
        go_meet
        case rel => exact ⟨_, (true), (by first | rfl | (simp; done) | (simp [*]; done)), H', ⟨by have := HJ5.out; first | omega | exact Nat.le_refl _⟩, ⟨by (with_reducible repeat (first | apply Kd.R_alloc | apply Kd.R_drewN | apply Kd.R_drew)); exact Kd.R_mono HO_9.out (fun _ hk => trivial)⟩, ⟨by repeat (first | (with_reducible first | exact HB.out | apply below_alloc | apply pw_below_drewN | apply below_drew1) | exact HB.out)⟩⟩
      case rest =>
       clear HC23
       try clear c1
       try clear c2
       try clear p2
       try clear c6
       try clear c10
       try clear c15
       try clear c18
       try clear c18b0
       try clear c21
       try clear c21b0
       try clear c21b1
       try clear c23
       try clear c24
       try clear c25
       try clear c26
       try clear c28
       try clear p2
       obtain ⟨kq, x64_22, rfl, HA, HJ22, HO_9, HB⟩ := hcut
       have hl9_22 := (Kd.R_reads' HO_9.out).1
       rw [hl9_22] at HO_9
       (try simp only [hl9_22])
       cases kq with
       | zero => exact absurd HA.out (by simp [laws_FnExactFactorsFor.j1])
       | succ kj22 =>
        have H := HA.out
        clear HA
        simp only [laws_FnExactFactorsFor.j1] at H
        by_cases c33 : x64_22 = true
        ·subst c33
         have H1 : (some false) = some r := by rw [if_pos rfl] at H; exact H
         clear H
         have H := H1
         clear H1
         obtain rfl := Option.some.inj H
         go_wp2
         go_ret
         exact ⟨by first | rfl | (simp [errW_none, errW_some] <;> rfl) | (simp [*, errW_none, errW_some] <;> rfl), by repeat (first | (with_reducible first | exact HB.out | apply below_alloc | apply pw_below_drewN | apply below_drew1) | exact HB.out)⟩
        ·replace c33 := Bool.eq_false_iff.mpr c33
         subst c33
         have H1 : ((laws_heldIntS.f kj22 t252 1).bind fun t259 => (if t259 < 0 then (some false) else (if t259 = t251 then (some true) else (some false)))) = some r := by rw [if_neg (show ¬ (false = true) by decide)] at H; exact H
         clear H
         have H := H1
         clear H1
         replace H := Option.bind_eq_some_iff.mp H
         obtain ⟨t259, A340, H⟩ := H
         replace H : (if t259 < 0 then (some false) else (if t259 = t251 then (some true) else (some false))) = some r := H
         have A34 := Aside0.mk A340
         clear A340
         by_cases c35 : t259 < 0
         ·rw [if_pos c35] at H
          have c35b0 : decide (t259 < 0) = true := decide_eq_true c35
          clear c35
          obtain rfl := Option.some.inj H
          go_wp2_with (first | ((with_reducible refine gate_callee (f := 26) rfl ?_); refine goesL_ (some 67) rfl rfl Try.func26 (by kernel_rfl) rfl #[.slice Ao24 t252.length co24, .int .i64 1] rfl (by (try simp only [List.map_toArray, List.map_cons, List.map_nil]); first | done | rfl | (simp only [List.length_drop, List.length_take]; rfl)) ?_; (with_reducible refine (laws_heldIntS.calls kj22 _ _ t252 1 t259 _ ?side1 ?side2 A34.out).mono ?_); (case side1 => repeat (first | exact (Kd.R_reads' HO_9.out).2.2 | (with_reducible refine Kd.C_alloc ?_ _) | (with_reducible refine Kd.C_drewN ?_ _) | (with_reducible refine Kd.C_drew ?_))); (case side2 => exact (Kd.R_reads' HO_9.out).2.1); rintro e w' ⟨rfl, ⟨nd, rfl⟩⟩; refine ⟨_, rfl, ?_⟩))
          go_ret
          exact ⟨by first | rfl | (simp [errW_none, errW_some] <;> rfl) | (simp [*, errW_none, errW_some] <;> rfl), by repeat (first | (with_reducible first | exact HB.out | apply below_alloc | apply pw_below_drewN | apply below_drew1) | exact HB.out)⟩
         ·rw [if_neg c35] at H
          have c35b0 : decide (t259 < 0) = false := decide_eq_false c35
          clear c35
          by_cases c36 : t259 = t251
          ·rw [if_pos c36] at H
           have c36b0 : (t259 == t251) = true := beq_iff_eq.mpr c36
           have c36b1 : (t259 != t251) = false := bne_eq_false_iff_eq.mpr c36
           clear c36
           obtain rfl := Option.some.inj H
           go_wp2_with (first | ((with_reducible refine gate_callee (f := 26) rfl ?_); refine goesL_ (some 67) rfl rfl Try.func26 (by kernel_rfl) rfl #[.slice Ao24 t252.length co24, .int .i64 1] rfl (by (try simp only [List.map_toArray, List.map_cons, List.map_nil]); first | done | rfl | (simp only [List.length_drop, List.length_take]; rfl)) ?_; (with_reducible refine (laws_heldIntS.calls kj22 _ _ t252 1 t259 _ ?side1 ?side2 A34.out).mono ?_); (case side1 => repeat (first | exact (Kd.R_reads' HO_9.out).2.2 | (with_reducible refine Kd.C_alloc ?_ _) | (with_reducible refine Kd.C_drewN ?_ _) | (with_reducible refine Kd.C_drew ?_))); (case side2 => exact (Kd.R_reads' HO_9.out).2.1); rintro e w' ⟨rfl, ⟨nd, rfl⟩⟩; refine ⟨_, rfl, ?_⟩))
           go_ret
           exact ⟨by first | rfl | (simp [errW_none, errW_some] <;> rfl) | (simp [*, errW_none, errW_some] <;> rfl), by repeat (first | (with_reducible first | exact HB.out | apply below_alloc | apply pw_below_drewN | apply below_drew1) | exact HB.out)⟩
          ·rw [if_neg c36] at H
           have c36b0 : (t259 == t251) = false := beq_eq_false_iff_ne.mpr c36
           have c36b1 : (t259 != t251) = true := bne_iff_ne.mpr c36
           obtain rfl := Option.some.inj H
           go_wp2_with (first | ((with_reducible refine gate_callee (f := 26) rfl ?_); refine goesL_ (some 67) rfl rfl Try.func26 (by kernel_rfl) rfl #[.slice Ao24 t252.length co24, .int .i64 1] rfl (by (try simp only [List.map_toArray, List.map_cons, List.map_nil]); first | done | rfl | (simp only [List.length_drop, List.length_take]; rfl)) ?_; (with_reducible refine (laws_heldIntS.calls kj22 _ _ t252 1 t259 _ ?side1 ?side2 A34.out).mono ?_); (case side1 => repeat (first | exact (Kd.R_reads' HO_9.out).2.2 | (with_reducible refine Kd.C_alloc ?_ _) | (with_reducible refine Kd.C_drewN ?_ _) | (with_reducible refine Kd.C_drew ?_))); (case side2 => exact (Kd.R_reads' HO_9.out).2.1); rintro e w' ⟨rfl, ⟨nd, rfl⟩⟩; refine ⟨_, rfl, ?_⟩))
           go_ret
           exact ⟨by first | rfl | (simp [errW_none, errW_some] <;> rfl) | (simp [*, errW_none, errW_some] <;> rfl), by repeat (first | (with_reducible first | exact HB.out | apply below_alloc | apply pw_below_drewN | apply below_drew1) | exact HB.out)⟩
     ·rw [if_neg c21] at H
      have c21b0 : (t253 == t251) = false := beq_eq_false_iff_ne.mpr c21
      have c21b1 : (t253 != t251) = true := bne_iff_ne.mpr c21
      obtain rfl := Option.some.inj H
      obtain ⟨Ao37, co37, eo37⟩ := Kd.R_slice HO_9.out
      subst eo37
      go_wp2_with (first | ((with_reducible refine gate_callee (f := 25) rfl ?_); refine goesL_ (some 40) rfl rfl Try.func25 (by kernel_rfl) rfl #[.slice Ao37 t246.length co37, .int .i64 1] rfl (by (try simp only [List.map_toArray, List.map_cons, List.map_nil]); first | done | rfl | (simp only [List.length_drop, List.length_take]; rfl)) ?_; (with_reducible refine (laws_markIntS.calls kj5 (fun k_ => some k_ = (.slice Ao37 t246.length co37 : Value).ownBlock) (.slice Ao37 t246.length co37) t246 1 t251 t252 w _ ?side1 ?side2 A16.out).mono ?_); (case side1 => repeat (first | (with_reducible first | exact HB.out | apply below_alloc | apply pw_below_drewN | apply below_drew1) | exact HB.out)); (case side2 => exact Kd.R_tight rfl HO_9.out); rintro e w38 ⟨rfl, hy0, hb, hkp⟩; refine ⟨_, rfl, ?_⟩; have n0_ := Aside0.mk (Kd.R_mono (ok' := fun k_ => some k_ ≠ (.slice Ao37 t246.length co37 : Value).ownBlock) (Kd.R_keptB (HO_7.out) hkp (fun k_ hk_ hs_ => (hk_) hs_)) (fun k_ hk_ => hk_.1)); have n1_ := Aside0.mk (Kd.R_reok rfl hy0 (fun k_ e_ => HO_9.out.1 k_ e_)); have n2_ := Aside0.mk (hb); clear HO_7; clear HO_9; clear HB; have HO_7 := n0_; have HO_9 := n1_; have HB := n2_; clear n0_ n1_ n2_; (try clear hb); (try clear hkp); (try clear hy0)) | ((with_reducible refine gate_callee (f := 26) rfl ?_); refine goesL_ (some 43) rfl rfl Try.func26 (by kernel_rfl) rfl #[.slice Ao37 t252.length co37, .int .i64 1] rfl (by (try simp only [List.map_toArray, List.map_cons, List.map_nil]); first | done | (rw [show t252.length = t246.length from (Kd.R_reads' HO_9.out).1.symm] <;> rfl) | rfl | (simp only [List.length_drop, List.length_take]; rfl)) ?_; (with_reducible refine (laws_heldIntS.calls kj5 _ _ t252 1 t253 _ ?side1 ?side2 A17.out).mono ?_); (case side1 => repeat (first | exact (Kd.R_reads' HO_9.out).2.2 | (with_reducible refine Kd.C_alloc ?_ _) | (with_reducible refine Kd.C_drewN ?_ _) | (with_reducible refine Kd.C_drew ?_))); (case side2 => rw [show t252.length = t246.length from (Kd.R_reads' HO_9.out).1.symm]; exact (Kd.R_reads' HO_9.out).2.1); rintro e w' ⟨rfl, ⟨nd, rfl⟩⟩; refine ⟨_, rfl, ?_⟩))
      go_ret
      exact ⟨by first | rfl | (simp [errW_none, errW_some] <;> rfl) | (simp [*, errW_none, errW_some] <;> rfl), by repeat (first | (with_reducible first | exact HB.out | apply below_alloc | apply pw_below_drewN | apply below_drew1) | exact HB.out)⟩

/-- THE ONE PURE STATEMENT of laws_FnExactFactorsFor: yours. -/
def laws_FnExactFactorsFor.Pure : Prop := ∀ (a0 : Int) (a1 : Int) (a2 : Int), (Lit.int .i64 a0).wf = true → (Lit.int .i64 a1).wf = true → (Lit.int .i64 a2).wf = true → ∃ k, laws_FnExactFactorsFor.f k a0 a1 a2 = some true
theorem laws_FnExactFactorsFor.walk (P : laws_FnExactFactorsFor.Pure) (a0 : Int) (a1 : Int) (a2 : Int) (w : World) (w0 : (Lit.int .i64 a0).wf = true) (w1 : (Lit.int .i64 a1).wf = true) (w2 : (Lit.int .i64 a2).wf = true) :
  Calls Try.prog 6 #[.int .i64 a0, .int .i64 a1, .int .i64 a2] w fun e w' => e = .returned (.bool true) ∧ Below w.heap.size w w' := by
 obtain ⟨k, h⟩ := P a0 a1 a2 w0 w1 w2
 refine (laws_FnExactFactorsFor.calls k a0 a1 a2 true w h).mono ?_
 rintro e w' ⟨rfl, hd⟩
 exact ⟨rfl, hd⟩

end Go.Proofs.Ytfdjbcbhlfjogaa.P
