/- All solutions up to a bound are told in order, and each comes down to a fundamental one that is told, too. No condition. -/
import Derived.Test.YtgpoljimomfbbaaPackFnAllHurwitz5
import Derived.Test.YtgpoljimomfbbaaLib
import Derived.Deep.RegionHeld3
-- GcloneInts
namespace Go.Proofs.Ytgpoljimomfbbaa.P
open Go.RowKit Go.Proofs.YtgpoljimomfbbaaW.PrintWords Go.Proofs.YtgpoljimomfbbaaW.PrintLast
set_option linter.unusedVariables false
set_option linter.unusedSimpArgs false

def slices_Clone_int_int.f (l0 : List Int) : Option (List Int) := if l0.length < 17592186044416 then some l0 else none
theorem slices_Clone_int_int.calls (A0 : Option Addr) (c0 : Nat) (l0 : List Int) (r : List Int) (w : World) (hr0 : Kd.C (Kd.int .i64) w A0 l0.length l0) (hc0 : l0.length ≤ c0) (h : slices_Clone_int_int.f l0 = some r) :
  Calls Try.prog 58 #[.slice A0 l0.length c0] w fun e w' => ∃ v0_ : Value, e = .returned (v0_) ∧ Kd.R (Kd.int .i64) 3 w' w.heap.size (fun _ => True) v0_ r ∧ Below w.heap.size w w' := by
  have hr : l0 = r ∧ l0.length < 17592186044416 := by
    unfold slices_Clone_int_int.f at h
    split at h
    · exact ⟨by simpa using h, by assumption⟩
    · simp at h
  obtain ⟨rfl, hlen⟩ := hr
  cases A0 with
  | none =>
    have h0 : l0 = [] := by
      rcases Nat.eq_zero_or_pos l0.length with h1 | h1
      · exact List.eq_nil_of_length_eq_zero h1
      · obtain ⟨ad, h2, _⟩ := hr0.2.2 h1
        simp at h2
    subst h0
    refine (Go.Proofs.Try.slices_Clone_int_nil 0 c0 w).mono ?_
    rintro e w' ⟨rfl, rfl⟩
    exact ⟨_, rfl, Kd.R_nil _ _ _ _ _, Below.refl _ _⟩
  | some a =>
    by_cases h0 : l0.length = 0
    · have h1 : l0 = [] := List.eq_nil_of_length_eq_zero h0
      subst h1
      refine (Go.Proofs.Try.slices_Clone_int_zero a c0 w).mono ?_
      rintro e w' ⟨v', rfl, hown, _, hb⟩
      exact ⟨v', rfl, scalar_R.2 ⟨fun _ _ => trivial, hown⟩, hb⟩
    · obtain ⟨ad, he, hc⟩ := hr0.2.2 (by omega)
      injection he with he
      subst he
      have hcell : ∀ j, j < l0.length → w.cell? (a.add j) = some (.int .i64 (l0.getD j 0)) := fun j hj => by
        obtain ⟨c, hcl, hp, hcell⟩ := hc j l0[j] (List.getElem?_eq_getElem hj)
        have hc1 : c = [Value.int .i64 l0[j]] := hp
        subst hc1
        have h2 := hcell 0 _ rfl
        rw [Nat.add_zero, show j * (Kd.int .i64).sz = j from Nat.mul_one j] at h2
        rw [h2]
        simp [List.getD_eq_getElem?_getD, hj]
      obtain ⟨b, off, spot⟩ := a
      have hspot : spot = none := by
        have h2 := hcell 0 (by omega)
        cases spot with
        | none => rfl
        | some k =>
          simp only [Addr.add, if_true, World.cell?] at h2
          split at h2 <;> simp at h2
      subst hspot
      refine (Go.Proofs.Try.slices_Clone_int b off l0.length c0 l0 w (Nat.le_refl _) (by omega) (fun j hj => ?_)).mono ?_
      · rw [← hcell j hj]
        congr 1
        by_cases h1 : j = 0
        · subst h1
          simp [Addr.add]
        · simp [Addr.add, h1]
      · rintro e w' ⟨v', rfl, hown, _, hb⟩
        exact ⟨v', rfl, scalar_R.2 ⟨fun _ _ => trivial, by rw [List.take_length] at hown; exact hown⟩, hb⟩
end Go.Proofs.Ytgpoljimomfbbaa.P

-- Gsolutions
namespace Go.Proofs.Ytgpoljimomfbbaa.P
open Go Go.RowKit Go.Proofs.YtgpoljimomfbbaaW.PrintWords Go.Proofs.YtgpoljimomfbbaaW.PrintLast
set_option linter.unusedVariables false
set_option linter.unusedSimpArgs false

set_option maxHeartbeats 4000000 in
set_option maxRecDepth 100000 in
theorem falling_sol {σ : Type} (I : σ → World → (Nat → Prop) → Prop) (step : σ → List Int → Option σ) (B1 B2 B3 : Nat) (V : Vis 99 #[.pointer (some ⟨B1, 0, none⟩), .pointer (some ⟨B2, 0, none⟩), .pointer (some ⟨B3, 0, none⟩)] I step) (p : Nat) : ∀ (q : Int) (x : List Int) (m : Int) (s s' : σ) (W : World) (v : Value) (ok : Nat → Prop), q = p → x.length + p ≤ 1000 → p ≤ 1000 → m ≤ 1000000 → I s W ok → Lst W v x → (∀ k, v.ownBlock = some k → ¬ ok k) → fallS step p x m s = some s' →
    Calls Try.prog 73 #[v, .int .i64 q, .int .i64 m, .func (.func 99) #[] #[.pointer (some ⟨B1, 0, none⟩), .pointer (some ⟨B2, 0, none⟩), .pointer (some ⟨B3, 0, none⟩)]] W fun e w' => e = .returned (.tuple #[]) ∧ I s' w' (fun k => ok k ∨ W.heap.size ≤ k) ∧ Fr W w' (fun k => ok k ∨ v.ownBlock = some k) ∧ Lst w' v x := by
  induction p with
  | zero =>
    intro q x m s s' W v ok hq hx hp hm hI hL hv hf
    have HV := Aside0.mk V
    have HI := Aside0.mk hI
    have HF := Aside0.mk (show step s x = some s' from hf)
    have HX := Aside0.mk hx
    have HN := Aside0.mk hv
    have HL := Aside0.mk hL
    obtain ⟨A, c, rfl, hc⟩ := hL.slice
    have HC := Aside0.mk hc
    have HK := Aside0.mk (Kd.R_reads' hL.R).2.2
    have c0b0 : (q == 0) = true := beq_iff_eq.mpr (by omega)
    have c0b1 : decide (q = 0) = true := decide_eq_true (by omega)
    clear hI hf hx hp hv hL hc hq hm V
    go_enter Try.func73, Try.ntmps73
    go_wp2_with (go_at_call 99; refine (HV.out.visit s s' _ A c x ok HI.out HF.out HK.out HC.out (by have := HX.out; omega)).mono ?_; rintro e w' ⟨rfl, hi1, hf1⟩; have HI1 := Aside0.mk hi1; have HF1 := Aside0.mk hf1; clear hi1 hf1)
    (try simp only [Exit.inBlock, Exit.then])
    refine bodyPost_ret (results_none rfl _ _ _) rfl ?_
    exact ⟨rfl, HI1.out, ⟨HF1.out.os, HF1.out.tape, HF1.out.output, HF1.out.size, fun k hk hn => HF1.out.block k hk (fun h_ => hn (.inl h_))⟩, HL.out.move (fun k hk => HF1.out.block k (HL.out.lt k hk) (HN.out k hk))⟩
  | succ p ih =>
    intro q x m s s' W v ok hq hx hp hm hI hL hv hf
    have HIH := Aside0.mk ih
    have HV := Aside0.mk V
    have HF := Aside0.mk (show fallL (fun s n => fallS step p (x ++ [n]) n s) m.toNat 1 s = some s' from hf)
    have HX := Aside0.mk hx
    have HP := Aside0.mk hp
    have HM := Aside0.mk hm
    have HN := Aside0.mk hv
    have HQ := Aside0.mk hq
    have HL0 := Aside0.mk hL
    have HI0 := Aside0.mk hI
    have c0b0 : (q == 0) = false := beq_eq_false_iff_ne.mpr (by omega)
    have c0b1 : decide (q = 0) = false := decide_eq_false (by omega)
    have HWQ : Aside0 (wrap64 (q - 1) = (p : Int)) := ⟨by unfold wrap64; omega⟩
    clear ih V hf hx hp hm hv hq hL hI
    go_enter Try.func73, Try.ntmps73
    go_wp2
    go_loopg [8] m.toNat (fun kj v8 wr => ∃ (s1 : σ) (n : Int) (j : Nat), v8 = .int .i64 n ∧ Aside0 (1 ≤ n ∧ n ≤ 1000001) ∧ Aside0 ((n + j = m + 1) ∨ (j = 0 ∧ m < n)) ∧ Aside0 (j ≤ kj) ∧ Aside0 (fallL (fun s n => fallS step p (x ++ [n]) n s) j n s1 = some s') ∧ Aside0 (I s1 wr (fun k => ok k ∨ W.heap.size ≤ k)) ∧ Aside0 (Fr W wr (fun k => ok k ∨ v.ownBlock = some k)) ∧ Aside0 (Lst wr v x))
    case atStart => exact ⟨s, 1, m.toNat, rfl, ⟨by omega⟩, ⟨by have := HM.out; omega⟩, ⟨Nat.le_refl _⟩, HF, ⟨HV.out.mono _ _ _ _ HI0.out (fun k hk => .inl hk)⟩, ⟨Fr.refl _ _⟩, HL0⟩
    case round =>
      clear HF
      obtain ⟨s1, n, j, rfl, HNN, HJ, HKJ, HF, HI, HFR, HL⟩ := hrel
      cases j with
      | zero =>
        have c1b0 : decide (n ≤ m) = false := decide_eq_false (by have := HJ.out; omega)
        obtain rfl : s1 = s' := Option.some.inj HF.out
        go_wp2
        go_end0
        exact ⟨rfl, HI.out, HFR.out, HL.out⟩
      | succ j =>
        have c1b0 : decide (n ≤ m) = true := decide_eq_true (by have := HJ.out; omega)
        obtain ⟨s2, h1, h2⟩ := Option.bind_eq_some_iff.mp HF.out
        have H1 := Aside0.mk h1
        have H2 := Aside0.mk h2
        clear h1 h2 HF
        go_wp2_with (first
          | ((with_reducible refine gate_builtin (b := .append) (xs := #[.tmp 19, .tmp 21]) rfl ?_); at_builtin; refine wpList_lst_append rfl (.tmp 19) (.tmp 21) 22 rfl Try.underlying22 info3 v x n rfl rfl HL.out (by have := HX.out; omega) ?_; intro v1 w1 ha1 ha2 ha3 ha4; have HA1 := Aside0.mk ha1; have HA2 := Aside0.mk ha2; have HA3 := Aside0.mk ha3; have HA4 := Aside0.mk ha4; clear ha1 ha2 ha3 ha4)
          | (go_at_call 73; refine (HIH.out _ (x ++ [n]) n s1 s2 _ v1 (fun k => (ok k ∨ W.heap.size ≤ k) ∧ k < wr.heap.size) HWQ.out (by have := HX.out; simp; omega) (by have := HP.out; omega) (by have := HNN.out; have := HJ.out; have := HM.out; omega) (HV.out.move _ _ _ _ (HV.out.bound _ _ _ HI.out) (fun k hk hlt => HA2.out.block k hlt (fun e0_ => by have e_ := e0_.1; have h3_ := HN.out k e_; have h4_ := HL0.out.lt k e_; rcases hk.1 with h5_ | h5_; exact h3_ h5_; omega)) HA2.out.size) HA1.out (fun k hk => by rintro ⟨h5_, h6_⟩; rcases HA3.out k hk with h3_ | h3_; (have h4_ := HL0.out.lt k h3_; have h7_ := HN.out k h3_; rcases h5_ with h5_ | h5_; exact h7_ h5_; omega); omega) H1.out).mono ?_; rintro e w2 ⟨rfl, hb1, hb2, hb3⟩; have HB1 := Aside0.mk hb1; have HB2 := Aside0.mk hb2; have HB3 := Aside0.mk hb3; clear hb1 hb2 hb3))
        go_roundg j
        case measure => have := HKJ.out; omega
        case rel =>
          have hw : Aside0 (wrap64 (n + 1) = n + 1) := ⟨by have := HNN.out; unfold wrap64; omega⟩
          have hs1 := HFR.out.size
          have hs2 := HA2.out.size
          refine ⟨s2, wrap64 (n + 1), j, (by first | rfl | (simp; done) | (simp [*]; done)), ⟨by have := HJ.out; have := HM.out; have := HNN.out; rw [hw.out]; omega⟩, ⟨by rw [hw.out]; have := HJ.out; omega⟩, ⟨by have := HKJ.out; omega⟩, ⟨by rw [hw.out]; exact H2.out⟩, ⟨HV.out.mono _ _ _ _ HB1.out (fun k hk => by rcases hk with ⟨h_, _⟩ | h_; exact h_; exact .inr (by omega))⟩, ⟨(HFR.out.trans HA2.out (fun k _ h_ => .inr h_.1)).trans HB2.out (fun k hk h_ => ?_)⟩, ⟨HA4.out w2 HB3.out (fun k hk hne => ?_)⟩⟩
          · rcases h_ with ⟨h5_ | h5_, _⟩ | h_
            · exact .inl h5_
            · omega
            · rcases HA3.out k h_ with h3_ | h3_
              · exact .inr h3_
              · omega
          · have h4_ := HL0.out.lt k hk
            have h7_ := HN.out k hk
            refine (HB2.out.block k (by omega) (fun h_ => ?_)).trans ?_
            · rcases h_ with ⟨h5_ | h5_, _⟩ | h_
              · exact h7_ h5_
              · omega
              · exact hne h_
            · exact HA2.out.block k (by omega) (fun h_ => hne h_.2)

/-- What solutions' visitor holds: the factor, the rest, and the solutions that were found. -/
def IS (B1 B2 B3 base : Nat) (a b : Int) (out : List (List Int)) (W : World) (ok : Nat → Prop) : Prop :=
  ∃ vo, W.cell? ⟨B1, 0, none⟩ = some (.int .i64 a) ∧ W.cell? ⟨B2, 0, none⟩ = some (.int .i64 b) ∧ W.heap[B3]? = some (.cells #[vo] 23 (0, 0)) ∧ ok B1 ∧ ok B2 ∧ ok B3 ∧ Kd.S (Kd.slice 3 (Kd.int .i64)) 22 W base (fun k => ok k ∧ k ≠ B1 ∧ k ≠ B2 ∧ k ≠ B3) vo out
def solStep (k : Nat) (a b : Int) (out : List (List Int)) (x : List Int) : Option (List (List Int)) := (impl_isHurwitz.f k x a b).bind fun t => if t = true then ((slices_Clone_int_int.f x).bind fun y => if out.length < 1000000000 then some (out ++ [y]) else none) else some out
theorem solStep_mono (k : Nat) (a b : Int) : ∀ s x, LeO (solStep k a b s x) (solStep (k + 1) a b s x) := by
  intro s x
  unfold solStep
  repeat' first
    | (with_reducible exact impl_isHurwitz.mono _ _ _ _)
    | (with_reducible exact LeO.refl _)
    | (with_reducible exact LeO.none _)
    | (with_reducible refine LeO.ite ?_ ?_)
    | (with_reducible refine LeO.bind ?_ (fun _ => ?_))
set_option maxHeartbeats 4000000 in
set_option maxRecDepth 100000 in
theorem sol_visit (B1 B2 B3 base : Nat) (k : Nat) (a b : Int) (h13 : B1 ≠ B3) (h23 : B2 ≠ B3) (hb3 : base ≤ B3) (out out' : List (List Int)) (W : World) (A : Option Addr) (c : Nat) (x : List Int) (ok : Nat → Prop) (hI : IS B1 B2 B3 base a b out W ok) (hf : solStep k a b out x = some out') (hK : Kd.C (Kd.int .i64) W A x.length x) (hc : x.length ≤ c) :
    Calls Try.prog 99 (#[.slice A x.length c] ++ #[.pointer (some ⟨B1, 0, none⟩), .pointer (some ⟨B2, 0, none⟩), .pointer (some ⟨B3, 0, none⟩)]) W fun e w' => e = .returned (.tuple #[]) ∧ IS B1 B2 B3 base a b out' w' (fun k => ok k ∨ W.heap.size ≤ k) ∧ Fr W w' ok := by
  show Calls Try.prog 99 #[.slice A x.length c, .pointer (some ⟨B1, 0, none⟩), .pointer (some ⟨B2, 0, none⟩), .pointer (some ⟨B3, 0, none⟩)] W _
  obtain ⟨vo, hI1, hI2, hI3, hI4, hI5, hI6, hI7⟩ := hI
  unfold solStep at hf
  obtain ⟨t, hA, hf⟩ := Option.bind_eq_some_iff.mp hf
  have HA := Aside0.mk hA
  have HK := Aside0.mk hK
  have HC := Aside0.mk hc
  have HS := Aside0.mk hI7
  have H3 := Aside0.mk hI3
  have H456 := Aside0.mk (And.intro hI4 (And.intro hI5 hI6))
  have HI1 := Aside0.mk hI1
  have HI2 := Aside0.mk hI2
  have HNE := Aside0.mk (And.intro h13 (And.intro h23 hb3))
  clear hA hK hc hI7 hI3 hI4 hI5 hI6 h13 h23 hb3
  cases t with
  | false =>
    obtain rfl : out = out' := by simpa using hf
    clear hf
    go_enter Try.func99, Try.ntmps99
    go_wp2_with (go_at_call 91; refine (impl_isHurwitz.calls k A c x a b false _ HK.out HC.out HA.out).mono ?_; rintro e w4 ⟨rfl, hb⟩; have n1_ := Aside0.mk hb; clear hb; have HB := n1_; clear n1_)
    go_end0
    exact ⟨rfl, ⟨vo, pw_cell_below HB.out HI1.out, pw_cell_below HB.out HI2.out, (HB.out.block B3 (Array.getElem?_eq_some_iff.1 H3.out).1).trans H3.out, .inl H456.out.1, .inl H456.out.2.1, .inl H456.out.2.2, Kd.S_mono (Kd.S_below HS.out HB.out) (fun k hk => ⟨.inl hk.1, hk.2⟩)⟩, Fr.of_below HB.out _⟩
  | true =>
    replace hf : ((slices_Clone_int_int.f x).bind fun y => if out.length < 1000000000 then some (out ++ [y]) else none) = some out' := by simpa using hf
    obtain ⟨y, hY, hf⟩ := Option.bind_eq_some_iff.mp hf
    by_cases c5 : out.length < 1000000000
    · obtain rfl : out ++ [y] = out' := by simpa [c5] using hf
      have HY := Aside0.mk hY
      have HL := Aside0.mk c5
      clear hf hY c5
      go_enter Try.func99, Try.ntmps99
      go_wp2_with (go_at_call 91; refine (impl_isHurwitz.calls k A c x a b true _ HK.out HC.out HA.out).mono ?_; rintro e w4 ⟨rfl, hb⟩; have n1_ := Aside0.mk hb; clear hb; have HB := n1_; clear n1_)
      have hcell : w4.cell? ⟨B3, 0, none⟩ = some vo := by
        have h_ := (HB.out.block B3 (Array.getElem?_eq_some_iff.1 H3.out).1).trans H3.out
        simp [World.cell?, h_]
      have hfz : w4.frozen? ⟨B3, 0, none⟩ = false := frozen_of_row w4 B3 0 #[vo] 23 ((HB.out.block B3 (Array.getElem?_eq_some_iff.1 H3.out).1).trans H3.out)
      have HLT : Aside0 (B1 < W.heap.size ∧ B2 < W.heap.size ∧ B3 < W.heap.size) := ⟨⟨World.block_lt_of_cell? _ _ HI1.out, World.block_lt_of_cell? _ _ HI2.out, (Array.getElem?_eq_some_iff.1 H3.out).1⟩⟩
      have HBS : Aside0 (base ≤ W.heap.size) := ⟨by have := HNE.out.2.2; have := HLT.out.2.2; omega⟩
      have HVO : Aside0 (∀ k_, vo.ownBlock = some k_ → k_ < W.heap.size ∧ ok k_ ∧ k_ ≠ B1 ∧ k_ ≠ B2 ∧ k_ ≠ B3) := ⟨fun k_ e_ => ⟨Kd.S_lt HS.out k_ e_, (Kd.S_R HS.out).1 k_ e_⟩⟩
      go_region_law (first
        | (refine goes_ Try.func58 (by kernel_rfl) rfl #[.slice A x.length c] (by rfl) rfl rfl (by (try simp only [List.map_toArray, List.map_cons, List.map_nil]); first | done | rfl) ?_; refine (slices_Clone_int_int.calls A c x y _ ?c1 HC.out HY.out).mono ?_; (case c1 => repeat (first | exact Kd.C_below HK.out HB.out | (with_reducible refine Kd.C_alloc ?_ _) | (with_reducible refine Kd.C_drewN ?_ _) | (with_reducible refine Kd.C_drew ?_))); rintro e w6 ⟨v6, rfl, ho, hb6⟩; refine ⟨_, rfl, ?_⟩; have HB6 := Aside0.mk (below_step (by repeat (first | (with_reducible first | exact HB.out | apply below_alloc | apply pw_below_drewN | apply below_drew1) | exact HB.out)) hb6); have n2_ := Aside0.mk (Kd.R_lower ho (below_size (by repeat (first | (with_reducible first | exact HB.out | apply below_alloc | apply pw_below_drewN | apply below_drew1) | exact HB.out)))); clear ho hb6; have HO6 := n2_; clear n2_; obtain ⟨A6, c6, e6⟩ := Kd.R_slice HO6.out; subst e6; have h3_ := (HB6.out.block B3 HLT.out.2.2).trans H3.out; have hcell6 : w6.cell? ⟨B3, 0, none⟩ = some vo := (by simp [World.cell?, h3_]); have hcell6a : (w6.alloc (.cells #[.slice A6 y.length c6] 22)).cell? ⟨B3, 0, none⟩ = some vo := pw_cell_below (below_alloc (Below.refl _ _) _) hcell6; clear h3_)
        | (refine Kd.S_append_step (Kd.slice 3 (Kd.int .i64)) (w0 := w6) base (by rfl) (.tmp 9) (.tmp 12) 23 22 (.slice none 0 0) 24 rfl Try.underlying23 info22 rfl (by decide) (by omega) vo out y [.slice A6 y.length c6] (fun k_ => (ok k_ ∨ W.heap.size ≤ k_) ∧ k_ ≠ B1 ∧ k_ ≠ B2 ∧ k_ ≠ B3) (fun k_ => some k_ = (Value.slice A6 y.length c6).ownBlock) rfl rfl ?aP ?aK ?aF ?aO ?aB ?aS ?aL ?_; (case aP => exact ⟨_, rfl, Kd.R_lower (Kd.R_tight rfl HO6.out) HBS.out⟩); (case aK => exact fun k_ hk => ⟨⟨.inr (Kd.R_base HO6.out k_ hk.symm), by have := Kd.R_base HO6.out k_ hk.symm; have := HLT.out; omega, by have := Kd.R_base HO6.out k_ hk.symm; have := HLT.out; omega, by have := Kd.R_base HO6.out k_ hk.symm; have := HLT.out; omega⟩, fun e_ => by have := Kd.R_base HO6.out k_ hk.symm; have := (HVO.out k_ e_.symm).1; omega⟩); (case aF => exact fun k_ hk => by have := HB6.out.size; have := HLT.out; exact ⟨.inr (by omega), by omega, by omega, by omega⟩); (case aO => exact Kd.S_mono (Kd.S_below (Kd.S_bound HS.out) HB6.out) (fun k_ hk => ⟨⟨.inl hk.1.1, hk.1.2⟩, fun e_ => by have := Kd.R_base HO6.out k_ e_.symm; have := hk.2.2.1; omega⟩)); (case aB => exact Below.refl _ _); (case aS => exact Nat.le_trans HBS.out HB6.out.size); (case aL => have := HL.out; omega); intro v7 w7 ho hb hg hat; have HO7 := Aside0.mk ho; have HG := Aside0.mk hg; obtain ⟨A7, c7, e7⟩ := Kd.S_slice ho; subst e7; have h3_ := (HG.out.block B3 (by have := HB6.out.size; have := HLT.out; omega) (fun e_ => (HVO.out B3 e_.symm).2.2.2.2 rfl)).trans ((HB6.out.block B3 HLT.out.2.2).trans H3.out); have H7 := Aside0.mk h3_; have hcell7 : w7.cell? ⟨B3, 0, none⟩ = some vo := (by simp [World.cell?, h3_]); have hfz7 : w7.frozen? ⟨B3, 0, none⟩ = false := frozen_of_row w7 B3 0 #[vo] 23 h3_; clear h3_ ho hb hg hat))
      all_goals
        go_end0
        refine ⟨rfl, ⟨.slice A7 (out ++ [y]).length c7, ?_, ?_, ?_, .inl H456.out.1, .inl H456.out.2.1, .inl H456.out.2.2, Kd.S_far HO7.out (fun k_ hk => hk.2.2.2) _⟩, ?_⟩
        · rw [World.cell?_of_block ((heap_setCell_other w7 _ B1 _ HNE.out.1).trans ((HG.out.block B1 (by have := HB6.out.size; have := HLT.out; omega) (fun e_ => (HVO.out B1 e_.symm).2.2.1 rfl)).trans (HB6.out.block B1 HLT.out.1)))]
          exact HI1.out
        · rw [World.cell?_of_block ((heap_setCell_other w7 _ B2 _ HNE.out.2.1).trans ((HG.out.block B2 (by have := HB6.out.size; have := HLT.out; omega) (fun e_ => (HVO.out B2 e_.symm).2.2.2.1 rfl)).trans (HB6.out.block B2 HLT.out.2.1)))]
          exact HI2.out
        · rw [heap_setCell_same _ _ _ _ _ _ H7.out]
          simp
        · have hs_ := HB6.out.size
          have hs2_ := HG.out.size
          refine ⟨HG.out.os.trans HB6.out.os, HG.out.tape.trans HB6.out.tape, HG.out.output.trans HB6.out.output, by simp; omega, fun k_ hk hn => ?_⟩
          have h1_ : k_ ≠ B3 := fun e_ => hn (by rw [e_]; exact H456.out.2.2)
          exact (heap_setCell_other w7 _ k_ _ h1_).trans ((HG.out.block k_ (by omega) (fun e_ => hn (HVO.out k_ e_.symm).2.1)).trans (HB6.out.block k_ hk))
    · exact absurd hf (by simp [c5])
theorem sol_vis (B1 B2 B3 base : Nat) (k : Nat) (a b : Int) (h13 : B1 ≠ B3) (h23 : B2 ≠ B3) (hb3 : base ≤ B3) : Vis 99 #[.pointer (some ⟨B1, 0, none⟩), .pointer (some ⟨B2, 0, none⟩), .pointer (some ⟨B3, 0, none⟩)] (IS B1 B2 B3 base a b) (solStep k a b) where
  mono := by
    rintro s W ok ok' ⟨vo, h1, h2, h3, h4, h5, h6, h7⟩ h
    exact ⟨vo, h1, h2, h3, h _ h4, h _ h5, h _ h6, Kd.S_mono h7 (fun k hk => ⟨h k hk.1, hk.2⟩)⟩
  bound := by
    rintro s W ok ⟨vo, h1, h2, h3, h4, h5, h6, h7⟩
    exact ⟨vo, h1, h2, h3, ⟨h4, World.block_lt_of_cell? _ _ h1⟩, ⟨h5, World.block_lt_of_cell? _ _ h2⟩, ⟨h6, (Array.getElem?_eq_some_iff.1 h3).1⟩, Kd.S_mono (Kd.S_bound h7) (fun k hk => ⟨⟨hk.1.1, hk.2.2.1⟩, hk.1.2⟩)⟩
  move := by
    rintro s W W1 ok ⟨vo, h1, h2, h3, h4, h5, h6, h7⟩ h hs
    refine ⟨vo, ?_, ?_, (h B3 h6 (Array.getElem?_eq_some_iff.1 h3).1).trans h3, h4, h5, h6, Kd.S_step h7 (fun k hk hlt => h k hk.1 hlt)⟩
    · rw [World.cell?_of_block (h B1 h4 (World.block_lt_of_cell? _ _ h1))]
      exact h1
    · rw [World.cell?_of_block (h B2 h5 (World.block_lt_of_cell? _ _ h2))]
      exact h2
  visit := fun s s' W A c x ok hI hf hK hc _ => sol_visit B1 B2 B3 base k a b h13 h23 hb3 s s' W A c x ok hI hf hK hc

def impl_solutions.f (k : Nat) (a0 a1 a2 a3 : Int) : Option (List (List Int)) := if 0 ≤ a0 ∧ a0 ≤ 900 ∧ a3 ≤ 1000000 then fallS (solStep k a1 a2) a0.toNat [] a3 [] else none
theorem impl_solutions.mono : ∀ a0 a1 a2 a3 k, LeO (impl_solutions.f k a0 a1 a2 a3) (impl_solutions.f (k + 1) a0 a1 a2 a3) := by
  intro a0 a1 a2 a3 k
  unfold impl_solutions.f
  exact LeO.ite (fallS_mono _ _ (solStep_mono k a1 a2) _ _ _ _) (LeO.none _)
set_option maxHeartbeats 4000000 in
set_option maxRecDepth 100000 in
theorem impl_solutions.calls (k : Nat) (a0 a1 a2 a3 : Int) (r : List (List Int)) (w : World) (h : impl_solutions.f k a0 a1 a2 a3 = some r) :
    Calls Try.prog 68 #[.int .i64 a0, .int .i64 a1, .int .i64 a2, .int .i64 a3] w fun e w' => ∃ v0_ : Value, e = .returned (v0_) ∧ Kd.S (Kd.slice 3 (Kd.int .i64)) 22 w' w.heap.size (fun _ => True) v0_ r ∧ Below w.heap.size w w' := by
  unfold impl_solutions.f at h
  by_cases hg : 0 ≤ a0 ∧ a0 ≤ 900 ∧ a3 ≤ 1000000
  · rw [if_pos hg] at h
    have HF := Aside0.mk h
    have HGD := Aside0.mk hg
    have hb1 : Below w.heap.size w (w.alloc (.cells #[.int .i64 a1] 3)) := below_alloc (Below.refl _ _) _
    have HB := Aside0.mk (below_alloc hb1 (.cells #[.int .i64 a2] 3))
    have HC1 : Aside0 (((w.alloc (.cells #[.int .i64 a1] 3)).alloc (.cells #[.int .i64 a2] 3)).cell? ⟨w.heap.size, 0, none⟩ = some (.int .i64 a1)) := ⟨by simp⟩
    have HC2 : Aside0 (((w.alloc (.cells #[.int .i64 a1] 3)).alloc (.cells #[.int .i64 a2] 3)).cell? ⟨w.heap.size + 1, 0, none⟩ = some (.int .i64 a2)) := ⟨by simp⟩
    have HSZ : Aside0 (((w.alloc (.cells #[.int .i64 a1] 3)).alloc (.cells #[.int .i64 a2] 3)).heap.size = w.heap.size + 2) := ⟨by simp⟩
    clear h hg hb1
    go_enter Try.func68, Try.ntmps68
    go_wp2_with (first
      | ((with_reducible refine gate_dst (N := 10) rfl ?_); refine Kd.S_lits (Kd.slice 3 (Kd.int .i64)) (w0 := w) w.heap.size 22 ?hg (N := 10) ?hd (xs := []) (inner := []) (ok := fun k_ => w.heap.size + 2 ≤ k_) (fun j k_ => False) ?hr rfl ?hp ?ha (fun _ _ h_ => h_.elim) (by simp) ?hB ?hs (by simp) ?_; (case hd => rfl); (case hg => rfl); (case hr => first | (go_simp; done) | (go_simp; rfl)); (case hp => intro j x hj; simp at hj); (case ha => intro i j k_ h1 _; exact h1.elim); (case hB => exact HB.out); (case hs => exact below_size HB.out); intro v2 w2 ho hb hg hat; have n2_ := Aside0.mk ho; have n3_ := Aside0.mk hb; have n4_ := Aside0.mk hg; have n5_ := Aside0.mk hat; clear HB; have HO6 := n2_; have HB := n3_; have HGR := n4_; have HAT := n5_; clear n2_ n3_ n4_ n5_ ho hb hg hat; obtain ⟨A2, c2, e2⟩ := Kd.S_slice HO6.out; subst e2)
      | (go_at_call 73; have h3_ : w.heap.size + 2 ≤ w2.heap.size := (by have := HGR.out.size; have := HSZ.out; omega); (refine (falling_sol (IS w.heap.size (w.heap.size + 1) w2.heap.size w.heap.size a1 a2) (solStep k a1 a2) w.heap.size (w.heap.size + 1) w2.heap.size (sol_vis _ _ _ _ k a1 a2 (by omega) (by omega) (by omega)) a0.toNat a0 [] a3 [] r _ (.slice none 0 0) (fun k_ => w.heap.size ≤ k_) (by have := HGD.out; omega) (by have := HGD.out; simp; omega) (by have := HGD.out; omega) HGD.out.2.2 ?hI (.inl ⟨rfl, rfl⟩) (by simp [Value.ownBlock]) HF.out).mono ?_); ((case hI => refine ⟨.slice A2 0 c2, ?_, ?_, heap_alloc_new _ _, by omega, by omega, by omega, Kd.S_mono (Kd.S_alloc (Kd.S_bound HO6.out) _) (fun k_ hk => by have h4_ := hk.1; have h5_ := hk.2.2.1; omega)⟩; exact pw_cell_below (below_alloc (Below.refl _ _) _) ((World.cell?_of_block (HGR.out.block _ (by show w.heap.size < _; have := HSZ.out; omega) (by simp))).trans HC1.out); exact pw_cell_below (below_alloc (Below.refl _ _) _) ((World.cell?_of_block (HGR.out.block _ (by show w.heap.size + 1 < _; have := HSZ.out; omega) (by simp))).trans HC2.out))); rintro e w5 ⟨rfl, ⟨vo, hi1, hi2, hi3, hi4, hi5, hi6, hi7⟩, hf, _⟩; have HO7 := Aside0.mk hi7; have HFR := Aside0.mk hf; have hcell5 : w5.cell? ⟨w2.heap.size, 0, none⟩ = some vo := (by simp [World.cell?, hi3]); clear hi1 hi2 hi3 hi4 hi5 hi6 hi7 hf h3_; obtain ⟨A5, c5, e5⟩ := Kd.S_slice HO7.out; subst e5))
    go_ret
    exact ⟨_, rfl, Kd.S_mono HO7.out (fun _ _ => trivial), (below_alloc HB.out _).trans (Fr.below HFR.out (fun k_ hk => ⟨by have := HB.out.size; simp; omega, fun h_ => by rcases h_ with h_ | h_; omega; simp [Value.ownBlock] at h_⟩))⟩
  · rw [if_neg hg] at h
    exact absurd h (by simp)
end Go.Proofs.Ytgpoljimomfbbaa.P

-- PFimplSolutionsUpTo
namespace Go.Proofs.Ytgpoljimomfbbaa.P
open Go.RowKit Go.Proofs.YtgpoljimomfbbaaW.PrintWords Go.Proofs.YtgpoljimomfbbaaW.PrintLast
set_option linter.unusedVariables false
set_option linter.unusedSimpArgs false

/-! ### impl_SolutionsUpTo: function 21 -/
def impl_SolutionsUpTo.j0 : Nat → Int → Int → Int → Int → Bool → Option ((List (List Int)) × Bool)
 | 0, _, _, _, _, _ => none
 | k + 1, x0, x1, x2, x3, x21 => if x21 = true then (some (([] : List (List Int)), false)) else ((impl_solutions.f k x0 x1 x2 x3).bind fun t381 => (if (t381.length : Int) > 500 then (some (([] : List (List Int)), false)) else (some (t381, true))))
def impl_SolutionsUpTo.f (k : Nat) (a0 : Int) (a1 : Int) (a2 : Int) (a3 : Int) : Option ((List (List Int)) × Bool) := (impl_areTried.f a0 a2 a3).bind fun t379 => (if t379 = true then ((impl_areGiven.f a1 a2).bind fun t380 => (impl_SolutionsUpTo.j0 k a0 a1 a2 a3 (!t380))) else (impl_SolutionsUpTo.j0 k a0 a1 a2 a3 true))
theorem impl_SolutionsUpTo.mono_l : ∀ k, (∀ y0 y1 y2 y3 y4, LeO (impl_SolutionsUpTo.j0 k y0 y1 y2 y3 y4) (impl_SolutionsUpTo.j0 (k + 1) y0 y1 y2 y3 y4))
 | 0 => fun _ _ _ _ _ r h => by simp [impl_SolutionsUpTo.j0] at h
 | k + 1 => by
  have ih0 := impl_SolutionsUpTo.mono_l k
  ·intro y0 y1 y2 y3 y4
   unfold impl_SolutionsUpTo.j0
   repeat' first
   | (with_reducible exact ih0 _ _ _ _ _)
   | (with_reducible exact impl_solutions.mono _ _ _ _ _)
   | (with_reducible exact LeO.refl _)
   | (with_reducible exact LeO.none _)
   | (with_reducible refine LeO.ite ?_ ?_)
   | (with_reducible refine LeO.bind ?_ (fun _ => ?_))
   | exact ih0 _ _ _ _ _
   | exact impl_solutions.mono _ _ _ _ _
   | exact LeO.none _
   | refine LeO.ite ?_ ?_
   | refine LeO.bind ?_ (fun _ => ?_)
theorem impl_SolutionsUpTo.mono : ∀ a0 a1 a2 a3 k, LeO (impl_SolutionsUpTo.f k a0 a1 a2 a3) (impl_SolutionsUpTo.f (k + 1) a0 a1 a2 a3) := by
 intro a0 a1 a2 a3 k
 have ih0 := impl_SolutionsUpTo.mono_l k
 unfold impl_SolutionsUpTo.f
 repeat' first
   | (with_reducible exact ih0 _ _ _ _ _)
   | (with_reducible exact impl_solutions.mono _ _ _ _ _)
   | (with_reducible exact LeO.refl _)
   | (with_reducible exact LeO.none _)
   | (with_reducible refine LeO.ite ?_ ?_)
   | (with_reducible refine LeO.bind ?_ (fun _ => ?_))
   | exact ih0 _ _ _ _ _
   | exact impl_solutions.mono _ _ _ _ _
   | exact LeO.none _
   | refine LeO.ite ?_ ?_
   | refine LeO.bind ?_ (fun _ => ?_)
set_option maxHeartbeats 8000000 in
set_option maxRecDepth 100000 in
theorem impl_SolutionsUpTo.calls (k : Nat) (a0 : Int) (a1 : Int) (a2 : Int) (a3 : Int) (r1 : List (List Int)) (r2 : Bool) (w : World) (h : impl_SolutionsUpTo.f k a0 a1 a2 a3 = some (r1, r2)) :
  Calls Try.prog 21 #[.int .i64 a0, .int .i64 a1, .int .i64 a2, .int .i64 a3] w fun e w' => ∃ v0_ : Value, e = .returned (.tuple #[v0_, .bool r2]) ∧ Kd.S (Kd.slice 3 (Kd.int .i64)) 22 w' w.heap.size (fun _ => True) v0_ r1 ∧ Below w.heap.size w w' := by
 have HB := Aside0.mk (Below.refl w.heap.size w)
 have H : ((impl_areTried.f a0 a2 a3).bind fun t379 => (if t379 = true then ((impl_areGiven.f a1 a2).bind fun t380 => (impl_SolutionsUpTo.j0 k a0 a1 a2 a3 (!t380))) else (impl_SolutionsUpTo.j0 k a0 a1 a2 a3 true))) = some (r1, r2) := h
 clear h
 have HC5 := Aside0.mk H
 clear H
 go_enter Try.func21, Try.ntmps21
 go_upto_region 1 with (fail)
 go_cut [21] (fun v21 wc => ∃ (kq : Nat) (x21_4 : Bool), v21 = .bool x21_4 ∧ Aside0 (impl_SolutionsUpTo.j0 kq a0 a1 a2 a3 x21_4 = some (r1, r2)) ∧ Aside0 (kq ≤ k) ∧ Aside0 (Below w.heap.size w wc))
 case first =>
  have H := HC5.out
  clear HC5
  replace H := Option.bind_eq_some_iff.mp H
  obtain ⟨t379, A60, H⟩ := H
  replace H : (if t379 = true then ((impl_areGiven.f a1 a2).bind fun t380 => (impl_SolutionsUpTo.j0 k a0 a1 a2 a3 (!t380))) else (impl_SolutionsUpTo.j0 k a0 a1 a2 a3 true)) = some (r1, r2) := H
  have A6 := Aside0.mk A60
  clear A60
  by_cases c7 : t379 = true
  ·subst c7
   have H1 : ((impl_areGiven.f a1 a2).bind fun t380 => (impl_SolutionsUpTo.j0 k a0 a1 a2 a3 (!t380))) = some (r1, r2) := by rw [if_pos rfl] at H; exact H
   clear H
   have H := H1
   clear H1
   replace H := Option.bind_eq_some_iff.mp H
   obtain ⟨t380, A80, H⟩ := H
   replace H : (impl_SolutionsUpTo.j0 k a0 a1 a2 a3 (!t380)) = some (r1, r2) := H
   have A8 := Aside0.mk A80
   clear A80
   have H' := Aside0.mk H
   clear H
   go_wp2_with (first | ((with_reducible refine gate_callee (f := 66) rfl ?_); refine goesL_ (some 14) rfl rfl Try.func66 (by kernel_rfl) rfl #[.int .i64 a0, .int .i64 a2, .int .i64 a3] rfl (by (try simp only [List.map_toArray, List.map_cons, List.map_nil]); first | done | rfl | (simp only [List.length_drop, List.length_take]; rfl)) ?_; (with_reducible refine (impl_areTried.calls a0 a2 a3 true _ A6.out).mono ?_); rintro e w' ⟨rfl, ⟨nd, rfl⟩⟩; refine ⟨_, rfl, ?_⟩) | (go_at_call 67; (with_reducible refine (impl_areGiven.calls a1 a2 t380 _ A8.out).mono ?_); rintro e w' ⟨rfl, ⟨nd, rfl⟩⟩))
   go_meet
   case rel => exact ⟨_, (!t380), (by first | rfl | (simp; done) | (simp [*]; done)), H', ⟨by first | omega | exact Nat.le_refl _⟩, ⟨by repeat (first | (with_reducible first | exact HB.out | apply below_alloc | apply pw_below_drewN | apply below_drew1) | exact HB.out)⟩⟩
  ·replace c7 := Bool.eq_false_iff.mpr c7
   subst c7
   have H1 : (impl_SolutionsUpTo.j0 k a0 a1 a2 a3 true) = some (r1, r2) := by rw [if_neg (show ¬ (false = true) by decide)] at H; exact H
   clear H
   have H := H1
   clear H1
   have H' := Aside0.mk H
   clear H
   go_wp2_with (first | ((with_reducible refine gate_callee (f := 66) rfl ?_); refine goesL_ (some 14) rfl rfl Try.func66 (by kernel_rfl) rfl #[.int .i64 a0, .int .i64 a2, .int .i64 a3] rfl (by (try simp only [List.map_toArray, List.map_cons, List.map_nil]); first | done | rfl | (simp only [List.length_drop, List.length_take]; rfl)) ?_; (with_reducible refine (impl_areTried.calls a0 a2 a3 false _ A6.out).mono ?_); rintro e w' ⟨rfl, ⟨nd, rfl⟩⟩; refine ⟨_, rfl, ?_⟩))
   go_meet
   case rel => exact ⟨_, (true), (by first | rfl | (simp; done) | (simp [*]; done)), H', ⟨by first | omega | exact Nat.le_refl _⟩, ⟨by repeat (first | (with_reducible first | exact HB.out | apply below_alloc | apply pw_below_drewN | apply below_drew1) | exact HB.out)⟩⟩
 case rest =>
  clear HC5
  try clear c2
  try clear p2
  try clear c6
  try clear c7
  obtain ⟨kq, x21_4, rfl, HA, HJ4, HB⟩ := hcut
  cases kq with
  | zero => exact absurd HA.out (by simp [impl_SolutionsUpTo.j0])
  | succ kj4 =>
   have H := HA.out
   clear HA
   simp only [impl_SolutionsUpTo.j0] at H
   by_cases c9 : x21_4 = true
   ·subst c9
    have H1 : (some (([] : List (List Int)), false)) = some (r1, r2) := by rw [if_pos rfl] at H; exact H
    clear H
    have H := H1
    clear H1
    simp only [Option.some.injEq, Prod.mk.injEq] at H
    obtain ⟨rfl, rfl⟩ := H
    go_wp2
    go_ret2
    exact ⟨_, by first | rfl | (simp [errW_none, errW_some] <;> rfl) | (simp [*, errW_none, errW_some] <;> rfl), by first | exact Kd.S_nil _ _ _ _ _ | exact Kd.N_nil _ _ _ _ _ | exact Kd.V_nil _ _ _ _ _ | exact Kd.Q_nil _ _ _ _ _ | exact Kd.R_nil _ _ _ _ _, by repeat (first | (with_reducible first | exact HB.out | apply below_alloc | apply pw_below_drewN | apply below_drew1) | exact HB.out)⟩
   ·replace c9 := Bool.eq_false_iff.mpr c9
    subst c9
    have H1 : ((impl_solutions.f kj4 a0 a1 a2 a3).bind fun t381 => (if (t381.length : Int) > 500 then (some (([] : List (List Int)), false)) else (some (t381, true)))) = some (r1, r2) := by rw [if_neg (show ¬ (false = true) by decide)] at H; exact H
    clear H
    have H := H1
    clear H1
    replace H := Option.bind_eq_some_iff.mp H
    obtain ⟨t381, A100, H⟩ := H
    replace H : (if (t381.length : Int) > 500 then (some (([] : List (List Int)), false)) else (some (t381, true))) = some (r1, r2) := H
    have A10 := Aside0.mk A100
    clear A100
    by_cases c11 : (t381.length : Int) > 500
    ·rw [if_pos c11] at H
     have c11b0 : decide (500 < (t381.length : Int)) = true := decide_eq_true c11
     have c11b1 : decide (500 < t381.length) = true := decide_eq_true (by omega)
     clear c11
     simp only [Option.some.injEq, Prod.mk.injEq] at H
     obtain ⟨rfl, rfl⟩ := H
     go_wp2_with (first | ((with_reducible refine gate_callee (f := 68) rfl ?_); refine goesL_ (some 26) rfl rfl Try.func68 (by kernel_rfl) rfl #[.int .i64 a0, .int .i64 a1, .int .i64 a2, .int .i64 a3] rfl (by (try simp only [List.map_toArray, List.map_cons, List.map_nil]); first | done | rfl | (simp only [List.length_drop, List.length_take]; rfl)) ?_; (with_reducible refine (impl_solutions.calls kj4 a0 a1 a2 a3 t381 _ A10.out).mono ?_); rintro e w12 ⟨v382, rfl, ho0, hb⟩; refine ⟨_, rfl, ?_⟩; have n0_ := Aside0.mk (Kd.S_lower ho0 (below_size (by repeat (first | (with_reducible first | exact HB.out | apply below_alloc | apply pw_below_drewN | apply below_drew1) | exact HB.out)))); have n1_ := Aside0.mk (below_step (by repeat (first | (with_reducible first | exact HB.out | apply below_alloc | apply pw_below_drewN | apply below_drew1) | exact HB.out)) hb); clear HB; have HO383 := n0_; have HB := n1_; clear n0_ n1_; (try clear hb); (try clear hb2); (try clear hk); (try clear hi); (try clear ho0); obtain ⟨Ao13, co13, eo13⟩ := Kd.S_slice HO383.out; subst eo13))
     go_ret2
     exact ⟨_, by first | rfl | (simp [errW_none, errW_some] <;> rfl) | (simp [*, errW_none, errW_some] <;> rfl), by first | exact Kd.S_nil _ _ _ _ _ | exact Kd.N_nil _ _ _ _ _ | exact Kd.V_nil _ _ _ _ _ | exact Kd.Q_nil _ _ _ _ _ | exact Kd.R_nil _ _ _ _ _, by repeat (first | (with_reducible first | exact HB.out | apply below_alloc | apply pw_below_drewN | apply below_drew1) | exact HB.out)⟩
    ·rw [if_neg c11] at H
     have c11b0 : decide (500 < (t381.length : Int)) = false := decide_eq_false c11
     have c11b1 : decide (500 < t381.length) = false := decide_eq_false (by omega)
     clear c11
     simp only [Option.some.injEq, Prod.mk.injEq] at H
     obtain ⟨rfl, rfl⟩ := H
     go_wp2_with (first | ((with_reducible refine gate_callee (f := 68) rfl ?_); refine goesL_ (some 26) rfl rfl Try.func68 (by kernel_rfl) rfl #[.int .i64 a0, .int .i64 a1, .int .i64 a2, .int .i64 a3] rfl (by (try simp only [List.map_toArray, List.map_cons, List.map_nil]); first | done | rfl | (simp only [List.length_drop, List.length_take]; rfl)) ?_; (with_reducible refine (impl_solutions.calls kj4 a0 a1 a2 a3 t381 _ A10.out).mono ?_); rintro e w14 ⟨v382, rfl, ho0, hb⟩; refine ⟨_, rfl, ?_⟩; have n0_ := Aside0.mk (Kd.S_lower ho0 (below_size (by repeat (first | (with_reducible first | exact HB.out | apply below_alloc | apply pw_below_drewN | apply below_drew1) | exact HB.out)))); have n1_ := Aside0.mk (below_step (by repeat (first | (with_reducible first | exact HB.out | apply below_alloc | apply pw_below_drewN | apply below_drew1) | exact HB.out)) hb); clear HB; have HO383 := n0_; have HB := n1_; clear n0_ n1_; (try clear hb); (try clear hb2); (try clear hk); (try clear hi); (try clear ho0); obtain ⟨Ao15, co15, eo15⟩ := Kd.S_slice HO383.out; subst eo15))
     go_ret2
     exact ⟨_, by first | rfl | (simp [errW_none, errW_some] <;> rfl) | (simp [*, errW_none, errW_some] <;> rfl), by (with_reducible repeat (first | apply Kd.S_alloc | apply Kd.S_drewN | apply Kd.S_drew)); exact HO383.out, by repeat (first | (with_reducible first | exact HB.out | apply below_alloc | apply pw_below_drewN | apply below_drew1) | exact HB.out)⟩

end Go.Proofs.Ytgpoljimomfbbaa.P

-- GsortInts
namespace Go.Proofs.Ytgpoljimomfbbaa.P
open Go.RowKit Go.Proofs.YtgpoljimomfbbaaW.PrintWords Go.Proofs.YtgpoljimomfbbaaW.PrintLast
set_option linter.unusedVariables false
set_option linter.unusedSimpArgs false

def slices_Sort_int_int.f (l0 : List Int) : Option (List Int) := if l0.length < 4611686018427387904 then some (l0.mergeSort fun x y => decide (x ≤ y)) else none
theorem slices_Sort_int_int.calls (P0_ : Nat → Prop) (u9000_ : Value) (l0 : List Int) (r : List Int) (w0 w : World) (hB : Below w0.heap.size w0 w) (ho0 : Kd.R (Kd.int .i64) 3 w w0.heap.size P0_ u9000_ l0) (h : slices_Sort_int_int.f l0 = some r) :
  Calls Try.prog 101 #[u9000_] w fun e w' => e = .returned (.tuple #[]) ∧ Kd.R (Kd.int .i64) 3 w' w0.heap.size (fun k_ => (P0_ k_ ∨ w.heap.size ≤ k_)) u9000_ r ∧ Below w0.heap.size w0 w' ∧ Kept w w' (fun k_ => P0_ k_) := by
  have hr : l0.mergeSort (fun x y => decide (x ≤ y)) = r ∧ l0.length < 4611686018427387904 := by
    unfold slices_Sort_int_int.f at h
    split at h
    · exact ⟨by simpa using h, by assumption⟩
    · simp at h
  obtain ⟨rfl, hz⟩ := hr
  rcases scalar_open ho0 with ⟨rfl, rfl⟩ | ⟨g, cap, cur, rfl, hok, hg, hb, hc, hm, hs, ht⟩
  · refine (Go.Proofs.Try.slices_Sort_int_none none 0 w).mono ?_
    rintro e w' ⟨rfl, rfl⟩
    refine ⟨rfl, ?_, hB, Kept.refl _ _⟩
    rw [show (([] : List Int).mergeSort fun x y => decide (x ≤ y)) = [] by simp]
    exact Kd.R_nil _ _ _ _ _
  · have hlt : g < w.heap.size := (Array.getElem?_eq_some_iff.1 hb).1
    refine (Go.Proofs.Try.slices_Sort_int g 0 cap l0 w (scalar_holds hb ht) hlt hz).mono ?_
    rintro e w' ⟨rfl, n, os, hw⟩
    exact ⟨rfl, scalar_sorted hB hok hg hb hc hm hs (List.length_mergeSort _) n os w' hw⟩
end Go.Proofs.Ytgpoljimomfbbaa.P

-- PFimpljump
namespace Go.Proofs.Ytgpoljimomfbbaa.P
open Go.RowKit Go.Proofs.YtgpoljimomfbbaaW.PrintWords Go.Proofs.YtgpoljimomfbbaaW.PrintLast
set_option linter.unusedVariables false
set_option linter.unusedSimpArgs false

/-! ### impl_jump: function 76 -/
def impl_jump.f (k : Nat) (l0 : List Int) (a1 : Int) (a2 : Int) : Option (List Int × Bool) := (impl_otherRoot.f k l0 a1 a2).bind fun t271 => ((impl_within.f t271 1 100000).bind fun t272 => (if t272 = true then ((slices_Clone_int_int.f l0).bind fun t273 => (if 0 ≤ a2 then (if a2 < (t273.length : Int) then ((slices_Sort_int_int.f (t273.set (a2 : Int).toNat t271)).bind fun t277 => ((slices_Reverse_int_int.f k t277).bind fun t278 => (some (t278, true)))) else (none)) else (none))) else (some (([] : List Int), false))))
theorem impl_jump.mono : ∀ a0 a1 a2 k, LeO (impl_jump.f k a0 a1 a2) (impl_jump.f (k + 1) a0 a1 a2) := by
 intro a0 a1 a2 k
 unfold impl_jump.f
 repeat' first
   | (with_reducible exact impl_otherRoot.mono _ _ _ _)
   | (with_reducible exact slices_Reverse_int_int.mono _ _)
   | (with_reducible exact LeO.refl _)
   | (with_reducible exact LeO.none _)
   | (with_reducible refine LeO.ite ?_ ?_)
   | (with_reducible refine LeO.bind ?_ (fun _ => ?_))
   | exact impl_otherRoot.mono _ _ _ _
   | exact slices_Reverse_int_int.mono _ _
   | exact LeO.none _
   | refine LeO.ite ?_ ?_
   | refine LeO.bind ?_ (fun _ => ?_)
set_option maxHeartbeats 8000000 in
set_option maxRecDepth 100000 in
theorem impl_jump.calls (k : Nat) (A0 : Option Addr) (c0 : Nat) (l0 : List Int) (a1 : Int) (a2 : Int) (r1 : List Int) (r2 : Bool) (w : World) (hr0 : Kd.C (Kd.int .i64) w A0 l0.length l0) (hc0 : l0.length ≤ c0) (h : impl_jump.f k l0 a1 a2 = some (r1, r2)) :
  Calls Try.prog 76 #[.slice A0 l0.length c0, .int .i64 a1, .int .i64 a2] w fun e w' => ∃ v0_ : Value, e = .returned (.tuple #[v0_, .bool r2]) ∧ Kd.R (Kd.int .i64) 3 w' w.heap.size (fun _ => True) v0_ r1 ∧ Below w.heap.size w w' := by
 have HR0 := Aside0.mk hr0
 have HC0 := Aside0.mk hc0
 clear hr0 hc0
 have HB := Aside0.mk (Below.refl w.heap.size w)
 have H : ((impl_otherRoot.f k l0 a1 a2).bind fun t271 => ((impl_within.f t271 1 100000).bind fun t272 => (if t272 = true then ((slices_Clone_int_int.f l0).bind fun t273 => (if 0 ≤ a2 then (if a2 < (t273.length : Int) then ((slices_Sort_int_int.f (t273.set (a2 : Int).toNat t271)).bind fun t277 => ((slices_Reverse_int_int.f k t277).bind fun t278 => (some (t278, true)))) else (none)) else (none))) else (some (([] : List Int), false))))) = some (r1, r2) := h
 clear h
 replace H := Option.bind_eq_some_iff.mp H
 obtain ⟨t271, A40, H⟩ := H
 replace H : ((impl_within.f t271 1 100000).bind fun t272 => (if t272 = true then ((slices_Clone_int_int.f l0).bind fun t273 => (if 0 ≤ a2 then (if a2 < (t273.length : Int) then ((slices_Sort_int_int.f (t273.set (a2 : Int).toNat t271)).bind fun t277 => ((slices_Reverse_int_int.f k t277).bind fun t278 => (some (t278, true)))) else (none)) else (none))) else (some (([] : List Int), false)))) = some (r1, r2) := H
 have A4 := Aside0.mk A40
 clear A40
 replace H := Option.bind_eq_some_iff.mp H
 obtain ⟨t272, A50, H⟩ := H
 replace H : (if t272 = true then ((slices_Clone_int_int.f l0).bind fun t273 => (if 0 ≤ a2 then (if a2 < (t273.length : Int) then ((slices_Sort_int_int.f (t273.set (a2 : Int).toNat t271)).bind fun t277 => ((slices_Reverse_int_int.f k t277).bind fun t278 => (some (t278, true)))) else (none)) else (none))) else (some (([] : List Int), false))) = some (r1, r2) := H
 have A5 := Aside0.mk A50
 clear A50
 by_cases c6 : t272 = true
 ·subst c6
  have H1 : ((slices_Clone_int_int.f l0).bind fun t273 => (if 0 ≤ a2 then (if a2 < (t273.length : Int) then ((slices_Sort_int_int.f (t273.set (a2 : Int).toNat t271)).bind fun t277 => ((slices_Reverse_int_int.f k t277).bind fun t278 => (some (t278, true)))) else (none)) else (none))) = some (r1, r2) := by rw [if_pos rfl] at H; exact H
  clear H
  have H := H1
  clear H1
  replace H := Option.bind_eq_some_iff.mp H
  obtain ⟨t273, A70, H⟩ := H
  replace H : (if 0 ≤ a2 then (if a2 < (t273.length : Int) then ((slices_Sort_int_int.f (t273.set (a2 : Int).toNat t271)).bind fun t277 => ((slices_Reverse_int_int.f k t277).bind fun t278 => (some (t278, true)))) else (none)) else (none)) = some (r1, r2) := H
  have A7 := Aside0.mk A70
  clear A70
  by_cases c8 : 0 ≤ a2
  ·rw [if_pos c8] at H
   have c8b0 : decide (0 ≤ a2) = true := decide_eq_true c8
   clear c8
   by_cases c9 : a2 < (t273.length : Int)
   ·rw [if_pos c9] at H
    have c9b0 : decide (a2 < (t273.length : Int)) = true := decide_eq_true c9
    clear c9
    obtain ⟨y276, hy276⟩ : ∃ y_ : List Int, y_ = (t273.set (a2 : Int).toNat t271) := ⟨_, rfl⟩
    replace H : ((slices_Sort_int_int.f y276).bind fun t277 => ((slices_Reverse_int_int.f k t277).bind fun t278 => (some (t278, true)))) = some (r1, r2) := by first | (rw [hy276]; with_reducible exact H) | (have H2_ := (Option.bind_some _ _).symm.trans H; rw [hy276]; with_reducible exact H2_) | (have H2_ := (Option.bind_some _ _).symm.trans H; with_reducible exact H2_) | with_reducible exact H | (rw [hy276]; exact H) | exact H
    have Ny276 := Aside0.mk hy276
    clear hy276
    replace H := Option.bind_eq_some_iff.mp H
    obtain ⟨t277, A110, H⟩ := H
    replace H : ((slices_Reverse_int_int.f k t277).bind fun t278 => (some (t278, true))) = some (r1, r2) := H
    have A11 := Aside0.mk A110
    clear A110
    replace H := Option.bind_eq_some_iff.mp H
    obtain ⟨t278, A120, H⟩ := H
    replace H : (some (t278, true)) = some (r1, r2) := H
    have A12 := Aside0.mk A120
    clear A120
    simp only [Option.some.injEq, Prod.mk.injEq] at H
    obtain ⟨rfl, rfl⟩ := H
    go_enter Try.func76, Try.ntmps76
    go_wp2_with (first | ((with_reducible refine gate_callee (f := 100) rfl ?_); refine goesL_ (some 13) rfl rfl Try.func100 (by kernel_rfl) rfl #[.slice A0 l0.length c0, .int .i64 a1, .int .i64 a2] rfl (by (try simp only [List.map_toArray, List.map_cons, List.map_nil]); first | done | rfl | (simp only [List.length_drop, List.length_take]; rfl)) ?_; (with_reducible refine (impl_otherRoot.calls k _ _ l0 a1 a2 t271 _ ?side1 ?side2 A4.out).mono ?_); (case side1 => repeat (first | exact HR0.out | (with_reducible refine Kd.C_alloc ?_ _) | (with_reducible refine Kd.C_drewN ?_ _) | (with_reducible refine Kd.C_drew ?_))); (case side2 => exact HC0.out); rintro e w' ⟨rfl, ⟨nd, rfl⟩⟩; refine ⟨_, rfl, ?_⟩) | ((with_reducible refine gate_callee (f := 57) rfl ?_); refine goesL_ (some 15) rfl rfl Try.func57 (by kernel_rfl) rfl #[.int .i64 t271, .int .i64 1, .int .i64 100000] rfl (by (try simp only [List.map_toArray, List.map_cons, List.map_nil]); first | done | rfl | (simp only [List.length_drop, List.length_take]; rfl)) ?_; (with_reducible refine (impl_within.calls t271 1 100000 true _ A5.out).mono ?_); rintro e w' ⟨rfl, ⟨nd, rfl⟩⟩; refine ⟨_, rfl, ?_⟩) | ((with_reducible refine gate_callee (f := 58) rfl ?_); refine goesL_ (some 18) rfl rfl Try.func58 (by kernel_rfl) rfl #[.slice A0 l0.length c0] rfl (by (try simp only [List.map_toArray, List.map_cons, List.map_nil]); first | done | rfl | (simp only [List.length_drop, List.length_take]; rfl)) ?_; (with_reducible refine (slices_Clone_int_int.calls _ _ l0 t273 _ ?side1 ?side2 A7.out).mono ?_); (case side1 => repeat (first | exact HR0.out | (with_reducible refine Kd.C_alloc ?_ _) | (with_reducible refine Kd.C_drewN ?_ _) | (with_reducible refine Kd.C_drew ?_))); (case side2 => exact HC0.out); rintro e w13 ⟨v274, rfl, ho0, hb⟩; refine ⟨_, rfl, ?_⟩; have n0_ := Aside0.mk (Kd.R_lower ho0 (below_size (by repeat (first | (with_reducible first | exact HB.out | apply below_alloc | apply pw_below_drewN | apply below_drew1) | exact HB.out)))); have n1_ := Aside0.mk (below_step (by repeat (first | (with_reducible first | exact HB.out | apply below_alloc | apply pw_below_drewN | apply below_drew1) | exact HB.out)) hb); clear HB; have HO275 := n0_; have HB := n1_; clear n0_ n1_; (try clear hb); (try clear hb2); (try clear hk); (try clear hi); (try clear ho0); have p10 : 0 ≤ (a2 : Int) := of_decide_eq_true (by first | (with_reducible assumption) | assumption); have q10 : (a2 : Int) < ((t273.length : Int) : Int) := of_decide_eq_true (by first | (with_reducible assumption) | assumption); obtain ⟨go10, co10, eo10, gb10, gl10, cl10, HG10⟩ := Kd.R_form HO275.out (by omega); (first | cases eo10 | (injection eo10 with ea_ en_ ec_; (first | subst ea_ | (injection ea_ with ea_; subst ea_)); subst ec_; clear en_)); have GB10 := Aside0.mk gb10; have GG10 := Aside0.mk HG10; clear gb10 gl10 HG10; obtain ⟨hx10_0, hf10_0⟩ := Kd.R_celln 0 HO275.out (a2 : Int) p10 q10; replace p10 := eq_true p10; replace q10 := eq_true q10; obtain ⟨hy14_, hz14_⟩ := Kd.R_celln 0 HO275.out (a2 : Int) (of_decide_eq_true (by first | (with_reducible assumption) | assumption)) (of_decide_eq_true (by first | (with_reducible assumption) | assumption)); have HP14 := Kd.R_putg HO275.out (a2 : Int) t271) | ((with_reducible refine gate_store (t := 3) (p := 22) rfl ?_); refine store_event (t := 3) (p := 22) (v := ?vo_w15) (w1 := (w13.setCell ⟨go10, (a2 : Int).toNat, none⟩ (.int .i64 t271))) ?hg ?ho ?hn ?hr ?_; (case ho => rfl); (case hg => rfl); (case hn => rfl); (case hr => first | (go_simp; done) | (go_simp; rfl)); intro w15 hw; have hg : w13.grownBy w15 (some go10) := (by rw [hw]; exact HP14.2); have hp_ : Kd.R (Kd.int .i64) 3 w15 w.heap.size (fun _ => True) (.slice (some ⟨go10, 0, none⟩) t273.length co10) y276 := (by rw [hw, Ny276.out]; exact HP14.1); clear HP14; have n0_ := Aside0.mk (hp_); have n1_ := Aside0.mk ((by rw [hw]; exact below_set (HB.out) GB10.out : Below w.heap.size w w15)); clear HO275; clear HB; have HO275 := n0_; have HB := n1_; clear n0_ n1_; clear hg hw hp_) | ((with_reducible refine gate_callee (f := 101) rfl ?_); refine goesL_ (some 24) rfl rfl Try.func101 (by kernel_rfl) rfl #[.slice (some ⟨go10, 0, none⟩) t273.length co10] rfl (by (try simp only [List.map_toArray, List.map_cons, List.map_nil]); first | done | rfl | (simp only [List.length_drop, List.length_take]; rfl)) ?_; (with_reducible refine (slices_Sort_int_int.calls (fun k_ => some k_ = (.slice (some ⟨go10, 0, none⟩) t273.length co10 : Value).ownBlock) (.slice (some ⟨go10, 0, none⟩) t273.length co10) y276 t277 w _ ?side1 ?side2 A11.out).mono ?_); (case side1 => repeat (first | (with_reducible first | exact HB.out | apply below_alloc | apply pw_below_drewN | apply below_drew1) | exact HB.out)); (case side2 => exact Kd.R_tight rfl HO275.out); rintro e w16 ⟨rfl, hy0, hb, hkp⟩; refine ⟨_, rfl, ?_⟩; have n0_ := Aside0.mk (Kd.R_reok rfl hy0 (fun k_ e_ => HO275.out.1 k_ e_)); have n1_ := Aside0.mk (hb); clear HO275; clear HB; have HO275 := n0_; have HB := n1_; clear n0_ n1_; (try clear hb); (try clear hkp); (try clear hy0)) | ((with_reducible refine gate_callee (f := 102) rfl ?_); refine goesL_ (some 26) rfl rfl Try.func102 (by kernel_rfl) rfl #[.slice (some ⟨go10, 0, none⟩) t273.length co10] rfl (by (try simp only [List.map_toArray, List.map_cons, List.map_nil]); first | done | rfl | (simp only [List.length_drop, List.length_take]; rfl)) ?_; (with_reducible refine (slices_Reverse_int_int.calls k (fun k_ => some k_ = (.slice (some ⟨go10, 0, none⟩) t273.length co10 : Value).ownBlock) (.slice (some ⟨go10, 0, none⟩) t273.length co10) t277 t278 w _ ?side1 ?side2 A12.out).mono ?_); (case side1 => repeat (first | (with_reducible first | exact HB.out | apply below_alloc | apply pw_below_drewN | apply below_drew1) | exact HB.out)); (case side2 => exact Kd.R_tight rfl HO275.out); rintro e w17 ⟨rfl, hy0, hb, hkp⟩; refine ⟨_, rfl, ?_⟩; have n0_ := Aside0.mk (Kd.R_reok rfl hy0 (fun k_ e_ => HO275.out.1 k_ e_)); have n1_ := Aside0.mk (hb); clear HO275; clear HB; have HO275 := n0_; have HB := n1_; clear n0_ n1_; (try clear hb); (try clear hkp); (try clear hy0)))
    go_ret2
    exact ⟨_, by first | rfl | (simp [errW_none, errW_some] <;> rfl) | (simp [*, errW_none, errW_some] <;> rfl), by (with_reducible repeat (first | apply Kd.R_alloc | apply Kd.R_drewN | apply Kd.R_drew)); exact HO275.out, by repeat (first | (with_reducible first | exact HB.out | apply below_alloc | apply pw_below_drewN | apply below_drew1) | exact HB.out)⟩
   ·rw [if_neg c9] at H
    exact absurd H (by simp)
  ·rw [if_neg c8] at H
   exact absurd H (by simp)
 ·replace c6 := Bool.eq_false_iff.mpr c6
  subst c6
  have H1 : (some (([] : List Int), false)) = some (r1, r2) := by rw [if_neg (show ¬ (false = true) by decide)] at H; exact H
  clear H
  have H := H1
  clear H1
  simp only [Option.some.injEq, Prod.mk.injEq] at H
  obtain ⟨rfl, rfl⟩ := H
  go_enter Try.func76, Try.ntmps76
  go_wp2_with (first | ((with_reducible refine gate_callee (f := 100) rfl ?_); refine goesL_ (some 13) rfl rfl Try.func100 (by kernel_rfl) rfl #[.slice A0 l0.length c0, .int .i64 a1, .int .i64 a2] rfl (by (try simp only [List.map_toArray, List.map_cons, List.map_nil]); first | done | rfl | (simp only [List.length_drop, List.length_take]; rfl)) ?_; (with_reducible refine (impl_otherRoot.calls k _ _ l0 a1 a2 t271 _ ?side1 ?side2 A4.out).mono ?_); (case side1 => repeat (first | exact HR0.out | (with_reducible refine Kd.C_alloc ?_ _) | (with_reducible refine Kd.C_drewN ?_ _) | (with_reducible refine Kd.C_drew ?_))); (case side2 => exact HC0.out); rintro e w' ⟨rfl, ⟨nd, rfl⟩⟩; refine ⟨_, rfl, ?_⟩) | ((with_reducible refine gate_callee (f := 57) rfl ?_); refine goesL_ (some 15) rfl rfl Try.func57 (by kernel_rfl) rfl #[.int .i64 t271, .int .i64 1, .int .i64 100000] rfl (by (try simp only [List.map_toArray, List.map_cons, List.map_nil]); first | done | rfl | (simp only [List.length_drop, List.length_take]; rfl)) ?_; (with_reducible refine (impl_within.calls t271 1 100000 false _ A5.out).mono ?_); rintro e w' ⟨rfl, ⟨nd, rfl⟩⟩; refine ⟨_, rfl, ?_⟩))
  go_ret2
  exact ⟨_, by first | rfl | (simp [errW_none, errW_some] <;> rfl) | (simp [*, errW_none, errW_some] <;> rfl), by first | exact Kd.R_nil _ _ _ _ _ | exact Kd.N_nil _ _ _ _ _ | exact Kd.V_nil _ _ _ _ _ | exact Kd.Q_nil _ _ _ _ _ | exact Kd.S_nil _ _ _ _ _, by repeat (first | (with_reducible first | exact HB.out | apply below_alloc | apply pw_below_drewN | apply below_drew1) | exact HB.out)⟩

end Go.Proofs.Ytgpoljimomfbbaa.P

-- GhuDown
namespace Go.Proofs.Ytgpoljimomfbbaa.P
open Go.RowKit Go.Proofs.YtgpoljimomfbbaaW.PrintWords Go.Proofs.YtgpoljimomfbbaaW.PrintLast
set_option linter.unusedVariables false
set_option linter.unusedSimpArgs false

def spec_huDown.l0 : Nat → List Int → Int → List (List Int) → Option (List (List Int))
  | 0, _, _, _ => none
  | k + 1, x, a, o => (spec_huLast.f k x a).bind fun t => if t = true then some o else ((spec_huJump.f k x a 0).bind fun bt => if o.length < 1000000000 then spec_huDown.l0 k bt.1 a (o ++ [bt.1]) else none)
def spec_huDown.f (k : Nat) (l0 : List Int) (a1 : Int) : Option (List (List Int)) := (spec_l1Own.f l0).bind fun t => spec_huDown.l0 k t a1 [t]
theorem spec_huDown.mono_l : ∀ k, (∀ y0 y1 y2, LeO (spec_huDown.l0 k y0 y1 y2) (spec_huDown.l0 (k + 1) y0 y1 y2))
  | 0 => fun _ _ _ r h => by simp [spec_huDown.l0] at h
  | k + 1 => by
    have ih0 := spec_huDown.mono_l k
    intro y0 y1 y2
    unfold spec_huDown.l0
    repeat' first
      | (with_reducible exact ih0 _ _ _)
      | (with_reducible exact spec_huLast.mono _ _ _)
      | (with_reducible exact spec_huJump.mono _ _ _ _)
      | (with_reducible exact LeO.refl _)
      | (with_reducible exact LeO.none _)
      | (with_reducible refine LeO.ite ?_ ?_)
      | (with_reducible refine LeO.bind ?_ (fun _ => ?_))
theorem spec_huDown.mono : ∀ a0 a1 k, LeO (spec_huDown.f k a0 a1) (spec_huDown.f (k + 1) a0 a1) := by
  intro a0 a1 k
  unfold spec_huDown.f
  exact LeO.bind (LeO.refl _) (fun _ => spec_huDown.mono_l k _ _ _)

set_option maxHeartbeats 4000000 in
set_option maxRecDepth 100000 in
theorem spec_huDown.calls (k : Nat) (A0 : Option Addr) (c0 : Nat) (l0 : List Int) (a1 : Int) (r : List (List Int)) (w : World) (hr0 : Kd.C (Kd.int .i64) w A0 l0.length l0) (hc0 : l0.length ≤ c0) (h : spec_huDown.f k l0 a1 = some r) :
    Calls Try.prog 77 #[.slice A0 l0.length c0, .int .i64 a1] w fun e w' => ∃ v0_ : Value, e = .returned (v0_) ∧ Kd.S (Kd.slice 3 (Kd.int .i64)) 22 w' w.heap.size (fun _ => True) v0_ r ∧ Below w.heap.size w w' := by
  obtain ⟨t, A4, H⟩ := Option.bind_eq_some_iff.mp h
  clear h
  have HR0 := Aside0.mk hr0
  have HC0 := Aside0.mk hc0
  have HA4 := Aside0.mk A4
  have H' := Aside0.mk H
  have HB := Aside0.mk (Below.refl w.heap.size w)
  clear hr0 hc0 A4 H
  go_enter Try.func77, Try.ntmps77
  go_wp2_with (first
    | (go_at_call 55; refine (spec_l1Own.calls _ _ l0 t _ (by repeat (first | exact HR0.out | (with_reducible refine Kd.C_alloc ?_ _) | (with_reducible refine Kd.C_drewN ?_ _) | (with_reducible refine Kd.C_drew ?_))) HC0.out HA4.out).mono ?_; rintro e w1 ⟨v1, rfl, ho0, hb⟩; have n1_ := Aside0.mk (below_step HB.out hb); have n2_ := Aside0.mk (Kd.R_lower ho0 (below_size HB.out)); clear HB; have HB := n1_; have HO5 := n2_; clear n1_ n2_ ho0 hb; obtain ⟨Ao1, co1, eo1⟩ := Kd.R_slice HO5.out; subst eo1)
    | ((with_reducible refine gate_dst (N := 10) rfl ?_); refine Kd.S_lits (Kd.slice 3 (Kd.int .i64)) (w0 := w) w.heap.size 22 ?hg (N := 10) ?hd (xs := [t]) (inner := [.slice Ao1 t.length co1]) (ok := fun _ => True) (fun j k_ => j = 0 ∧ some k_ = (Value.slice Ao1 t.length co1).ownBlock) ?hr rfl ?hp ?ha (fun _ _ _ => trivial) trivial ?hB ?hs (by simp) ?_; (case hd => rfl); (case hg => rfl); (case hr => first | (go_simp; done) | (go_simp; rfl)); (case hp => intro j x hj; match j, hj with | 0, hj => (obtain rfl : t = x := by simpa using hj); exact ⟨_, rfl, Kd.R_mono (Kd.R_tight rfl HO5.out) (fun k_ hk => ⟨rfl, hk⟩)⟩); (case ha => rintro i j k_ ⟨rfl, _⟩ ⟨rfl, _⟩; rfl); (case hB => exact HB.out); (case hs => exact below_size HB.out); intro v2 w2 ho hb hg hat; have n1_ := Aside0.mk (Kd.R_over' HO5.out (v := .slice none 0 0) (e' := 22) (by intro k_ hk; simp [Value.ownBlock] at hk) (by decide) hg); have n2_ := Aside0.mk ho; have n3_ := Aside0.mk hb; clear HB HO5; have HO5 := n1_; have HO6 := n2_; have HB := n3_; clear n1_ n2_ n3_ ho hb hg hat))
  go_loopg [5, 6] k (fun kq v5 v6 w' => ∃ (x : List Int) (o : List (List Int)), Aside0 (spec_huDown.l0 kq x a1 o = some r) ∧ Aside0 (kq ≤ k) ∧ Aside0 (Kd.R (Kd.int .i64) 3 w' w.heap.size (fun _ => True) v5 x) ∧ Aside0 (Kd.S (Kd.slice 3 (Kd.int .i64)) 22 w' w.heap.size (fun _ => True) v6 o) ∧ Aside0 (Below w.heap.size w w'))
  case atStart => exact ⟨t, [t], H', ⟨Nat.le_refl _⟩, ⟨HO5.out⟩, ⟨HO6.out⟩, ⟨HB.out⟩⟩
  case round =>
    clear H' HO5 HO6 HB HA4
    obtain ⟨x, o, HA, HK1, HO5, HO6, HB⟩ := hrel
    cases gk with
    | zero => exact absurd HA.out (by simp [spec_huDown.l0])
    | succ k1 =>
      have H := HA.out
      clear HA
      simp only [spec_huDown.l0] at H
      obtain ⟨t1, A12, H⟩ := Option.bind_eq_some_iff.mp H
      have HA12 := Aside0.mk A12
      clear A12
      obtain ⟨Ax, cx, ex⟩ := Kd.R_slice HO5.out
      subst ex
      by_cases c13 : t1 = true
      · subst c13
        obtain rfl : o = r := by simpa using H
        clear H
        go_wp2_with (first
          | (go_at_call 72; refine (spec_huLast.calls k1 _ _ x a1 true _ (by repeat (first | exact (Kd.R_reads' HO5.out).2.2 | (with_reducible refine Kd.C_alloc ?_ _) | (with_reducible refine Kd.C_drewN ?_ _) | (with_reducible refine Kd.C_drew ?_))) (Kd.R_reads' HO5.out).2.1 HA12.out).mono ?_; rintro e w3 ⟨rfl, hb⟩; have n1_ := Aside0.mk (Kd.S_below HO6.out hb); have n2_ := Aside0.mk (below_step HB.out hb); clear HO6 HB; have HO6 := n1_; have HB := n2_; clear n1_ n2_ hb))
        go_ret
        exact ⟨_, rfl, HO6.out, HB.out⟩
      · replace c13 := Bool.eq_false_iff.mpr c13
        subst c13
        rw [if_neg (show ¬ (false = true) by decide)] at H
        obtain ⟨⟨t2, t3⟩, A15, H⟩ := Option.bind_eq_some_iff.mp H
        have HA15 := Aside0.mk A15
        clear A15
        by_cases c17 : o.length < 1000000000
        · replace H : spec_huDown.l0 k1 t2 a1 (o ++ [t2]) = some r := by
            have H2 : (if o.length < 1000000000 then spec_huDown.l0 k1 t2 a1 (o ++ [t2]) else none) = some r := H
            rw [if_pos c17] at H2
            exact H2
          have H' := Aside0.mk H
          have LM := Aside0.mk c17
          clear H c17
          go_wp2_with (first
            | (go_at_call 72; refine (spec_huLast.calls k1 _ _ x a1 false _ (by repeat (first | exact (Kd.R_reads' HO5.out).2.2 | (with_reducible refine Kd.C_alloc ?_ _) | (with_reducible refine Kd.C_drewN ?_ _) | (with_reducible refine Kd.C_drew ?_))) (Kd.R_reads' HO5.out).2.1 HA12.out).mono ?_; rintro e w3 ⟨rfl, hb⟩; have n0_ := Aside0.mk (Kd.R_below HO5.out hb); have n1_ := Aside0.mk (Kd.S_below HO6.out hb); have n2_ := Aside0.mk (below_step HB.out hb); clear HO5 HO6 HB; have HO5 := n0_; have HO6 := n1_; have HB := n2_; clear n0_ n1_ n2_ hb)
            | (go_at_call 78; refine (spec_huJump.calls k1 _ _ x a1 0 t2 t3 _ (by repeat (first | exact (Kd.R_reads' HO5.out).2.2 | (with_reducible refine Kd.C_alloc ?_ _) | (with_reducible refine Kd.C_drewN ?_ _) | (with_reducible refine Kd.C_drew ?_))) (Kd.R_reads' HO5.out).2.1 HA15.out).mono ?_; rintro e w4 ⟨v4, rfl, ho0, hb⟩; have n1_ := Aside0.mk (Kd.S_elder' (by (with_reducible repeat (first | apply Kd.S_alloc | apply Kd.S_drewN | apply Kd.S_drew)); exact HO6.out) (Kd.R_base ho0) hb); have n2_ := Aside0.mk (below_step (by repeat (first | (with_reducible first | exact HB.out | apply below_alloc | apply pw_below_drewN | apply below_drew1) | exact HB.out)) hb); have n0_ := Aside0.mk (Kd.R_lower ho0 (below_size (by repeat (first | (with_reducible first | exact HB.out | apply below_alloc | apply pw_below_drewN | apply below_drew1) | exact HB.out)))); clear HO5 HO6 HB; have HO5 := n0_; have HO6 := n1_; have HB := n2_; clear n0_ n1_ n2_ hb ho0; obtain ⟨Ao4, co4, eo4⟩ := Kd.R_slice HO5.out; subst eo4)
            | ((with_reducible refine gate_builtin (b := .append) (xs := #[.tmp 21, .tmp 23]) rfl ?_); at_builtin; refine Kd.S_append (Kd.slice 3 (Kd.int .i64)) (w0 := w) w.heap.size rfl (.tmp 21) (.tmp 23) 23 22 (.slice none 0 0) 24 rfl Try.underlying23 info22 rfl (by decide) (by omega) u6 o t2 [.slice Ao4 t2.length co4] (fun _ => True) (fun k_ => some k_ = (Value.slice Ao4 t2.length co4).ownBlock) rfl rfl ?aP ?aK (fun _ _ => trivial) ?aO ?aB ?aS ?aL ?_; (case aP => exact ⟨_, rfl, Kd.R_tight rfl HO5.out⟩); (case aK => exact fun k_ hk => ⟨trivial, ((Kd.R_apart' HO5.out (Kd.S_typed HO6.out) (by decide)).1 k_ hk.symm).2⟩); (case aO => exact Kd.S_mono HO6.out (fun k_ hk => ⟨trivial, hk.2⟩)); (case aB => exact HB.out); (case aS => exact below_size HB.out); (case aL => have := LM.out; omega); intro v7 w7 ho hb hg hat; have n0_ := Aside0.mk (Kd.R_over' HO5.out (Kd.S_typed HO6.out) (by decide) hg); clear HO5 HO6 HB; have HO5 := n0_; have HO6 := Aside0.mk ho; have HB := Aside0.mk hb; clear n0_ ho hb hg hat))
          go_roundg k1
          case measure => have := HK1.out; omega
          case rel => exact ⟨t2, o ++ [t2], H', ⟨by have := HK1.out; omega⟩, ⟨HO5.out⟩, ⟨HO6.out⟩, ⟨HB.out⟩⟩
        · exact absurd H (by simp [c17])

def impl_WayDown.l0 : Nat → List Int → Int → List (List Int) → Option ((List (List Int)) × Bool)
  | 0, _, _, _ => none
  | k + 1, x, a, o => (impl_isFundamental.f k x a).bind fun t => if t = true then some (o, true) else ((impl_jump.f k x a 0).bind fun bt => ((slices_Clone_int_int.f bt.1).bind fun t2 => if o.length < 1000000000 then impl_WayDown.l0 k bt.1 a (o ++ [t2]) else none))
def impl_WayDown.f (k : Nat) (l0 : List Int) (a1 : Int) (a2 : Int) : Option ((List (List Int)) × Bool) := (impl_isSolution.f k l0 a1 a2).bind fun t => if t = true then ((slices_Clone_int_int.f l0).bind fun t2 => impl_WayDown.l0 k l0 a1 [t2]) else some ([], false)
theorem impl_WayDown.mono_l : ∀ k, (∀ y0 y1 y2, LeO (impl_WayDown.l0 k y0 y1 y2) (impl_WayDown.l0 (k + 1) y0 y1 y2))
  | 0 => fun _ _ _ r h => by simp [impl_WayDown.l0] at h
  | k + 1 => by
    have ih0 := impl_WayDown.mono_l k
    intro y0 y1 y2
    unfold impl_WayDown.l0
    repeat' first
      | (with_reducible exact ih0 _ _ _)
      | (with_reducible exact impl_isFundamental.mono _ _ _)
      | (with_reducible exact impl_jump.mono _ _ _ _)
      | (with_reducible exact LeO.refl _)
      | (with_reducible exact LeO.none _)
      | (with_reducible refine LeO.ite ?_ ?_)
      | (with_reducible refine LeO.bind ?_ (fun _ => ?_))
theorem impl_WayDown.mono : ∀ a0 a1 a2 k, LeO (impl_WayDown.f k a0 a1 a2) (impl_WayDown.f (k + 1) a0 a1 a2) := by
  intro a0 a1 a2 k
  unfold impl_WayDown.f
  exact LeO.bind (impl_isSolution.mono _ _ _ _) (fun _ => LeO.ite (LeO.bind (LeO.refl _) (fun _ => impl_WayDown.mono_l k _ _ _)) (LeO.refl _))

/-- A list that came in, or one of the call's own. -/
def InOrOwn (w : World) (A0 : Option Addr) (c0 : Nat) (l0 : List Int) (w' : World) (v : Value) (x : List Int) : Prop := (v = .slice A0 l0.length c0 ∧ x = l0) ∨ Kd.R (Kd.int .i64) 3 w' w.heap.size (fun _ => True) v x
theorem InOrOwn.reads {w w' : World} {A0 : Option Addr} {c0 : Nat} {l0 x : List Int} {v : Value} (h : InOrOwn w A0 c0 l0 w' v x) (hr0 : Kd.C (Kd.int .i64) w A0 l0.length l0) (hc0 : l0.length ≤ c0) (hb : Below w.heap.size w w') : ∃ A c, v = .slice A x.length c ∧ x.length ≤ c ∧ Kd.C (Kd.int .i64) w' A x.length x := by
  rcases h with ⟨rfl, rfl⟩ | h
  · exact ⟨_, _, rfl, hc0, Kd.C_below hr0 hb⟩
  · exact Kd.R_reads h

set_option maxHeartbeats 4000000 in
set_option maxRecDepth 100000 in
theorem impl_WayDown.calls (k : Nat) (A0 : Option Addr) (c0 : Nat) (l0 : List Int) (a1 : Int) (a2 : Int) (r1 : List (List Int)) (r2 : Bool) (w : World) (hr0 : Kd.C (Kd.int .i64) w A0 l0.length l0) (hc0 : l0.length ≤ c0) (h : impl_WayDown.f k l0 a1 a2 = some (r1, r2)) :
    Calls Try.prog 34 #[.slice A0 l0.length c0, .int .i64 a1, .int .i64 a2] w fun e w' => ∃ v0_ : Value, e = .returned (.tuple #[v0_, .bool r2]) ∧ Kd.S (Kd.slice 3 (Kd.int .i64)) 22 w' w.heap.size (fun _ => True) v0_ r1 ∧ Below w.heap.size w w' := by
  obtain ⟨t0, A3, H⟩ := Option.bind_eq_some_iff.mp h
  clear h
  have HR0 := Aside0.mk hr0
  have HC0 := Aside0.mk hc0
  have HA3 := Aside0.mk A3
  have HB := Aside0.mk (Below.refl w.heap.size w)
  clear hr0 hc0 A3
  by_cases c5 : t0 = true
  · subst c5
    rw [if_pos rfl] at H
    obtain ⟨t, A4, H⟩ := Option.bind_eq_some_iff.mp H
    have HA4 := Aside0.mk A4
    have H' := Aside0.mk H
    clear A4 H
    go_enter Try.func34, Try.ntmps34
    go_wp2_with (first
      | (go_at_call 50; refine (impl_isSolution.calls k _ _ l0 a1 a2 true _ (by repeat (first | exact HR0.out | (with_reducible refine Kd.C_alloc ?_ _) | (with_reducible refine Kd.C_drewN ?_ _) | (with_reducible refine Kd.C_drew ?_))) HC0.out HA3.out).mono ?_; rintro e w0 ⟨rfl, hb⟩; have n1_ := Aside0.mk (below_step HB.out hb); clear HB; have HB := n1_; clear n1_ hb)
      | (go_at_call 58; refine (slices_Clone_int_int.calls _ _ l0 t _ (by repeat (first | exact (Kd.C_below HR0.out HB.out) | (with_reducible refine Kd.C_alloc ?_ _) | (with_reducible refine Kd.C_drewN ?_ _) | (with_reducible refine Kd.C_drew ?_))) HC0.out HA4.out).mono ?_; rintro e w1 ⟨v1, rfl, ho0, hb⟩; have n1_ := Aside0.mk (below_step HB.out hb); have n2_ := Aside0.mk (Kd.R_lower ho0 (below_size HB.out)); clear HB; have HB := n1_; have HO5 := n2_; clear n1_ n2_ ho0 hb; obtain ⟨Ao1, co1, eo1⟩ := Kd.R_slice HO5.out; subst eo1)
      | ((with_reducible refine gate_dst (N := 16) rfl ?_); refine Kd.S_lits (Kd.slice 3 (Kd.int .i64)) (w0 := w) w.heap.size 22 ?hg (N := 16) ?hd (xs := [t]) (inner := [.slice Ao1 t.length co1]) (ok := fun _ => True) (fun j k_ => j = 0 ∧ some k_ = (Value.slice Ao1 t.length co1).ownBlock) ?hr rfl ?hp ?ha (fun _ _ _ => trivial) trivial ?hB ?hs (by simp) ?_; (case hd => rfl); (case hg => rfl); (case hr => first | (go_simp; done) | (go_simp; rfl)); (case hp => intro j x hj; match j, hj with | 0, hj => (obtain rfl : t = x := by simpa using hj); exact ⟨_, rfl, Kd.R_mono (Kd.R_tight rfl HO5.out) (fun k_ hk => ⟨rfl, hk⟩)⟩); (case ha => rintro i j k_ ⟨rfl, _⟩ ⟨rfl, _⟩; rfl); (case hB => exact HB.out); (case hs => exact below_size HB.out); intro v2 w2 ho hb hg hat; have n2_ := Aside0.mk ho; have n3_ := Aside0.mk hb; clear HB HO5; have HO6 := n2_; have HB := n3_; clear n2_ n3_ ho hb hg hat))
    go_loopg [0, 8] k (fun kq v0 v8 w' => ∃ (x : List Int) (o : List (List Int)), Aside0 (impl_WayDown.l0 kq x a1 o = some (r1, r2)) ∧ Aside0 (kq ≤ k) ∧ Aside0 (InOrOwn w A0 c0 l0 w' v0 x) ∧ Aside0 (Kd.S (Kd.slice 3 (Kd.int .i64)) 22 w' w.heap.size (fun _ => True) v8 o) ∧ Aside0 (Below w.heap.size w w'))
    case atStart => exact ⟨l0, [t], H', ⟨Nat.le_refl _⟩, ⟨.inl ⟨rfl, rfl⟩⟩, ⟨HO6.out⟩, ⟨HB.out⟩⟩
    case round =>
      clear H' HO6 HB HA4 HA3
      obtain ⟨x, o, HA, HK1, HV, HO6, HB⟩ := hrel
      cases gk with
      | zero => exact absurd HA.out (by simp [impl_WayDown.l0])
      | succ k1 =>
        have H := HA.out
        clear HA
        simp only [impl_WayDown.l0] at H
        obtain ⟨t1, A12, H⟩ := Option.bind_eq_some_iff.mp H
        have HA12 := Aside0.mk A12
        clear A12
        obtain ⟨Ax, cx, ex, hcx, hrx⟩ := InOrOwn.reads HV.out HR0.out HC0.out HB.out
        subst ex
        have HCX := Aside0.mk hcx
        have HRX := Aside0.mk hrx
        clear hcx hrx HV
        by_cases c13 : t1 = true
        · subst c13
          obtain ⟨rfl, rfl⟩ : o = r1 ∧ true = r2 := by simpa using H
          clear H
          go_wp2_with (first
            | (go_at_call 71; refine (impl_isFundamental.calls k1 _ _ x a1 true _ (by repeat (first | exact HRX.out | (with_reducible refine Kd.C_alloc ?_ _) | (with_reducible refine Kd.C_drewN ?_ _) | (with_reducible refine Kd.C_drew ?_))) HCX.out HA12.out).mono ?_; rintro e w' ⟨rfl, ⟨nd, rfl⟩⟩))
          go_ret2
          exact ⟨_, rfl, by (with_reducible repeat (first | apply Kd.S_alloc | apply Kd.S_drewN | apply Kd.S_drew)); exact HO6.out, by repeat (first | (with_reducible first | exact HB.out | apply below_alloc | apply pw_below_drewN | apply below_drew1) | exact HB.out)⟩
        · replace c13 := Bool.eq_false_iff.mpr c13
          subst c13
          rw [if_neg (show ¬ (false = true) by decide)] at H
          obtain ⟨⟨t2, t3⟩, A15, H⟩ := Option.bind_eq_some_iff.mp H
          obtain ⟨t4, A16, H⟩ := Option.bind_eq_some_iff.mp H
          have HA15 := Aside0.mk A15
          have HA16 := Aside0.mk A16
          clear A15 A16
          by_cases c17 : o.length < 1000000000
          · replace H : impl_WayDown.l0 k1 t2 a1 (o ++ [t4]) = some (r1, r2) := by
              have H2 : (if o.length < 1000000000 then impl_WayDown.l0 k1 t2 a1 (o ++ [t4]) else none) = some (r1, r2) := H
              rw [if_pos c17] at H2
              exact H2
            have H' := Aside0.mk H
            have LM := Aside0.mk c17
            clear H c17
            go_wp2_with (first
              | (go_at_call 71; refine (impl_isFundamental.calls k1 _ _ x a1 false _ (by repeat (first | exact HRX.out | (with_reducible refine Kd.C_alloc ?_ _) | (with_reducible refine Kd.C_drewN ?_ _) | (with_reducible refine Kd.C_drew ?_))) HCX.out HA12.out).mono ?_; rintro e w' ⟨rfl, ⟨nd, rfl⟩⟩)
              | (go_at_call 76; refine (impl_jump.calls k1 _ _ x a1 0 t2 t3 _ (by repeat (first | exact HRX.out | (with_reducible refine Kd.C_alloc ?_ _) | (with_reducible refine Kd.C_drewN ?_ _) | (with_reducible refine Kd.C_drew ?_))) HCX.out HA15.out).mono ?_; rintro e w4 ⟨v4, rfl, ho0, hb⟩; have n1_ := Aside0.mk (Kd.S_below (by (with_reducible repeat (first | apply Kd.S_alloc | apply Kd.S_drewN | apply Kd.S_drew)); exact HO6.out) hb); have n2_ := Aside0.mk (below_step (by repeat (first | (with_reducible first | exact HB.out | apply below_alloc | apply pw_below_drewN | apply below_drew1) | exact HB.out)) hb); have n0_ := Aside0.mk (Kd.R_lower ho0 (below_size (by repeat (first | (with_reducible first | exact HB.out | apply below_alloc | apply pw_below_drewN | apply below_drew1) | exact HB.out)))); clear HRX HCX HO6 HB; have HO5 := n0_; have HO6 := n1_; have HB := n2_; clear n0_ n1_ n2_ hb ho0; obtain ⟨Ao4, co4, eo4⟩ := Kd.R_slice HO5.out; subst eo4)
              | (go_at_call 58; refine (slices_Clone_int_int.calls _ _ t2 t4 _ (by repeat (first | exact (Kd.R_reads' HO5.out).2.2 | (with_reducible refine Kd.C_alloc ?_ _) | (with_reducible refine Kd.C_drewN ?_ _) | (with_reducible refine Kd.C_drew ?_))) (Kd.R_reads' HO5.out).2.1 HA16.out).mono ?_; rintro e w5 ⟨v5, rfl, ho0, hb⟩; have n0_ := Aside0.mk (Kd.R_below (by (with_reducible repeat (first | apply Kd.R_alloc | apply Kd.R_drewN | apply Kd.R_drew)); exact HO5.out) hb); have n1_ := Aside0.mk (Kd.S_elder' (by (with_reducible repeat (first | apply Kd.S_alloc | apply Kd.S_drewN | apply Kd.S_drew)); exact HO6.out) (Kd.R_base ho0) hb); have n2_ := Aside0.mk (below_step (by repeat (first | (with_reducible first | exact HB.out | apply below_alloc | apply pw_below_drewN | apply below_drew1) | exact HB.out)) hb); have n3_ := Aside0.mk (Kd.R_lower ho0 (below_size (by repeat (first | (with_reducible first | exact HB.out | apply below_alloc | apply pw_below_drewN | apply below_drew1) | exact HB.out)))); clear HO5 HO6 HB; have HO5 := n0_; have HO6 := n1_; have HB := n2_; have HO7 := n3_; clear n0_ n1_ n2_ n3_ hb ho0; obtain ⟨Ao5, co5, eo5⟩ := Kd.R_slice HO7.out; subst eo5)
              | ((with_reducible refine gate_builtin (b := .append) (xs := #[.tmp 27, .tmp 30]) rfl ?_); at_builtin; refine Kd.S_append (Kd.slice 3 (Kd.int .i64)) (w0 := w) w.heap.size rfl (.tmp 27) (.tmp 30) 23 22 (.slice none 0 0) 24 rfl Try.underlying23 info22 rfl (by decide) (by omega) u8 o t4 [.slice Ao5 t4.length co5] (fun _ => True) (fun k_ => some k_ = (Value.slice Ao5 t4.length co5).ownBlock) rfl rfl ?aP ?aK (fun _ _ => trivial) ?aO ?aB ?aS ?aL ?_; (case aP => exact ⟨_, rfl, Kd.R_tight rfl HO7.out⟩); (case aK => exact fun k_ hk => ⟨trivial, ((Kd.R_apart' HO7.out (Kd.S_typed HO6.out) (by decide)).1 k_ hk.symm).2⟩); (case aO => exact Kd.S_mono HO6.out (fun k_ hk => ⟨trivial, hk.2⟩)); (case aB => exact HB.out); (case aS => exact below_size HB.out); (case aL => have := LM.out; omega); intro v7 w7 ho hb hg hat; have n0_ := Aside0.mk (Kd.R_over' HO5.out (Kd.S_typed HO6.out) (by decide) hg); clear HO5 HO6 HO7 HB; have HO5 := n0_; have HO6 := Aside0.mk ho; have HB := Aside0.mk hb; clear n0_ ho hb hg hat))
            go_roundg k1
            case measure => have := HK1.out; omega
            case rel => exact ⟨t2, o ++ [t4], H', ⟨by have := HK1.out; omega⟩, ⟨.inr HO5.out⟩, ⟨HO6.out⟩, ⟨HB.out⟩⟩
          · exact absurd H (by simp [c17])
  · replace c5 := Bool.eq_false_iff.mpr c5
    subst c5
    rw [if_neg (show ¬ (false = true) by decide)] at H
    obtain ⟨rfl, rfl⟩ : ([] : List (List Int)) = r1 ∧ false = r2 := by simpa using H
    go_enter Try.func34, Try.ntmps34
    go_wp2_with (first
      | (go_at_call 50; refine (impl_isSolution.calls k _ _ l0 a1 a2 false _ (by repeat (first | exact HR0.out | (with_reducible refine Kd.C_alloc ?_ _) | (with_reducible refine Kd.C_drewN ?_ _) | (with_reducible refine Kd.C_drew ?_))) HC0.out HA3.out).mono ?_; rintro e w0 ⟨rfl, hb⟩; have n1_ := Aside0.mk (below_step HB.out hb); clear HB; have HB := n1_; clear n1_ hb))
    go_ret2
    exact ⟨_, rfl, Kd.S_nil _ _ _ _ _, HB.out⟩
end Go.Proofs.Ytgpoljimomfbbaa.P

-- PFimplFundamentalOf
namespace Go.Proofs.Ytgpoljimomfbbaa.P
open Go.RowKit Go.Proofs.YtgpoljimomfbbaaW.PrintWords Go.Proofs.YtgpoljimomfbbaaW.PrintLast
set_option linter.unusedVariables false
set_option linter.unusedSimpArgs false

/-! ### impl_FundamentalOf: function 30 -/
def impl_FundamentalOf.f (k : Nat) (l0 : List Int) (a1 : Int) (a2 : Int) : Option (List Int × Bool) := (impl_WayDown.f k l0 a1 a2).bind fun bt446 => (if bt446.2 = true then (if 0 ≤ (wrap64 ((bt446.1.length : Int) - 1)) then (if (wrap64 ((bt446.1.length : Int) - 1)) < (bt446.1.length : Int) then (some (rd_L1 bt446.1 (wrap64 ((bt446.1.length : Int) - 1)), true)) else (none)) else (none)) else (some (([] : List Int), false)))
theorem impl_FundamentalOf.mono : ∀ a0 a1 a2 k, LeO (impl_FundamentalOf.f k a0 a1 a2) (impl_FundamentalOf.f (k + 1) a0 a1 a2) := by
 intro a0 a1 a2 k
 unfold impl_FundamentalOf.f
 repeat' first
   | (with_reducible exact impl_WayDown.mono _ _ _ _)
   | (with_reducible exact LeO.refl _)
   | (with_reducible exact LeO.none _)
   | (with_reducible refine LeO.ite ?_ ?_)
   | (with_reducible refine LeO.bind ?_ (fun _ => ?_))
   | exact impl_WayDown.mono _ _ _ _
   | exact LeO.none _
   | refine LeO.ite ?_ ?_
   | refine LeO.bind ?_ (fun _ => ?_)
set_option maxHeartbeats 8000000 in
set_option maxRecDepth 100000 in
theorem impl_FundamentalOf.calls (k : Nat) (A0 : Option Addr) (c0 : Nat) (l0 : List Int) (a1 : Int) (a2 : Int) (r1 : List Int) (r2 : Bool) (w : World) (hr0 : Kd.C (Kd.int .i64) w A0 l0.length l0) (hc0 : l0.length ≤ c0) (h : impl_FundamentalOf.f k l0 a1 a2 = some (r1, r2)) :
  Calls Try.prog 30 #[.slice A0 l0.length c0, .int .i64 a1, .int .i64 a2] w fun e w' => ∃ v0_ : Value, e = .returned (.tuple #[v0_, .bool r2]) ∧ Kd.R (Kd.int .i64) 3 w' w.heap.size (fun _ => True) v0_ r1 ∧ Below w.heap.size w w' := by
 have HR0 := Aside0.mk hr0
 have HC0 := Aside0.mk hc0
 clear hr0 hc0
 have HB := Aside0.mk (Below.refl w.heap.size w)
 have H : ((impl_WayDown.f k l0 a1 a2).bind fun bt446 => (if bt446.2 = true then (if 0 ≤ (wrap64 ((bt446.1.length : Int) - 1)) then (if (wrap64 ((bt446.1.length : Int) - 1)) < (bt446.1.length : Int) then (some (rd_L1 bt446.1 (wrap64 ((bt446.1.length : Int) - 1)), true)) else (none)) else (none)) else (some (([] : List Int), false)))) = some (r1, r2) := h
 clear h
 replace H := Option.bind_eq_some_iff.mp H
 obtain ⟨⟨t446, t447⟩, A40, H⟩ := H
 replace H : (if t447 = true then (if 0 ≤ (wrap64 ((t446.length : Int) - 1)) then (if (wrap64 ((t446.length : Int) - 1)) < (t446.length : Int) then (some (rd_L1 t446 (wrap64 ((t446.length : Int) - 1)), true)) else (none)) else (none)) else (some (([] : List Int), false))) = some (r1, r2) := H
 have A4 := Aside0.mk A40
 clear A40
 by_cases c5 : t447 = true
 ·subst c5
  have H1 : (if 0 ≤ (wrap64 ((t446.length : Int) - 1)) then (if (wrap64 ((t446.length : Int) - 1)) < (t446.length : Int) then (some (rd_L1 t446 (wrap64 ((t446.length : Int) - 1)), true)) else (none)) else (none)) = some (r1, r2) := by rw [if_pos rfl] at H; exact H
  clear H
  have H := H1
  clear H1
  obtain ⟨ji6, hji6⟩ : ∃ j_ : Int, (wrap64 ((t446.length : Int) - 1)) = j_ := ⟨_, rfl⟩
  replace H : (if 0 ≤ (ji6) then (if (ji6) < (t446.length : Int) then (some (rd_L1 t446 (ji6), true)) else (none)) else (none)) = some (r1, r2) := by first | (rw [hji6] at H; exact H) | (simp only [hji6] at H ⊢; exact H)
  (try rw [hji6] at A4)
  have hji6w : (IntKind.i64.wrap ((t446.length : Int) - 1)) = ji6 := (i64_w _).trans hji6
  by_cases c7 : 0 ≤ (ji6)
  ·rw [if_pos c7] at H
   have c7b0 : decide (0 ≤ (ji6)) = true := decide_eq_true c7
   clear c7
   by_cases c8 : (ji6) < (t446.length : Int)
   ·rw [if_pos c8] at H
    have c8b0 : decide ((ji6) < (t446.length : Int)) = true := decide_eq_true c8
    clear c8
    simp only [Option.some.injEq, Prod.mk.injEq] at H
    obtain ⟨rfl, rfl⟩ := H
    go_enter Try.func30, Try.ntmps30
    go_wp2_with (first | ((with_reducible refine gate_callee (f := 34) rfl ?_); refine goesL_ (some 14) rfl rfl Try.func34 (by kernel_rfl) rfl #[.slice A0 l0.length c0, .int .i64 a1, .int .i64 a2] rfl (by (try simp only [List.map_toArray, List.map_cons, List.map_nil]); first | done | rfl | (simp only [List.length_drop, List.length_take]; rfl)) ?_; (with_reducible refine (impl_WayDown.calls k _ _ l0 a1 a2 t446 true _ ?side1 ?side2 A4.out).mono ?_); (case side1 => repeat (first | exact HR0.out | (with_reducible refine Kd.C_alloc ?_ _) | (with_reducible refine Kd.C_drewN ?_ _) | (with_reducible refine Kd.C_drew ?_))); (case side2 => exact HC0.out); rintro e w9 ⟨v448, rfl, ho0, hb⟩; refine ⟨_, rfl, ?_⟩; have n0_ := Aside0.mk (Kd.S_lower ho0 (below_size (by repeat (first | (with_reducible first | exact HB.out | apply below_alloc | apply pw_below_drewN | apply below_drew1) | exact HB.out)))); have n1_ := Aside0.mk (below_step (by repeat (first | (with_reducible first | exact HB.out | apply below_alloc | apply pw_below_drewN | apply below_drew1) | exact HB.out)) hb); clear HB; have HO449 := n0_; have HB := n1_; clear n0_ n1_; (try clear hb); (try clear hb2); (try clear hk); (try clear hi); (try clear ho0); obtain ⟨Ao10, co10, eo10⟩ := Kd.S_slice HO449.out; subst eo10; have p450 : 0 ≤ ((ji6) : Int) := of_decide_eq_true (by first | (with_reducible assumption) | assumption); have q450 : (ji6) < (t446.length : Int) := of_decide_eq_true (by first | (with_reducible assumption) | assumption); obtain ⟨ad450, A450_0, c450_0, e450, hx450_0, hl450_0, hi450_0⟩ := at_L1 (Kd.S_reads' HO449.out).2.2 (ji6) p450 q450; cases e450; obtain ⟨ce450, hce450, hMe450, hcc450⟩ := Kd.S_get HO449.out [] (ji6) p450 (by first | exact q450 | exact of_decide_eq_true (by first | (with_reducible assumption) | assumption) | (have e_ := (Kd.S_reads' HO449.out).1; omega)); obtain ⟨ve450_0, rfl, ge450_0⟩ := hMe450; have hv450_0 := hcc450 0 _ rfl; rw [Nat.add_zero, show ((Kd.slice 3 (Kd.int .i64))).sz = 1 from rfl, Nat.mul_one] at hv450_0; replace hv450_0 := Option.some.inj (hv450_0.symm.trans hx450_0); rw [hv450_0] at ge450_0; have HL450_0 := Aside0.mk (show Kd.R (Kd.int .i64) 3 _ _ _ _ (rd_L1 t446 (ji6)) from ge450_0); clear hv450_0 ge450_0; clear hcc450 hce450; have HR450_0 := Aside0.mk hi450_0; have HC450_0 := Aside0.mk hl450_0; clear hi450_0 hl450_0; replace p450 := eq_true p450; replace q450 := eq_true q450))
    go_ret2
    exact ⟨_, by first | rfl | (simp [errW_none, errW_some] <;> rfl) | (simp only [← hji6]; first | rfl | (simp [errW_none, errW_some] <;> rfl)) | (simp [*, errW_none, errW_some] <;> rfl), by (with_reducible repeat (first | apply Kd.R_alloc | apply Kd.R_drewN | apply Kd.R_drew)); exact Kd.R_mono HL450_0.out (fun _ hk => trivial), by repeat (first | (with_reducible first | exact HB.out | apply below_alloc | apply pw_below_drewN | apply below_drew1) | exact HB.out)⟩
   ·rw [if_neg c8] at H
    exact absurd H (by simp)
  ·rw [if_neg c7] at H
   exact absurd H (by simp)
 ·replace c5 := Bool.eq_false_iff.mpr c5
  subst c5
  have H1 : (some (([] : List Int), false)) = some (r1, r2) := by rw [if_neg (show ¬ (false = true) by decide)] at H; exact H
  clear H
  have H := H1
  clear H1
  simp only [Option.some.injEq, Prod.mk.injEq] at H
  obtain ⟨rfl, rfl⟩ := H
  go_enter Try.func30, Try.ntmps30
  go_wp2_with (first | ((with_reducible refine gate_callee (f := 34) rfl ?_); refine goesL_ (some 14) rfl rfl Try.func34 (by kernel_rfl) rfl #[.slice A0 l0.length c0, .int .i64 a1, .int .i64 a2] rfl (by (try simp only [List.map_toArray, List.map_cons, List.map_nil]); first | done | rfl | (simp only [List.length_drop, List.length_take]; rfl)) ?_; (with_reducible refine (impl_WayDown.calls k _ _ l0 a1 a2 t446 false _ ?side1 ?side2 A4.out).mono ?_); (case side1 => repeat (first | exact HR0.out | (with_reducible refine Kd.C_alloc ?_ _) | (with_reducible refine Kd.C_drewN ?_ _) | (with_reducible refine Kd.C_drew ?_))); (case side2 => exact HC0.out); rintro e w11 ⟨v448, rfl, ho0, hb⟩; refine ⟨_, rfl, ?_⟩; have n0_ := Aside0.mk (Kd.S_lower ho0 (below_size (by repeat (first | (with_reducible first | exact HB.out | apply below_alloc | apply pw_below_drewN | apply below_drew1) | exact HB.out)))); have n1_ := Aside0.mk (below_step (by repeat (first | (with_reducible first | exact HB.out | apply below_alloc | apply pw_below_drewN | apply below_drew1) | exact HB.out)) hb); clear HB; have HO449 := n0_; have HB := n1_; clear n0_ n1_; (try clear hb); (try clear hb2); (try clear hk); (try clear hi); (try clear ho0)))
  go_ret2
  exact ⟨_, by first | rfl | (simp [errW_none, errW_some] <;> rfl) | (simp [*, errW_none, errW_some] <;> rfl), by first | exact Kd.R_nil _ _ _ _ _ | exact Kd.N_nil _ _ _ _ _ | exact Kd.V_nil _ _ _ _ _ | exact Kd.Q_nil _ _ _ _ _ | exact Kd.S_nil _ _ _ _ _, by repeat (first | (with_reducible first | exact HB.out | apply below_alloc | apply pw_below_drewN | apply below_drew1) | exact HB.out)⟩

end Go.Proofs.Ytgpoljimomfbbaa.P

-- Gfundamentals
namespace Go.Proofs.Ytgpoljimomfbbaa.P
open Go Go.RowKit Go.Proofs.YtgpoljimomfbbaaW.PrintWords Go.Proofs.YtgpoljimomfbbaaW.PrintLast
set_option linter.unusedVariables false
set_option linter.unusedSimpArgs false

def filtL (k : Nat) (a : Int) : List (List Int) → List (List Int) → Option (List (List Int))
  | o, [] => some o
  | o, u :: us => (impl_isFundamental.f k u a).bind fun t => (if t = true then (if o.length < 1000000000 then filtL k a (o ++ [u]) us else none) else filtL k a o us)
theorem filtL_mono (k : Nat) (a : Int) : ∀ us o, LeO (filtL k a o us) (filtL (k + 1) a o us)
  | [], o => LeO.refl _
  | u :: us, o => by
    unfold filtL
    refine LeO.bind (impl_isFundamental.mono _ _ _) (fun t => ?_)
    exact LeO.ite (LeO.ite (filtL_mono k a us _) (LeO.none _)) (filtL_mono k a us _)
def impl_FundamentalsUpTo.f (k : Nat) (a0 a1 a2 a3 : Int) : Option (List (List Int) × Bool) := (impl_SolutionsUpTo.f k a0 a1 a2 a3).bind fun bt => (if bt.2 = true then (if bt.1.length < 1000000000 then ((filtL k a1 [] bt.1).bind fun o => some (o, true)) else none) else some ([], false))
theorem impl_FundamentalsUpTo.mono : ∀ a0 a1 a2 a3 k, LeO (impl_FundamentalsUpTo.f k a0 a1 a2 a3) (impl_FundamentalsUpTo.f (k + 1) a0 a1 a2 a3) := by
  intro a0 a1 a2 a3 k
  unfold impl_FundamentalsUpTo.f
  refine LeO.bind (impl_SolutionsUpTo.mono _ _ _ _ _) (fun bt => LeO.ite ?_ (LeO.refl _))
  exact LeO.ite (LeO.bind (filtL_mono _ _ _ _) (fun _ => LeO.refl _)) (LeO.none _)
set_option maxHeartbeats 4000000 in
set_option maxRecDepth 100000 in
theorem impl_FundamentalsUpTo.calls (k : Nat) (a0 a1 a2 a3 : Int) (r1 : List (List Int)) (r2 : Bool) (w : World) (h : impl_FundamentalsUpTo.f k a0 a1 a2 a3 = some (r1, r2)) :
    Calls Try.prog 23 #[.int .i64 a0, .int .i64 a1, .int .i64 a2, .int .i64 a3] w fun e w' => ∃ v0_ : Value, e = .returned (.tuple #[v0_, .bool r2]) ∧ Kd.S (Kd.slice 3 (Kd.int .i64)) 22 w' w.heap.size (fun _ => True) v0_ r1 ∧ Below w.heap.size w w' := by
  unfold impl_FundamentalsUpTo.f at h
  obtain ⟨⟨o, t⟩, A3, h⟩ := Option.bind_eq_some_iff.mp h
  have HB := Aside0.mk (Below.refl w.heap.size w)
  have HA3 := Aside0.mk A3
  clear A3
  cases t with
  | false =>
    obtain ⟨rfl, rfl⟩ : ([] : List (List Int)) = r1 ∧ false = r2 := by simpa using h
    clear h
    go_enter Try.func23, Try.ntmps23
    go_wp2_with (go_at_call 21; refine (impl_SolutionsUpTo.calls k a0 a1 a2 a3 o false _ HA3.out).mono ?_; rintro e w4 ⟨v4, rfl, ho0, hb⟩; have n0_ := Aside0.mk ho0; have n2_ := Aside0.mk (below_step (by repeat (first | (with_reducible first | exact HB.out | apply below_alloc | apply pw_below_drewN | apply below_drew1) | exact HB.out)) hb); clear HB hb ho0; have HO5 := n0_; have HB := n2_; clear n0_ n2_)
    go_ret2
    exact ⟨_, rfl, Kd.S_nil _ _ _ _ _, (by repeat (first | (with_reducible first | exact HB.out | apply below_alloc | apply pw_below_drewN | apply below_drew1) | exact HB.out))⟩
  | true =>
    replace h : (if o.length < 1000000000 then ((filtL k a1 [] o).bind fun o => some (o, true)) else none) = some (r1, r2) := by simpa using h
    by_cases c9 : o.length < 1000000000
    rotate_left
    · rw [if_neg c9] at h
      exact absurd h (by simp)
    rw [if_pos c9] at h
    have HSZ := Aside0.mk c9
    clear c9
    obtain ⟨o2, A4, h⟩ := Option.bind_eq_some_iff.mp h
    obtain ⟨rfl, rfl⟩ : o2 = r1 ∧ true = r2 := by simpa using h
    have HA4 := Aside0.mk A4
    clear h A4
    go_enter Try.func23, Try.ntmps23
    go_wp2_with (first
      | (go_at_call 21; refine (impl_SolutionsUpTo.calls k a0 a1 a2 a3 o true _ HA3.out).mono ?_; rintro e w4 ⟨v4, rfl, ho0, hb⟩; have n0_ := Aside0.mk ho0; have n2_ := Aside0.mk (below_step (by repeat (first | (with_reducible first | exact HB.out | apply below_alloc | apply pw_below_drewN | apply below_drew1) | exact HB.out)) hb); obtain ⟨A4, g, c4, ns, e4, hA4, hrest, hg4, hn4⟩ := rest_of ho0 (below_size HB.out); have n1_ := Aside0.mk hrest; have HA4' := Aside0.mk hA4; have HLT4 : Aside0 (∀ k_, ¬ Free g ns k_ → ns ≠ [] → k_ < w4.heap.size) := ⟨fun k_ hk_ hne_ => Classical.byContradiction fun h_ => hk_ ⟨fun e_ => by have := hrest.lt hne_; omega, fun u_ hu_ e_ => by have := (hrest.rows.own hu_ e_).2.2; omega⟩⟩; clear HB hb ho0 n0_; have HRS := n1_; have HB := n2_; subst e4; clear n1_ n2_ hrest hg4 hn4 hA4)
      | ((with_reducible refine gate_dst (N := 25) rfl ?_); refine Kd.S_lits (Kd.slice 3 (Kd.int .i64)) (w0 := w) w.heap.size 22 ?hg (N := 25) ?hd (xs := []) (inner := []) (ok := fun k_ => ns ≠ [] → Free g ns k_) (fun j k_ => False) ?hr rfl ?hp ?ha (fun _ _ h_ => h_.elim) (fun h2_ => Classical.byContradiction fun h1_ => by have := HLT4.out _ h1_ h2_; first | exact absurd this (Nat.lt_irrefl _) | (simp at this; done) | (simp at this; omega)) ?hB ?hs (by simp) ?_; (case hd => rfl); (case hg => rfl); (case hr => first | (go_simp; done) | (go_simp; rfl)); (case hp => intro j x hj; simp at hj); (case ha => intro i j k_ h1 _; exact h1.elim); (case hB => exact (by repeat (first | (with_reducible first | exact HB.out | apply below_alloc | apply pw_below_drewN | apply below_drew1) | exact HB.out))); (case hs => exact below_size (by repeat (first | (with_reducible first | exact HB.out | apply below_alloc | apply pw_below_drewN | apply below_drew1) | exact HB.out))); intro v2 w2 ho hb hg hat; have n2_ := Aside0.mk ho; have n3_ := Aside0.mk hb; have n1_ := Aside0.mk (HRS.out.step (w1 := w2) hg.size (fun k_ _ hlt_ => hg.block k_ hlt_ (by simp))); clear HB HRS; have HO6 := n2_; have HB := n3_; have HRS := n1_; clear n1_ n2_ n3_ ho hb hg hat))
    obtain ⟨A2, c2, e2⟩ := Kd.S_slice HO6.out
    subst e2
    go_loopg [12, 28] (o.length + 1) (fun kj v12 v28 w' => ∃ (o' : List (List Int)) (ns' : List Value) (us : List (List Int)) (off : Nat), v28 = .int .i64 (off : Int) ∧ Aside0 (off + us.length = o.length) ∧ Aside0 (us.length < kj) ∧ Aside0 (filtL k a1 o' us = some o2) ∧ Aside0 (o'.length ≤ 1000000000) ∧ Aside0 (Kd.S (Kd.slice 3 (Kd.int .i64)) 22 w' w.heap.size (fun k_ => ns' ≠ [] → Free g ns' k_) v12 o') ∧ Aside0 (Rest w' w.heap.size g off ns' us) ∧ Aside0 (Below w.heap.size w w'))
    case atStart => exact ⟨[], ns, o, 0, rfl, ⟨by omega⟩, ⟨by omega⟩, HA4, ⟨by simp⟩, HO6, HRS, HB⟩
    case round =>
      clear HO6 HRS HB HA4 HLT4
      obtain ⟨o', ns', us, off, rfl, HOF, HKJ, HAD, HLN, HO6, HRS, HB⟩ := hrel
      cases us with
      | nil =>
        have HOF' : Aside0 (off = o.length) := ⟨by simpa using HOF.out⟩
        have d1b0 : decide ((off : Int) < (o.length : Int)) = false := decide_eq_false (by have := HOF'.out; omega)
        have d1b1 : decide (off < o.length) = false := decide_eq_false (by have := HOF'.out; omega)
        obtain rfl : o' = o2 := Option.some.inj HAD.out
        obtain ⟨A3', c3', e3'⟩ := Kd.S_slice HO6.out
        subst e3'
        go_wp2
        go_ret2
        exact ⟨_, rfl, Kd.S_mono HO6.out (fun _ _ => trivial), (by repeat (first | (with_reducible first | exact HB.out | apply below_alloc | apply pw_below_drewN | apply below_drew1) | exact HB.out))⟩
      | cons b us =>
        obtain ⟨n, ns2, rfl⟩ : ∃ n ns2, ns' = n :: ns2 := by
          have := HRS.out.rows.len
          cases ns' with
          | nil => simp at this
          | cons n ns2 => exact ⟨n, ns2, rfl⟩
        have HO7 := Aside0.mk (Kd.S_mono (ok' := Free g (n :: ns2)) HO6.out (fun _ h_ => h_ (by simp)))
        clear HO6
        have HO6 := HO7
        clear HO7
        obtain ⟨ad4, e5, had4⟩ := HA4'.out (fun e_ => by have := HOF.out; rw [e_] at this; simp at this)
        subst e5
        subst had4
        obtain ⟨Ab, cb, en, hcb, hcell, hRb, hfree⟩ := HRS.out.head
        subst en
        have HCB := Aside0.mk hcb
        have HRB := Aside0.mk hRb
        have HFR := Aside0.mk hfree
        have HCR := Aside0.mk (Kd.R_reads' hRb).2.2
        have HOL : Aside0 (off < o.length) := ⟨by have := HOF.out; simp at this; omega⟩
        have hlt : off < o.length := HOL.out
        have hltz : (off : Int) < (o.length : Int) := by omega
        have d1b0 : decide ((off : Int) < (o.length : Int)) = true := decide_eq_true hltz
        have d1b1 : decide (off < o.length) = true := decide_eq_true hlt
        have HW : Aside0 (wrap64 ((off : Int) + 1) = ((off + 1 : Nat) : Int)) := ⟨by have := HOL.out; have := HSZ.out; unfold wrap64; omega⟩
        have H := HAD.out
        rw [filtL] at H
        obtain ⟨t, hT, H⟩ := Option.bind_eq_some_iff.mp H
        have HT := Aside0.mk hT
        obtain ⟨A3', c3', e3'⟩ := Kd.S_slice HO6.out
        subst e3'
        clear hcb hRb hfree hT HAD
        cases t with
        | false =>
          have HAD : Aside0 (filtL k a1 o' us = some o2) := ⟨by simpa using H⟩
          clear H
          go_wp2_with (go_at_call 71; refine (impl_isFundamental.calls k _ _ b a1 false _ HCR.out HCB.out HT.out).mono ?_; rintro e w5 ⟨rfl, ⟨nd, hw5⟩⟩; have hB5 : Below wr.heap.size wr w5 := (by rw [hw5]; exact pw_below_drewN (Below.refl _ _) nd); have n0_ := Aside0.mk (Kd.S_below HO6.out hB5); have n1_ := Aside0.mk (HRS.out.below hB5); have n2_ := Aside0.mk (below_step HB.out hB5); have n3_ := Aside0.mk (Kd.R_below HRB.out hB5); clear hw5 hB5 HO6 HRS HB HRB; have HO6 := n0_; have HRS := n1_; have HB := n2_; have HRB := n3_; clear n0_ n1_ n2_ n3_)
          go_roundg (us.length + 1)
          case measure => have := HKJ.out; simp at this; omega
          case rel => exact ⟨o', ns2, us, off + 1, (by rw [← HW.out]), ⟨by have := HOF.out; simp at this; omega⟩, ⟨by omega⟩, HAD, HLN, ⟨Kd.S_mono HO6.out (fun _ h_ _ => Free.tail h_)⟩, ⟨HRS.out.tail⟩, HB⟩
        | true =>
          replace H : (if o'.length < 1000000000 then filtL k a1 (o' ++ [b]) us else none) = some o2 := by simpa using H
          by_cases c9 : o'.length < 1000000000
          · rw [if_pos c9] at H
            have HAD := Aside0.mk H
            have LM := Aside0.mk c9
            clear H c9
            go_wp2_with (first
              | (go_at_call 71; refine (impl_isFundamental.calls k _ _ b a1 true _ HCR.out HCB.out HT.out).mono ?_; rintro e w5 ⟨rfl, ⟨nd, hw5⟩⟩; have hB5 : Below wr.heap.size wr w5 := (by rw [hw5]; exact pw_below_drewN (Below.refl _ _) nd); have n0_ := Aside0.mk (Kd.S_below HO6.out hB5); have n1_ := Aside0.mk (HRS.out.below hB5); have n2_ := Aside0.mk (below_step HB.out hB5); have n3_ := Aside0.mk (Kd.R_below HRB.out hB5); clear hw5 hB5 HO6 HRS HB HRB; have HO6 := n0_; have HRS := n1_; have HB := n2_; have HRB := n3_; clear n0_ n1_ n2_ n3_)
              | ((with_reducible refine gate_builtin (b := .append) (xs := #[.tmp 35, .tmp 37]) rfl ?_); at_builtin; refine Kd.S_append (Kd.slice 3 (Kd.int .i64)) (w0 := w) w.heap.size rfl (.tmp 35) (.tmp 37) 23 22 (.slice none 0 0) 24 rfl Try.underlying23 info22 rfl (by decide) (by omega) (.slice A3' o'.length c3') o' b [.slice Ab b.length cb] (fun k_ => ns2 ≠ [] → Free g ns2 k_) (fun k_ => some k_ = (Value.slice Ab b.length cb).ownBlock) rfl rfl ?aP ?aK ?aF ?aO ?aB ?aS ?aL ?_; (case aP => exact ⟨_, rfl, HRB.out⟩); (case aK => exact fun k_ hk => ⟨fun _ => (HFR.out k_ hk).1, fun e_ => ((S_vals HO6.out).choose_spec.1 k_ e_.symm).2 _ List.mem_cons_self hk.symm⟩); (case aF => exact fun k_ hk hne_ => ⟨fun e_ => by have h1_ := HRS.out.lt (by simp); omega, fun u_ hu_ e_ => by have h1_ := (HRS.out.rows.own (List.mem_cons_of_mem _ hu_) e_).2.2; omega⟩); (case aO => exact Kd.S_mono HO6.out (fun k_ hk => ⟨fun _ => Free.tail hk, fun e_ => hk.2 _ List.mem_cons_self e_.symm⟩)); (case aB => exact HB.out); (case aS => exact below_size HB.out); (case aL => have := LM.out; omega); intro v7 w7 ho hb hg hat; have n0_ := Aside0.mk ho; have n1_ := Aside0.mk hb; have n2_ := Aside0.mk (HRS.out.tail.step hg.size (fun k_ hk_ hlt_ => hg.block k_ hlt_ (fun e_ => hk_ (Free.tail ((S_vals HO6.out).choose_spec.1 k_ e_.symm))))); clear HO6 HB HRS hg hat ho hb; have HO6 := n0_; have HB := n1_; have HRS := n2_; clear n0_ n1_ n2_))
            go_roundg (us.length + 1)
            case measure => have := HKJ.out; simp at this; omega
            case rel => exact ⟨o' ++ [b], ns2, us, off + 1, (by rw [← HW.out]), ⟨by have := HOF.out; simp at this; omega⟩, ⟨by omega⟩, HAD, ⟨by have := LM.out; simp; omega⟩, HO6, HRS, HB⟩
          · rw [if_neg c9] at H
            exact absurd H (by simp)
end Go.Proofs.Ytgpoljimomfbbaa.P

-- Usorted
namespace Go.Proofs.Ytgpoljimomfbbaa.P
set_option linter.unusedVariables false
set_option linter.unusedSimpArgs false
open Go.RowKit Go.Proofs.YtgpoljimomfbbaaW.PrintWords Go.Proofs.YtgpoljimomfbbaaW.PrintLast

def up (l : List Int) : List Int := l.mergeSort fun x y => decide (x ≤ y)
theorem up_perm (l : List Int) : (up l).Perm l := List.mergeSort_perm _ _
theorem up_pairwise (l : List Int) : (up l).Pairwise (· ≤ ·) := by
  have h := List.pairwise_mergeSort (le := fun x y : Int => decide (x ≤ y)) (by intro a b c h1 h2; simp at *; omega) (by intro a b; simp; omega) l
  exact h.imp (by intro a b h; simpa using h)
theorem up_length (l : List Int) : (up l).length = l.length := (up_perm l).length_eq
theorem sort_is (l : List Int) (h : l.length < 4611686018427387904) : slices_Sort_int_int.f l = some (up l) := by
  unfold slices_Sort_int_int.f
  rw [if_pos h]
  rfl
end Go.Proofs.Ytgpoljimomfbbaa.P

-- Udown
namespace Go.Proofs.Ytgpoljimomfbbaa.P
set_option linter.unusedVariables false
set_option linter.unusedSimpArgs false
open Go.RowKit Go.Proofs.YtgpoljimomfbbaaW.PrintWords Go.Proofs.YtgpoljimomfbbaaW.PrintLast

def down (l : List Int) : List Int := (up l).reverse
theorem down_perm (l : List Int) : (down l).Perm l := (List.reverse_perm _).trans (up_perm l)
theorem down_pairwise (l : List Int) : (down l).Pairwise (· ≥ ·) := by
  unfold down
  rw [List.pairwise_reverse]
  exact up_pairwise l
theorem down_unique {l m : List Int} (hp : m.Perm l) (hs : m.Pairwise (· ≥ ·)) : m = down l :=
  List.Perm.eq_of_pairwise (le := (· ≥ ·)) (fun a b _ _ h1 h2 => by omega) hs (down_pairwise l) (hp.trans (down_perm l).symm)
theorem down_length (l : List Int) : (down l).length = l.length := (down_perm l).length_eq

/-- The first i and the last i have changed places. -/
def turned (xs : List Int) (i : Nat) : List Int := (List.range xs.length).map fun p => if p < i ∨ xs.length - i ≤ p then xs.getD (xs.length - 1 - p) 0 else xs.getD p 0
theorem turned_length (xs : List Int) (i : Nat) : (turned xs i).length = xs.length := by simp [turned]
theorem turned_zero (xs : List Int) : turned xs 0 = xs := by
  apply List.ext_getElem
  · simp [turned]
  · intro p h1 h2
    simp [turned, List.getD_eq_getElem?_getD, h2]
    omega
theorem turned_end (xs : List Int) (i : Nat) (h : xs.length ≤ 2 * i + 1) : turned xs i = xs.reverse := by
  apply List.ext_getElem
  · simp [turned]
  · intro p h1 h2
    have h3 : p < xs.length := by simpa using h2
    rw [List.getElem_reverse]
    simp only [turned, List.getElem_map, List.getElem_range]
    by_cases c : p < i ∨ xs.length - i ≤ p
    · rw [if_pos c]
      simp [List.getD_eq_getElem?_getD, show xs.length - 1 - p < xs.length by omega]
    · rw [if_neg c]
      have e : p = xs.length - 1 - p := by omega
      simp only [List.getD_eq_getElem?_getD]
      rw [List.getElem?_eq_getElem h3, Option.getD_some]
      congr 1
theorem turned_succ (xs : List Int) (i : Nat) (h : 2 * i + 1 < xs.length) : turned xs (i + 1) = ((turned xs i).set i ((turned xs i).getD (xs.length - 1 - i) 0)).set (xs.length - 1 - i) ((turned xs i).getD i 0) := by
  have g : ∀ p, p < xs.length → (turned xs i).getD p 0 = if p < i ∨ xs.length - i ≤ p then xs.getD (xs.length - 1 - p) 0 else xs.getD p 0 := by
    intro p hp
    simp [turned, List.getD_eq_getElem?_getD, hp]
  rw [g i (by omega), g (xs.length - 1 - i) (by omega), if_neg (by omega), if_neg (by omega)]
  apply List.ext_getElem
  · simp [turned]
  · intro p h1 h2
    have h3 : p < xs.length := by simpa [turned] using h1
    rw [List.getElem_set, List.getElem_set]
    simp only [turned, List.getElem_map, List.getElem_range]
    by_cases e1 : xs.length - 1 - i = p
    · rw [if_pos e1, if_pos (by omega)]
      congr 1
      omega
    · rw [if_neg e1]
      by_cases e2 : i = p
      · rw [if_pos e2, if_pos (by omega)]
        congr 1
        omega
      · rw [if_neg e2]
        by_cases c : p < i ∨ xs.length - i ≤ p
        · rw [if_pos (by omega), if_pos c]
        · rw [if_neg (by omega), if_neg c]
theorem reverse_upto (xs : List Int) (hn : xs.length ≤ 4611686018427387904) (d : Nat) : ∀ i : Nat, xs.length ≤ 2 * i + 2 * d → Ev (fun k => slices_Reverse_int_int.l0 k (turned xs i) (i : Int) ((xs.length : Int) - 1 - i)) xs.reverse := by
  induction d with
  | zero =>
    intro i hid
    refine Ev.step (f := fun _ => some (turned xs i)) (fun k => by simp only [slices_Reverse_int_int.l0]; rw [if_neg (by omega)]) ?_
    exact Ev.is (by rw [turned_end xs i (by omega)])
  | succ d ih =>
    intro i hid
    by_cases h : 2 * i + 1 < xs.length
    · have hl := turned_length xs i
      have e1 : wrap64 ((i : Int) + 1) = ((i + 1 : Nat) : Int) := w64_succ (n := xs.length) (by omega) hn
      have e2 : wrap64 ((xs.length : Int) - 1 - i - 1) = (xs.length : Int) - 1 - ((i + 1 : Nat) : Int) := by rw [w64 (by omega) (by omega)]; omega
      have e3 : ((xs.length : Int) - 1 - i).toNat = xs.length - 1 - i := by omega
      refine Ev.step (f := fun k => slices_Reverse_int_int.l0 k (turned xs (i + 1)) ((i + 1 : Nat) : Int) ((xs.length : Int) - 1 - ((i + 1 : Nat) : Int))) (fun k => ?_) (ih (i + 1) (by omega))
      simp only [slices_Reverse_int_int.l0]
      rw [if_pos (by omega), if_pos (by omega), if_pos (by omega), if_pos (by omega), if_pos (by omega), e1, e2, turned_succ xs i h]
      simp only [rd, e3, Int.toNat_natCast]
    · refine Ev.step (f := fun _ => some (turned xs i)) (fun k => by simp only [slices_Reverse_int_int.l0]; rw [if_neg (by omega)]) ?_
      exact Ev.is (by rw [turned_end xs i (by omega)])
theorem reverse_ev (xs : List Int) (hn : xs.length ≤ 4611686018427387904) : Ev (fun k => slices_Reverse_int_int.f k xs) xs.reverse := by
  unfold slices_Reverse_int_int.f
  rw [w64 (by omega) (by omega)]
  have h := reverse_upto xs hn xs.length 0 (by omega)
  rw [turned_zero] at h
  have e : (xs.length : Int) - 1 - ((0 : Nat) : Int) = (xs.length : Int) - 1 := by omega
  rw [e] at h
  exact h
end Go.Proofs.Ytgpoljimomfbbaa.P

-- UhuSort
namespace Go.Proofs.Ytgpoljimomfbbaa.P
set_option linter.unusedVariables false
set_option linter.unusedSimpArgs false
open Go.RowKit Go.Proofs.YtgpoljimomfbbaaW.PrintWords Go.Proofs.YtgpoljimomfbbaaW.PrintLast

def ins (x : Int) : List Int → List Int
  | [] => [x]
  | y :: l => if y ≥ x then y :: ins x l else x :: y :: l
theorem ins_length (x : Int) (l : List Int) : (ins x l).length = l.length + 1 := by
  induction l with
  | nil => rfl
  | cons y l ih =>
    rw [ins]
    split
    · simp [ih]
    · simp
theorem ins_perm (x : Int) (l : List Int) : (ins x l).Perm (x :: l) := by
  induction l with
  | nil => exact List.Perm.refl _
  | cons y l ih =>
    rw [ins]
    split
    · exact (List.Perm.cons y ih).trans (List.Perm.swap x y l)
    · exact List.Perm.refl _
theorem ins_pairwise (x : Int) (l : List Int) (h : l.Pairwise (· ≥ ·)) : (ins x l).Pairwise (· ≥ ·) := by
  induction l with
  | nil => simp [ins]
  | cons y l ih =>
    rw [List.pairwise_cons] at h
    rw [ins]
    split
    · rename_i hxy
      rw [List.pairwise_cons]
      refine ⟨fun z hz => ?_, ih h.2⟩
      rcases List.mem_cons.1 ((ins_perm x l).mem_iff.1 hz) with rfl | hz
      · exact hxy
      · exact h.1 z hz
    · rename_i hxy
      rw [List.pairwise_cons]
      refine ⟨fun z hz => ?_, List.pairwise_cons.2 h⟩
      rcases List.mem_cons.1 hz with rfl | hz
      · omega
      · have := h.1 z hz
        omega
theorem l1Own_is (l : List Int) (h : l.length < 17592186044416) : spec_l1Own.f l = some l := by
  unfold spec_l1Own.f
  simp [h]
theorem huSort_in (o : List Int) (x : Int) (l : List Int) (i : Nat) (hn : o.length ≤ 1000000) (hi : i < l.length) (hl : l.length ≤ 1000000) (r : List Int) (d : Nat) : ∀ j : Nat, j + d = o.length → Ev (fun k => spec_huSort.l0 k (o.take j ++ ins x (o.drop j)) l (l.length : Int) ((i + 1 : Nat) : Int)) r → Ev (fun k => spec_huSort.l1 k o x (j : Int) l (l.length : Int) (i : Int)) r := by
  have hput : ∀ j : Nat, j ≤ o.length → ∀ k, (if (0 : Int) ≤ (j : Int) then (if (j : Int) ≤ (o.length : Int) then ((spec_l1Own.f (o.take ((j : Int)).toNat)).bind fun t301 => (if t301.length < 17592186044416 then ((some (t301 ++ [x] : List Int)).bind fun y304 => ((some (o.drop ((j : Int)).toNat : List Int)).bind fun y307 => (if y304.length + y307.length < 17592186044416 then (spec_huSort.l0 k (y304 ++ y307) l (l.length : Int) (wrap64 ((i : Int) + 1))) else (none)))) else (none))) else (none)) else (none)) = spec_huSort.l0 k (o.take j ++ x :: o.drop j) l (l.length : Int) ((i + 1 : Nat) : Int) := by
    intro j hj k
    rw [if_pos (by omega), if_pos (by omega), Int.toNat_natCast, l1Own_is _ (by rw [List.length_take]; omega), w64_succ (n := l.length) hi (by omega)]
    simp only [Option.bind_some]
    rw [if_pos (by rw [List.length_take]; omega), if_pos (by rw [List.length_append, List.length_take, List.length_drop]; simp; omega), List.append_assoc, List.singleton_append]
  induction d with
  | zero =>
    intro j hid hE
    rw [List.drop_eq_nil_of_le (by omega), ins] at hE
    refine Ev.step (f := fun k => spec_huSort.l0 k (o.take j ++ [x]) l (l.length : Int) ((i + 1 : Nat) : Int)) (fun k => ?_) hE
    simp only [spec_huSort.l1]
    rw [if_neg (by omega), hput j (by omega) k, List.drop_eq_nil_of_le (by omega)]
  | succ d ih =>
    intro j hid hE
    have hdrop := rd_drop o j (by omega)
    rw [hdrop, ins] at hE
    by_cases h : rd o (j : Int) ≥ x
    · rw [if_pos h] at hE
      refine Ev.step (f := fun k => spec_huSort.l1 k o x ((j + 1 : Nat) : Int) l (l.length : Int) (i : Int)) (fun k => ?_) (ih (j + 1) (by omega) ?_)
      · simp only [spec_huSort.l1]
        rw [if_pos (by omega), if_pos (by omega), if_pos h, w64_succ (n := o.length) (by omega) (by omega)]
      · rw [List.take_succ_eq_append_getElem (by omega), List.append_assoc, List.singleton_append, ← rd_lt o j (by omega)]
        exact hE
    · rw [if_neg h] at hE
      refine Ev.step (f := fun k => spec_huSort.l0 k (o.take j ++ x :: o.drop j) l (l.length : Int) ((i + 1 : Nat) : Int)) (fun k => ?_) (by rw [hdrop]; exact hE)
      have hp := hput j (by omega) k
      rw [if_pos (by omega)] at hp
      simp only [spec_huSort.l1]
      rw [if_pos (by omega), if_pos (by omega), if_neg h]
      exact hp
theorem huSort_upto (l : List Int) (hl : l.length ≤ 1000000) (d : Nat) : ∀ (i : Nat) (o : List Int), i + d = l.length → o.length = i → Ev (fun k => spec_huSort.l0 k o l (l.length : Int) (i : Int)) ((l.drop i).foldl (fun o x => ins x o) o) := by
  induction d with
  | zero =>
    intro i o hid ho
    refine Ev.step (f := fun _ => some o) (fun k => by simp only [spec_huSort.l0]; rw [if_neg (by omega)]) ?_
    rw [List.drop_eq_nil_of_le (by omega)]
    exact Ev.is rfl
  | succ d ih =>
    intro i o hid ho
    refine Ev.step (f := fun k => spec_huSort.l1 k o (rd l (i : Int)) ((0 : Nat) : Int) l (l.length : Int) (i : Int)) (fun k => ?_) ?_
    · simp only [spec_huSort.l0]
      rw [if_pos (by omega), if_pos (by omega), if_pos (by omega)]
      rfl
    · refine huSort_in o _ l i (by omega) (by omega) hl _ o.length 0 (by omega) ?_
      rw [List.take_zero, List.drop_zero, List.nil_append, rd_drop l i (by omega), List.foldl_cons]
      exact ih (i + 1) _ (by omega) (by rw [ins_length]; omega)
theorem foldl_ins (l : List Int) : ∀ o : List Int, o.Pairwise (· ≥ ·) → (l.foldl (fun o x => ins x o) o).Pairwise (· ≥ ·) ∧ (l.foldl (fun o x => ins x o) o).Perm (o ++ l) := by
  induction l with
  | nil => intro o ho; exact ⟨ho, by rw [List.append_nil]; exact List.Perm.refl _⟩
  | cons x l ih =>
    intro o ho
    have h := ih (ins x o) (ins_pairwise x o ho)
    refine ⟨h.1, h.2.trans ?_⟩
    exact ((ins_perm x o).append_right l).trans List.perm_middle.symm
theorem huSort_ev (l : List Int) (hl : l.length ≤ 1000000) : Ev (fun k => spec_huSort.f k l) (down l) := by
  unfold spec_huSort.f
  have h := huSort_upto l hl l.length 0 [] (by omega) rfl
  have h2 := foldl_ins l [] List.Pairwise.nil
  rw [List.drop_zero, down_unique h2.2 h2.1] at h
  exact h
end Go.Proofs.Ytgpoljimomfbbaa.P

-- UhuJump
namespace Go.Proofs.Ytgpoljimomfbbaa.P
set_option linter.unusedVariables false
set_option linter.unusedSimpArgs false
open Go.RowKit Go.Proofs.YtgpoljimomfbbaaW.PrintWords Go.Proofs.YtgpoljimomfbbaaW.PrintLast Go.Proofs.YtgpoljimomfbbaaW.PrintMore

theorem clone_is (l : List Int) (h : l.length < 17592186044416) : slices_Clone_int_int.f l = some l := by
  unfold slices_Clone_int_int.f
  rw [if_pos h]
theorem sqs_perm {l m : List Int} (h : l.Perm m) : sqs l = sqs m := by
  induction h with
  | nil => rfl
  | cons x _ ih => simp only [sqs, ih]
  | swap x y l => simp only [sqs]; omega
  | trans _ _ h1 h2 => exact h1.trans h2
theorem prd_perm {l m : List Int} (h : l.Perm m) : prd l = prd m := by
  induction h with
  | nil => rfl
  | cons x _ ih => simp only [prd, ih]
  | swap x y l => simp only [prd]; grind
  | trans _ _ h1 h2 => exact h1.trans h2
theorem fallsFrom_iff (p : Int) (l : List Int) : fallsFrom p l = true ↔ (p :: l).Pairwise (· ≥ ·) := by
  induction l generalizing p with
  | nil => simp [fallsFrom]
  | cons x l ih =>
    rw [fallsFrom, Bool.and_eq_true, ih, List.pairwise_cons (a := p) (l := x :: l), decide_eq_true_eq]
    constructor
    · rintro ⟨h1, h2⟩
      refine ⟨fun y hy => ?_, h2⟩
      rcases List.mem_cons.1 hy with rfl | hy
      · exact h1
      · have := (List.pairwise_cons.1 h2).1 y hy
        omega
    · rintro ⟨h1, h2⟩
      exact ⟨h1 x List.mem_cons_self, h2⟩
theorem falls_iff (l : List Int) : falls l = true ↔ l.Pairwise (· ≥ ·) := by
  cases l with
  | nil => simp [falls]
  | cons x l => exact fallsFrom_iff x l
theorem rd_set (l : List Int) (i : Nat) (y : Int) (hi : i < l.length) : rd (l.set i y) (i : Int) = y := by rw [rd_lt _ _ (by rw [List.length_set]; exact hi), List.getElem_set_self]
theorem erase_set (l : List Int) (i : Nat) (y : Int) : (l.set i y).eraseIdx i = l.eraseIdx i := by
  induction l generalizing i with
  | nil => rfl
  | cons x l ih =>
    cases i with
    | zero => rfl
    | succ i => rw [List.set_cons_succ, List.eraseIdx_cons_succ, List.eraseIdx_cons_succ, ih]

/-- Behind the jump at i. -/
def jmp (l : List Int) (a : Int) (i : Nat) : List Int := down (l.set i (oth l a i))
def jumpOf (l : List Int) (a : Int) (i : Nat) : List Int × Bool := if inB 1 100000 (oth l a i) then (jmp l a i, true) else ([], false)
theorem jmp_length (l : List Int) (a : Int) (i : Nat) : (jmp l a i).length = l.length := by rw [jmp, down_length, List.length_set]
/-- The sum of squares and the product behind a jump: Vieta. -/
theorem vieta {l : List Int} {a b : Int} {i : Nat} (hi : i < l.length) (h : sqs l = a * prd l + b) : sqs (jmp l a i) = a * prd (jmp l a i) + b := by
  rw [jmp, sqs_perm (down_perm _), prd_perm (down_perm _)]
  have hi2 : i < (l.set i (oth l a i)).length := by rw [List.length_set]; exact hi
  rw [sqs_mem _ i hi2, prd_erase _ i hi2, rd_set l i _ hi, erase_set]
  rw [sqs_mem l i hi, prd_erase l i hi] at h
  unfold oth
  grind
theorem jmp_is {l : List Int} {a b : Int} {i : Nat} (hi : i < l.length) (h : huIs l a b = true) (ho : inB 1 100000 (oth l a i) = true) : huIs (jmp l a i) a b = true := by
  obtain ⟨h1, h2, h3, h4⟩ := huIs_iff.1 h
  refine huIs_iff.2 ⟨by rw [jmp_length]; exact h1, fun x hx => ?_, (falls_iff _).2 (down_pairwise _), vieta hi h4⟩
  have hx2 := (down_perm _).mem_iff.1 hx
  rcases List.mem_or_eq_of_mem_set hx2 with hm | rfl
  · exact h2 x hm
  · exact inB_iff.1 ho
theorem jump_both {l : List Int} {a b : Int} (hg : huGv a b = true) (h : huIs l a b = true) (i : Nat) (hi : i < l.length) : Ev (fun k => impl_jump.f k l a (i : Int)) (jumpOf l a i) ∧ Ev (fun k => spec_huJump.f k l a (i : Int)) (jumpOf l a i) := by
  obtain ⟨e1, e2⟩ := other_both hg h i hi
  obtain ⟨h1, h2, h3, h4⟩ := huIs_iff.1 h
  have c1 : (0 : Int) ≤ (i : Int) := by omega
  have c2 : (i : Int) < (l.length : Int) := by omega
  unfold impl_jump.f spec_huJump.f jumpOf
  constructor
  · refine Ev.bind e1 ?_
    rw [within_inB]
    refine Ev.bind0 rfl ?_
    cases ho : inB 1 100000 (oth l a i) with
    | false =>
      simp only [Bool.false_eq_true, if_false]
      exact Ev.is rfl
    | true =>
      simp only [if_true]
      refine Ev.bind0 (clone_is l (by omega)) ?_
      simp only [c1, c2, if_true, Int.toNat_natCast]
      refine Ev.bind0 (sort_is _ (by rw [List.length_set]; omega)) ?_
      refine Ev.bind (reverse_ev _ (by rw [up_length, List.length_set]; omega)) (Ev.is rfl)
  · refine Ev.bind e2 ?_
    rw [l1In_inB]
    refine Ev.bind0 rfl ?_
    cases ho : inB 1 100000 (oth l a i) with
    | false =>
      simp only [Bool.false_eq_true, if_false]
      exact Ev.is rfl
    | true =>
      simp only [if_true]
      refine Ev.bind0 (own_is l (by omega)) ?_
      simp only [c1, c2, if_true, Int.toNat_natCast]
      exact Ev.bind (huSort_ev _ (by rw [List.length_set]; omega)) (Ev.is rfl)
end Go.Proofs.Ytgpoljimomfbbaa.P

-- UdrawHu
namespace Go.Proofs.Ytgpoljimomfbbaa.P
set_option linter.unusedVariables false
set_option linter.unusedSimpArgs false
open Go.RowKit Go.Proofs.YtgpoljimomfbbaaW.PrintWords Go.Proofs.YtgpoljimomfbbaaW.PrintLast Go.Proofs.YtgpoljimomfbbaaW.PrintMore

theorem given_ok (code : List Int) (hc : Bytes code) (at_ seed : Int) (h0 : 0 ≤ at_) (h1 : at_ ≤ 900000000) : ∃ a b at' seed', spec_l1Cur_given.f code at_ seed = some (a, b, at', seed') ∧ at_ ≤ at' ∧ at' ≤ at_ + 8 := by
  unfold spec_l1Cur_given.f
  obtain ⟨v1, a1, s1, e1, _, _, _, _⟩ := pick_ok code hc at_ seed 4 h0 (by omega) (by decide)
  rw [e1]
  simp only [Option.bind_some]
  obtain ⟨v2, a2, s2, e2, _, _, _⟩ := among_ok code hc a1 s1 [0, 0, 0, 1, 2, (-1), 5, (-3)] (by omega) (by omega) (by decide) (by decide)
  rw [e2]
  simp only [Option.bind_some]
  obtain ⟨v3, a3, s3, e3, _, _, _, _⟩ := pick_ok code hc a2 s2 14 (by omega) (by omega) (by decide)
  rw [e3]
  simp only [Option.bind_some]
  by_cases c1 : v3 = 0
  · obtain ⟨v4, a4, s4, e4, _, _, _⟩ := among_ok code hc a3 s3 [(-1), 0, 20, 21] (by omega) (by omega) (by decide) (by decide)
    rw [if_pos c1, e4]
    exact ⟨_, _, a4, _, rfl, by omega, by omega⟩
  · by_cases c2 : v3 = 1
    · obtain ⟨v4, a4, s4, e4, _, _, _⟩ := among_ok code hc a3 s3 [(-51), (-50), 50, 51] (by omega) (by omega) (by decide) (by decide)
      rw [if_neg c1, if_pos c2, e4]
      exact ⟨_, _, a4, _, rfl, by omega, by omega⟩
    · rw [if_neg c1, if_neg c2]
      exact ⟨_, _, a3, _, rfl, by omega, by omega⟩
end Go.Proofs.Ytgpoljimomfbbaa.P

-- PFimplJumpAt
namespace Go.Proofs.Ytgpoljimomfbbaa.P
open Go.RowKit Go.Proofs.YtgpoljimomfbbaaW.PrintWords Go.Proofs.YtgpoljimomfbbaaW.PrintLast
set_option linter.unusedVariables false
set_option linter.unusedSimpArgs false

/-! ### impl_JumpAt: function 45 -/
end Go.Proofs.Ytgpoljimomfbbaa.P

-- UhuJumpAt
namespace Go.Proofs.Ytgpoljimomfbbaa.P
set_option linter.unusedVariables false
set_option linter.unusedSimpArgs false
open Go.RowKit Go.Proofs.YtgpoljimomfbbaaW.PrintWords Go.Proofs.YtgpoljimomfbbaaW.PrintLast Go.Proofs.YtgpoljimomfbbaaW.PrintMore
end Go.Proofs.Ytgpoljimomfbbaa.P

-- UhuBack
namespace Go.Proofs.Ytgpoljimomfbbaa.P
set_option linter.unusedVariables false
set_option linter.unusedSimpArgs false
open Go.RowKit Go.Proofs.YtgpoljimomfbbaaW.PrintWords Go.Proofs.YtgpoljimomfbbaaW.PrintLast Go.Proofs.YtgpoljimomfbbaaW.PrintMore

theorem vSame_upto (l : List Int) (hn : l.length ≤ 1000000) (d : Nat) : ∀ (i : Nat), i + d = l.length → Ev (fun k => laws_vSame.l0 k l l (l.length : Int) (i : Int)) true := by
  induction d with
  | zero =>
    intro i hid
    exact Ev.step (f := fun _ => some true) (fun k => by simp only [laws_vSame.l0]; rw [if_neg (by omega)]) (Ev.is rfl)
  | succ d ih =>
    intro i hid
    refine Ev.step (f := fun k => laws_vSame.l0 k l l (l.length : Int) ((i + 1 : Nat) : Int)) (fun k => ?_) (ih (i + 1) (by omega))
    simp only [laws_vSame.l0]
    rw [if_pos (by omega), if_pos (by omega), if_pos (by omega), if_pos (by omega), if_pos trivial, w64_succ (n := l.length) (by omega) (by omega)]
theorem vSame_ev (l : List Int) (hn : l.length ≤ 1000000) : Ev (fun k => laws_vSame.f k l l) true := by
  unfold laws_vSame.f
  simp only [if_true]
  exact vSame_upto l hn l.length 0 (by omega)

end Go.Proofs.Ytgpoljimomfbbaa.P

-- UhuLaw
namespace Go.Proofs.Ytgpoljimomfbbaa.P
set_option linter.unusedVariables false
set_option linter.unusedSimpArgs false
open Go.RowKit Go.Proofs.YtgpoljimomfbbaaW.PrintWords Go.Proofs.YtgpoljimomfbbaaW.PrintLast Go.Proofs.YtgpoljimomfbbaaW.PrintMore
theorem vSameLists_from (W : List (List Int)) (hn : W.length ≤ 1000000000) (hs : ∀ x ∈ W, x.length ≤ 1000000) (d : Nat) : ∀ i : Nat, i + d = W.length → Ev (fun k => laws_vSameLists.l0 k W W (W.length : Int) (i : Int)) true := by
  induction d with
  | zero =>
    intro i hi
    exact Ev.step (f := fun _ => some true) (fun k => by simp only [laws_vSameLists.l0]; rw [if_neg (by omega)]) (Ev.is rfl)
  | succ d ih =>
    intro i hi
    have hil : i < W.length := by omega
    have hr : rd_L1 W (i : Int) = W[i] := by
      unfold rd_L1
      rw [Int.toNat_natCast, List.getD_eq_getElem?_getD, List.getElem?_eq_getElem hil]
      rfl
    have hv := vSame_ev W[i] (hs _ (List.getElem_mem hil))
    refine Ev.step (f := fun k => (laws_vSame.f k W[i] W[i]).bind fun t => if t = true then laws_vSameLists.l0 k W W (W.length : Int) ((i + 1 : Nat) : Int) else some false) (fun k => ?_) (Ev.bind hv ?_)
    · simp only [laws_vSameLists.l0]
      rw [if_pos (by omega), if_pos (by omega), if_pos (by omega), if_pos (by omega), hr, w64_succ (n := W.length) (by omega) (by omega)]
    · simp only [if_true]
      exact ih (i + 1) (by omega)
theorem vSameLists_ev (W : List (List Int)) (hn : W.length ≤ 1000000000) (hs : ∀ x ∈ W, x.length ≤ 1000000) : Ev (fun k => laws_vSameLists.f k W W) true := by
  unfold laws_vSameLists.f
  simp only [if_true]
  exact vSameLists_from W hn hs W.length 0 (by omega)
end Go.Proofs.Ytgpoljimomfbbaa.P

-- UhuWay
namespace Go.Proofs.Ytgpoljimomfbbaa.P
set_option linter.unusedVariables false
set_option linter.unusedSimpArgs false
open Go.RowKit Go.Proofs.YtgpoljimomfbbaaW.PrintWords Go.Proofs.YtgpoljimomfbbaaW.PrintLast Go.Proofs.YtgpoljimomfbbaaW.PrintMore

/-- The sum. -/
def smm : List Int → Int
  | [] => 0
  | x :: l => x + smm l
theorem smm_perm {l m : List Int} (h : l.Perm m) : smm l = smm m := by
  induction h with
  | nil => rfl
  | cons x _ ih => simp only [smm, ih]
  | swap x y l => simp only [smm]; omega
  | trans _ _ h1 h2 => exact h1.trans h2
theorem smm_set (l : List Int) (y : Int) (h : 0 < l.length) : smm (l.set 0 y) = smm l - rd l 0 + y := by
  cases l with
  | nil => simp at h
  | cons x l => simp only [List.set_cons_zero, smm, rd]; simp; omega
theorem smm_bd {l : List Int} (h : ∀ x ∈ l, 1 ≤ x ∧ x ≤ 100000) : (l.length : Int) ≤ smm l ∧ smm l ≤ 100000 * (l.length : Int) := by
  induction l with
  | nil => simp [smm]
  | cons x l ih =>
    have h1 := h x (List.mem_cons_self)
    have h2 := ih (fun y hy => h y (List.mem_cons_of_mem _ hy))
    simp only [smm, List.length_cons]
    omega
def way (a : Int) : Nat → List Int → List (List Int)
  | 0, l => [l]
  | d + 1, l => if lastOf l a = true then [l] else l :: way a d (jmp l a 0)
/-- A step down. -/
theorem step_down {l : List Int} {a b : Int} (hg : huGv a b = true) (h : huIs l a b = true) (hl : lastOf l a = false) : inB 1 100000 (oth l a 0) = true ∧ smm (jmp l a 0) < smm l ∧ huIs (jmp l a 0) a b = true := by
  obtain ⟨h1, h2, h3, h4⟩ := huIs_iff.1 h
  have hr := h2 _ (rd_mem (l := l) (i := 0) (by omega))
  have hr0 : rd l ((0 : Nat) : Int) = rd l 0 := rfl
  unfold lastOf at hl
  have ho : inB 1 (rd l 0 - 1) (oth l a 0) = true := by simpa using hl
  have ho2 := inB_iff.1 ho
  have ho3 : inB 1 100000 (oth l a 0) = true := inB_iff.2 (by omega)
  refine ⟨ho3, ?_, jmp_is (by omega) h ho3⟩
  rw [jmp, smm_perm (down_perm _), smm_set l _ (by omega)]
  omega
theorem jumpOf_zero {l : List Int} {a : Int} (h : inB 1 100000 (oth l a 0) = true) : jumpOf l a 0 = (jmp l a 0, true) := by
  unfold jumpOf
  rw [if_pos h]
theorem way_both {a b : Int} (hg : huGv a b = true) (d : Nat) : ∀ (l : List Int) (o : List (List Int)), huIs l a b = true → smm l ≤ d → o.length + d ≤ 900000000 →
    Ev (fun k => spec_huDown.l0 k l a (o ++ [l])) (o ++ way a d l) ∧ Ev (fun k => impl_WayDown.l0 k l a (o ++ [l])) (o ++ way a d l, true) := by
  induction d with
  | zero =>
    intro l o h hs ho
    obtain ⟨h1, h2, h3, h4⟩ := huIs_iff.1 h
    have := smm_bd h2
    omega
  | succ d ih =>
    intro l o h hs ho
    obtain ⟨e1, e2⟩ := last_both hg h
    rw [way]
    cases hl : lastOf l a with
    | true =>
      rw [hl] at e1 e2
      simp only [if_true]
      constructor
      · refine Ev.step (fun k => by simp only [spec_huDown.l0]; rfl) (Ev.bind e2 ?_)
        simp only [if_true]
        exact Ev.is rfl
      · refine Ev.step (fun k => by simp only [impl_WayDown.l0]; rfl) (Ev.bind e1 ?_)
        simp only [if_true]
        exact Ev.is rfl
    | false =>
      rw [hl] at e1 e2
      obtain ⟨s1, s2, s3⟩ := step_down hg h hl
      have hn := (huIs_iff.1 h).1
      obtain ⟨j1, j2⟩ := jump_both hg h 0 (by omega)
      rw [jumpOf_zero s1] at j1 j2
      obtain ⟨r1, r2⟩ := ih (jmp l a 0) (o ++ [l]) s3 (by omega) (by rw [List.length_append, List.length_singleton]; omega)
      have hlen : (o ++ [l]).length < 1000000000 := by rw [List.length_append, List.length_singleton]; omega
      have happ : o ++ l :: way a d (jmp l a 0) = (o ++ [l]) ++ way a d (jmp l a 0) := by simp
      simp only [Bool.false_eq_true, if_false, happ]
      constructor
      · refine Ev.step (fun k => by simp only [spec_huDown.l0]; rfl) (Ev.bind e2 ?_)
        simp only [Bool.false_eq_true, if_false]
        refine Ev.bind j2 ?_
        simp only [hlen, if_true]
        exact r1
      · refine Ev.step (fun k => by simp only [impl_WayDown.l0]; rfl) (Ev.bind e1 ?_)
        simp only [Bool.false_eq_true, if_false]
        refine Ev.bind j1 (Ev.bind0 (clone_is _ ?_) ?_)
        · have := (huIs_iff.1 s3).1
          show (jmp l a 0).length < _
          omega
        · simp only [hlen, if_true]
          exact r2
/-- The whole way. -/
def wayOf (l : List Int) (a : Int) : List (List Int) := way a 400000 l
def wayAll (l : List Int) (a b : Int) : List (List Int) × Bool := if huSol l a b then (wayOf l a, true) else ([], false)
theorem WayDown_ev (l : List Int) (a b : Int) : Ev (fun k => impl_WayDown.f k l a b) (wayAll l a b) := by
  unfold impl_WayDown.f wayAll
  refine Ev.bind (isSolution_ev l a b) ?_
  cases hs : huSol l a b with
  | false =>
    simp only [Bool.false_eq_true, if_false]
    exact Ev.is rfl
  | true =>
    obtain ⟨hg, h⟩ := huSol_iff.1 hs
    obtain ⟨h1, h2, h3, h4⟩ := huIs_iff.1 h
    have hs := smm_bd h2
    simp only [if_true]
    refine Ev.bind0 (clone_is l (by omega)) ?_
    exact (way_both hg 400000 l [] h (by omega) (by simp)).2
theorem way_length (a : Int) (d : Nat) : ∀ l, 1 ≤ (way a d l).length ∧ (way a d l).length ≤ d + 1 := by
  induction d with
  | zero => intro l; simp [way]
  | succ d ih =>
    intro l
    rw [way]
    have := ih (jmp l a 0)
    split
    · simp
    · simp only [List.length_cons]; omega
end Go.Proofs.Ytgpoljimomfbbaa.P

-- PFspecWayDown
namespace Go.Proofs.Ytgpoljimomfbbaa.P
open Go.RowKit Go.Proofs.YtgpoljimomfbbaaW.PrintWords Go.Proofs.YtgpoljimomfbbaaW.PrintLast
set_option linter.unusedVariables false
set_option linter.unusedSimpArgs false

/-! ### spec_WayDown: function 35 -/
end Go.Proofs.Ytgpoljimomfbbaa.P

-- UhuFund
namespace Go.Proofs.Ytgpoljimomfbbaa.P
set_option linter.unusedVariables false
set_option linter.unusedSimpArgs false
open Go.RowKit Go.Proofs.YtgpoljimomfbbaaW.PrintWords Go.Proofs.YtgpoljimomfbbaaW.PrintLast Go.Proofs.YtgpoljimomfbbaaW.PrintMore
def fundOf (l : List Int) (a b : Int) : List Int × Bool := if huSol l a b then (rd_L1 (wayOf l a) (((wayOf l a).length : Int) - 1), true) else ([], false)
theorem FundamentalOf_ev (l : List Int) (a b : Int) : Ev (fun k => impl_FundamentalOf.f k l a b) (fundOf l a b) := by
  have hl := way_length a 400000 l
  have hl2 : (wayOf l a).length = (way a 400000 l).length := rfl
  have hw : wrap64 (((wayOf l a).length : Int) - 1) = ((wayOf l a).length : Int) - 1 := w64 (by omega) (by omega)
  have c1 : 0 ≤ ((wayOf l a).length : Int) - 1 := by omega
  have c2 : ((wayOf l a).length : Int) - 1 < ((wayOf l a).length : Int) := by omega
  unfold impl_FundamentalOf.f fundOf
  refine Ev.bind (WayDown_ev l a b) ?_
  unfold wayAll
  cases hs : huSol l a b with
  | false =>
    simp only [Bool.false_eq_true, if_false]
    exact Ev.is rfl
  | true =>
    simp only [if_true, hw, c1, c2]
    exact Ev.is rfl
end Go.Proofs.Ytgpoljimomfbbaa.P

-- PFimplClimbHurwitz
namespace Go.Proofs.Ytgpoljimomfbbaa.P
open Go.RowKit Go.Proofs.YtgpoljimomfbbaaW.PrintWords Go.Proofs.YtgpoljimomfbbaaW.PrintLast
set_option linter.unusedVariables false
set_option linter.unusedSimpArgs false

/-! ### impl_ClimbHurwitz: function 41 -/
end Go.Proofs.Ytgpoljimomfbbaa.P

-- UhuClimb
namespace Go.Proofs.Ytgpoljimomfbbaa.P
set_option linter.unusedVariables false
set_option linter.unusedSimpArgs false
open Go.RowKit Go.Proofs.YtgpoljimomfbbaaW.PrintWords Go.Proofs.YtgpoljimomfbbaaW.PrintLast Go.Proofs.YtgpoljimomfbbaaW.PrintMore
end Go.Proofs.Ytgpoljimomfbbaa.P
