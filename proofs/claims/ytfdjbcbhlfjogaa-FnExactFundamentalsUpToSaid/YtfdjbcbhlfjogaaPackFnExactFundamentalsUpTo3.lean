/- FundamentalsUpTo answers what the reference answers, for all numbers; what it hands back is its own. No condition. -/
import Derived.Test.YtfdjbcbhlfjogaaPackFnExactFundamentalsUpTo2
import Derived.Sort.Grow
import Derived.Test.YtfdjbcbhlfjogaaLib
import Derived.Deep.RegionHeld3
-- Uscalar
namespace Go.Proofs.Ytfdjbcbhlfjogaa.P
set_option linter.unusedVariables false
set_option linter.unusedSimpArgs false
open Go.RowKit Go.Proofs.YtfdjbcbhlfjogaaW.PrintWords Go.Proofs.YtfdjbcbhlfjogaaW.PrintLast

theorem scalar_reps {α : Type} {enc : α → Value} {R : α → List Value → Prop} (hR : ∀ x c, R x c ↔ c = [enc x]) (xs : List α) (cs : List Value) : Reps R 1 xs cs ↔ cs = xs.map enc := by
  constructor
  · rintro ⟨h1, h2⟩
    apply List.ext_getElem
    · simp [h1]
    · intro i hi1 hi2
      have hx : i < xs.length := by simpa using hi2
      have h3 := (hR _ _).1 (h2 i xs[i] (List.getElem?_eq_getElem hx))
      rw [Nat.mul_one] at h3
      have h4 : (cs.drop i).take 1 = [cs[i]] := by rw [List.drop_eq_getElem_cons hi1]; rfl
      rw [h4] at h3
      simpa using h3
  · rintro rfl
    refine ⟨by simp, fun j p hp => (hR _ _).2 ?_⟩
    obtain ⟨hj, rfl⟩ := List.getElem?_eq_some_iff.1 hp
    rw [Nat.mul_one, List.drop_eq_getElem_cons (by simpa using hj)]
    simp
theorem scalar_R {α : Type} {enc : α → Value} {h1 : ∀ x, (enc x).oneCell' = true} {e : Nat} {w : World} {base : Nat} {ok : Nat → Prop} {v : Value} {xs : List α} :
    (Kd.scalar enc h1).R e w base ok v xs ↔ (∀ k, v.ownBlock = some k → ok k) ∧ w.ownsRow base e 1 v xs.length (xs.map enc) := by
  constructor
  · rintro ⟨h2, inner, h3, h4⟩
    exact ⟨h2, by rw [← (scalar_reps (enc := enc) (fun x c => Iff.rfl) xs inner).1 h4]; exact h3⟩
  · rintro ⟨h2, h3⟩
    exact ⟨h2, _, h3, (scalar_reps (enc := enc) (fun x c => Iff.rfl) xs _).2 rfl⟩
end Go.Proofs.Ytfdjbcbhlfjogaa.P

-- GcloneInts
namespace Go.Proofs.Ytfdjbcbhlfjogaa.P
open Go.RowKit Go.Proofs.YtfdjbcbhlfjogaaW.PrintWords Go.Proofs.YtfdjbcbhlfjogaaW.PrintLast
set_option linter.unusedVariables false
set_option linter.unusedSimpArgs false

def slices_Clone_int_int.f (l0 : List Int) : Option (List Int) := if l0.length < 17592186044416 then some l0 else none
theorem slices_Clone_int_int.calls (A0 : Option Addr) (c0 : Nat) (l0 : List Int) (r : List Int) (w : World) (hr0 : Kd.C (Kd.int .i64) w A0 l0.length l0) (hc0 : l0.length ≤ c0) (h : slices_Clone_int_int.f l0 = some r) :
  Calls Try.prog 72 #[.slice A0 l0.length c0] w fun e w' => ∃ v0_ : Value, e = .returned (v0_) ∧ Kd.R (Kd.int .i64) 3 w' w.heap.size (fun _ => True) v0_ r ∧ Below w.heap.size w w' := by
  have hr : l0 = r ∧ l0.length < 17592186044416 := by
    unfold slices_Clone_int_int.f at h
    split at h
    · exact ⟨by simpa using h, by assumption⟩
    · simp at h
  obtain ⟨rfl, hlen⟩ := hr
  cases A0 with
  | none =>
    have h0 : l0 = [] := by
      rcases Nat.eq_zero_or_pos l0.length with h1 | h1
      · exact List.eq_nil_of_length_eq_zero h1
      · obtain ⟨ad, h2, _⟩ := hr0.2.2 h1
        simp at h2
    subst h0
    refine (Go.Proofs.Try.slices_Clone_int_nil 0 c0 w).mono ?_
    rintro e w' ⟨rfl, rfl⟩
    exact ⟨_, rfl, Kd.R_nil _ _ _ _ _, Below.refl _ _⟩
  | some a =>
    by_cases h0 : l0.length = 0
    · have h1 : l0 = [] := List.eq_nil_of_length_eq_zero h0
      subst h1
      refine (Go.Proofs.Try.slices_Clone_int_zero a c0 w).mono ?_
      rintro e w' ⟨v', rfl, hown, _, hb⟩
      exact ⟨v', rfl, scalar_R.2 ⟨fun _ _ => trivial, hown⟩, hb⟩
    · obtain ⟨ad, he, hc⟩ := hr0.2.2 (by omega)
      injection he with he
      subst he
      have hcell : ∀ j, j < l0.length → w.cell? (a.add j) = some (.int .i64 (l0.getD j 0)) := fun j hj => by
        obtain ⟨c, hcl, hp, hcell⟩ := hc j l0[j] (List.getElem?_eq_getElem hj)
        have hc1 : c = [Value.int .i64 l0[j]] := hp
        subst hc1
        have h2 := hcell 0 _ rfl
        rw [Nat.add_zero, show j * (Kd.int .i64).sz = j from Nat.mul_one j] at h2
        rw [h2]
        simp [List.getD_eq_getElem?_getD, hj]
      obtain ⟨b, off, spot⟩ := a
      have hspot : spot = none := by
        have h2 := hcell 0 (by omega)
        cases spot with
        | none => rfl
        | some k =>
          simp only [Addr.add, if_true, World.cell?] at h2
          split at h2 <;> simp at h2
      subst hspot
      refine (Go.Proofs.Try.slices_Clone_int b off l0.length c0 l0 w (Nat.le_refl _) (by omega) (fun j hj => ?_)).mono ?_
      · rw [← hcell j hj]
        congr 1
        by_cases h1 : j = 0
        · subst h1
          simp [Addr.add]
        · simp [Addr.add, h1]
      · rintro e w' ⟨v', rfl, hown, _, hb⟩
        exact ⟨v', rfl, scalar_R.2 ⟨fun _ _ => trivial, by rw [List.take_length] at hown; exact hown⟩, hb⟩
end Go.Proofs.Ytfdjbcbhlfjogaa.P

-- Gsolutions
namespace Go.Proofs.Ytfdjbcbhlfjogaa.P
open Go Go.RowKit Go.Proofs.YtfdjbcbhlfjogaaW.PrintWords Go.Proofs.YtfdjbcbhlfjogaaW.PrintLast
set_option linter.unusedVariables false
set_option linter.unusedSimpArgs false

set_option maxHeartbeats 4000000 in
set_option maxRecDepth 100000 in
theorem falling_sol {σ : Type} (I : σ → World → (Nat → Prop) → Prop) (step : σ → List Int → Option σ) (B1 B2 B3 : Nat) (V : Vis 79 #[.pointer (some ⟨B1, 0, none⟩), .pointer (some ⟨B2, 0, none⟩), .pointer (some ⟨B3, 0, none⟩)] I step) (p : Nat) : ∀ (q : Int) (x : List Int) (m : Int) (s s' : σ) (W : World) (v : Value) (ok : Nat → Prop), q = p → x.length + p ≤ 1000 → p ≤ 1000 → m ≤ 1000000 → I s W ok → Lst W v x → (∀ k, v.ownBlock = some k → ¬ ok k) → fallS step p x m s = some s' →
    Calls Try.prog 64 #[v, .int .i64 q, .int .i64 m, .func (.func 79) #[] #[.pointer (some ⟨B1, 0, none⟩), .pointer (some ⟨B2, 0, none⟩), .pointer (some ⟨B3, 0, none⟩)]] W fun e w' => e = .returned (.tuple #[]) ∧ I s' w' (fun k => ok k ∨ W.heap.size ≤ k) ∧ Fr W w' (fun k => ok k ∨ v.ownBlock = some k) ∧ Lst w' v x := by
  induction p with
  | zero =>
    intro q x m s s' W v ok hq hx hp hm hI hL hv hf
    have HV := Aside0.mk V
    have HI := Aside0.mk hI
    have HF := Aside0.mk (show step s x = some s' from hf)
    have HX := Aside0.mk hx
    have HN := Aside0.mk hv
    have HL := Aside0.mk hL
    obtain ⟨A, c, rfl, hc⟩ := hL.slice
    have HC := Aside0.mk hc
    have HK := Aside0.mk (Kd.R_reads' hL.R).2.2
    have c0b0 : (q == 0) = true := beq_iff_eq.mpr (by omega)
    have c0b1 : decide (q = 0) = true := decide_eq_true (by omega)
    clear hI hf hx hp hv hL hc hq hm V
    go_enter Try.func64, Try.ntmps64
    go_wp2_with (go_at_call 79; refine (HV.out.visit s s' _ A c x ok HI.out HF.out HK.out HC.out (by have := HX.out; omega)).mono ?_; rintro e w' ⟨rfl, hi1, hf1⟩; have HI1 := Aside0.mk hi1; have HF1 := Aside0.mk hf1; clear hi1 hf1)
    (try simp only [Exit.inBlock, Exit.then])
    refine bodyPost_ret (results_none rfl _ _ _) rfl ?_
    exact ⟨rfl, HI1.out, ⟨HF1.out.os, HF1.out.tape, HF1.out.output, HF1.out.size, fun k hk hn => HF1.out.block k hk (fun h_ => hn (.inl h_))⟩, HL.out.move (fun k hk => HF1.out.block k (HL.out.lt k hk) (HN.out k hk))⟩
  | succ p ih =>
    intro q x m s s' W v ok hq hx hp hm hI hL hv hf
    have HIH := Aside0.mk ih
    have HV := Aside0.mk V
    have HF := Aside0.mk (show fallL (fun s n => fallS step p (x ++ [n]) n s) m.toNat 1 s = some s' from hf)
    have HX := Aside0.mk hx
    have HP := Aside0.mk hp
    have HM := Aside0.mk hm
    have HN := Aside0.mk hv
    have HQ := Aside0.mk hq
    have HL0 := Aside0.mk hL
    have HI0 := Aside0.mk hI
    have c0b0 : (q == 0) = false := beq_eq_false_iff_ne.mpr (by omega)
    have c0b1 : decide (q = 0) = false := decide_eq_false (by omega)
    have HWQ : Aside0 (wrap64 (q - 1) = (p : Int)) := ⟨by unfold wrap64; omega⟩
    clear ih V hf hx hp hm hv hq hL hI
    go_enter Try.func64, Try.ntmps64
    go_wp2
    go_loopg [8] m.toNat (fun kj v8 wr => ∃ (s1 : σ) (n : Int) (j : Nat), v8 = .int .i64 n ∧ Aside0 (1 ≤ n ∧ n ≤ 1000001) ∧ Aside0 ((n + j = m + 1) ∨ (j = 0 ∧ m < n)) ∧ Aside0 (j ≤ kj) ∧ Aside0 (fallL (fun s n => fallS step p (x ++ [n]) n s) j n s1 = some s') ∧ Aside0 (I s1 wr (fun k => ok k ∨ W.heap.size ≤ k)) ∧ Aside0 (Fr W wr (fun k => ok k ∨ v.ownBlock = some k)) ∧ Aside0 (Lst wr v x))
    case atStart => exact ⟨s, 1, m.toNat, rfl, ⟨by omega⟩, ⟨by have := HM.out; omega⟩, ⟨Nat.le_refl _⟩, HF, ⟨HV.out.mono _ _ _ _ HI0.out (fun k hk => .inl hk)⟩, ⟨Fr.refl _ _⟩, HL0⟩
    case round =>
      clear HF
      obtain ⟨s1, n, j, rfl, HNN, HJ, HKJ, HF, HI, HFR, HL⟩ := hrel
      cases j with
      | zero =>
        have c1b0 : decide (n ≤ m) = false := decide_eq_false (by have := HJ.out; omega)
        obtain rfl : s1 = s' := Option.some.inj HF.out
        go_wp2
        go_end0
        exact ⟨rfl, HI.out, HFR.out, HL.out⟩
      | succ j =>
        have c1b0 : decide (n ≤ m) = true := decide_eq_true (by have := HJ.out; omega)
        obtain ⟨s2, h1, h2⟩ := Option.bind_eq_some_iff.mp HF.out
        have H1 := Aside0.mk h1
        have H2 := Aside0.mk h2
        clear h1 h2 HF
        go_wp2_with (first
          | ((with_reducible refine gate_builtin (b := .append) (xs := #[.tmp 19, .tmp 21]) rfl ?_); at_builtin; refine wpList_lst_append rfl (.tmp 19) (.tmp 21) 22 rfl Try.underlying22 info3 v x n rfl rfl HL.out (by have := HX.out; omega) ?_; intro v1 w1 ha1 ha2 ha3 ha4; have HA1 := Aside0.mk ha1; have HA2 := Aside0.mk ha2; have HA3 := Aside0.mk ha3; have HA4 := Aside0.mk ha4; clear ha1 ha2 ha3 ha4)
          | (go_at_call 64; refine (HIH.out _ (x ++ [n]) n s1 s2 _ v1 (fun k => (ok k ∨ W.heap.size ≤ k) ∧ k < wr.heap.size) HWQ.out (by have := HX.out; simp; omega) (by have := HP.out; omega) (by have := HNN.out; have := HJ.out; have := HM.out; omega) (HV.out.move _ _ _ _ (HV.out.bound _ _ _ HI.out) (fun k hk hlt => HA2.out.block k hlt (fun e0_ => by have e_ := e0_.1; have h3_ := HN.out k e_; have h4_ := HL0.out.lt k e_; rcases hk.1 with h5_ | h5_; exact h3_ h5_; omega)) HA2.out.size) HA1.out (fun k hk => by rintro ⟨h5_, h6_⟩; rcases HA3.out k hk with h3_ | h3_; (have h4_ := HL0.out.lt k h3_; have h7_ := HN.out k h3_; rcases h5_ with h5_ | h5_; exact h7_ h5_; omega); omega) H1.out).mono ?_; rintro e w2 ⟨rfl, hb1, hb2, hb3⟩; have HB1 := Aside0.mk hb1; have HB2 := Aside0.mk hb2; have HB3 := Aside0.mk hb3; clear hb1 hb2 hb3))
        go_roundg j
        case measure => have := HKJ.out; omega
        case rel =>
          have hw : Aside0 (wrap64 (n + 1) = n + 1) := ⟨by have := HNN.out; unfold wrap64; omega⟩
          have hs1 := HFR.out.size
          have hs2 := HA2.out.size
          refine ⟨s2, wrap64 (n + 1), j, (by first | rfl | (simp; done) | (simp [*]; done)), ⟨by have := HJ.out; have := HM.out; have := HNN.out; rw [hw.out]; omega⟩, ⟨by rw [hw.out]; have := HJ.out; omega⟩, ⟨by have := HKJ.out; omega⟩, ⟨by rw [hw.out]; exact H2.out⟩, ⟨HV.out.mono _ _ _ _ HB1.out (fun k hk => by rcases hk with ⟨h_, _⟩ | h_; exact h_; exact .inr (by omega))⟩, ⟨(HFR.out.trans HA2.out (fun k _ h_ => .inr h_.1)).trans HB2.out (fun k hk h_ => ?_)⟩, ⟨HA4.out w2 HB3.out (fun k hk hne => ?_)⟩⟩
          · rcases h_ with ⟨h5_ | h5_, _⟩ | h_
            · exact .inl h5_
            · omega
            · rcases HA3.out k h_ with h3_ | h3_
              · exact .inr h3_
              · omega
          · have h4_ := HL0.out.lt k hk
            have h7_ := HN.out k hk
            refine (HB2.out.block k (by omega) (fun h_ => ?_)).trans ?_
            · rcases h_ with ⟨h5_ | h5_, _⟩ | h_
              · exact h7_ h5_
              · omega
              · exact hne h_
            · exact HA2.out.block k (by omega) (fun h_ => hne h_.2)

/-- What solutions' visitor holds: the factor, the rest, and the solutions that were found. -/
def IS (B1 B2 B3 base : Nat) (a b : Int) (out : List (List Int)) (W : World) (ok : Nat → Prop) : Prop :=
  ∃ vo, W.cell? ⟨B1, 0, none⟩ = some (.int .i64 a) ∧ W.cell? ⟨B2, 0, none⟩ = some (.int .i64 b) ∧ W.heap[B3]? = some (.cells #[vo] 35 (0, 0)) ∧ ok B1 ∧ ok B2 ∧ ok B3 ∧ Kd.S (Kd.slice 3 (Kd.int .i64)) 22 W base (fun k => ok k ∧ k ≠ B1 ∧ k ≠ B2 ∧ k ≠ B3) vo out
def solStep (k : Nat) (a b : Int) (out : List (List Int)) (x : List Int) : Option (List (List Int)) := (impl_isHurwitz.f k x a b).bind fun t => if t = true then ((slices_Clone_int_int.f x).bind fun y => if out.length < 1000000000 then some (out ++ [y]) else none) else some out
theorem solStep_mono (k : Nat) (a b : Int) : ∀ s x, LeO (solStep k a b s x) (solStep (k + 1) a b s x) := by
  intro s x
  unfold solStep
  repeat' first
    | (with_reducible exact impl_isHurwitz.mono _ _ _ _)
    | (with_reducible exact LeO.refl _)
    | (with_reducible exact LeO.none _)
    | (with_reducible refine LeO.ite ?_ ?_)
    | (with_reducible refine LeO.bind ?_ (fun _ => ?_))
set_option maxHeartbeats 4000000 in
set_option maxRecDepth 100000 in
theorem sol_visit (B1 B2 B3 base : Nat) (k : Nat) (a b : Int) (h13 : B1 ≠ B3) (h23 : B2 ≠ B3) (hb3 : base ≤ B3) (out out' : List (List Int)) (W : World) (A : Option Addr) (c : Nat) (x : List Int) (ok : Nat → Prop) (hI : IS B1 B2 B3 base a b out W ok) (hf : solStep k a b out x = some out') (hK : Kd.C (Kd.int .i64) W A x.length x) (hc : x.length ≤ c) :
    Calls Try.prog 79 (#[.slice A x.length c] ++ #[.pointer (some ⟨B1, 0, none⟩), .pointer (some ⟨B2, 0, none⟩), .pointer (some ⟨B3, 0, none⟩)]) W fun e w' => e = .returned (.tuple #[]) ∧ IS B1 B2 B3 base a b out' w' (fun k => ok k ∨ W.heap.size ≤ k) ∧ Fr W w' ok := by
  show Calls Try.prog 79 #[.slice A x.length c, .pointer (some ⟨B1, 0, none⟩), .pointer (some ⟨B2, 0, none⟩), .pointer (some ⟨B3, 0, none⟩)] W _
  obtain ⟨vo, hI1, hI2, hI3, hI4, hI5, hI6, hI7⟩ := hI
  unfold solStep at hf
  obtain ⟨t, hA, hf⟩ := Option.bind_eq_some_iff.mp hf
  have HA := Aside0.mk hA
  have HK := Aside0.mk hK
  have HC := Aside0.mk hc
  have HS := Aside0.mk hI7
  have H3 := Aside0.mk hI3
  have H456 := Aside0.mk (And.intro hI4 (And.intro hI5 hI6))
  have HI1 := Aside0.mk hI1
  have HI2 := Aside0.mk hI2
  have HNE := Aside0.mk (And.intro h13 (And.intro h23 hb3))
  clear hA hK hc hI7 hI3 hI4 hI5 hI6 h13 h23 hb3
  cases t with
  | false =>
    obtain rfl : out = out' := by simpa using hf
    clear hf
    go_enter Try.func79, Try.ntmps79
    go_wp2_with (go_at_call 53; refine (impl_isHurwitz.calls k A c x a b false _ HK.out HC.out HA.out).mono ?_; rintro e w4 ⟨rfl, hb⟩; have n1_ := Aside0.mk hb; clear hb; have HB := n1_; clear n1_)
    go_end0
    exact ⟨rfl, ⟨vo, pw_cell_below HB.out HI1.out, pw_cell_below HB.out HI2.out, (HB.out.block B3 (Array.getElem?_eq_some_iff.1 H3.out).1).trans H3.out, .inl H456.out.1, .inl H456.out.2.1, .inl H456.out.2.2, Kd.S_mono (Kd.S_below HS.out HB.out) (fun k hk => ⟨.inl hk.1, hk.2⟩)⟩, Fr.of_below HB.out _⟩
  | true =>
    replace hf : ((slices_Clone_int_int.f x).bind fun y => if out.length < 1000000000 then some (out ++ [y]) else none) = some out' := by simpa using hf
    obtain ⟨y, hY, hf⟩ := Option.bind_eq_some_iff.mp hf
    by_cases c5 : out.length < 1000000000
    · obtain rfl : out ++ [y] = out' := by simpa [c5] using hf
      have HY := Aside0.mk hY
      have HL := Aside0.mk c5
      clear hf hY c5
      go_enter Try.func79, Try.ntmps79
      go_wp2_with (go_at_call 53; refine (impl_isHurwitz.calls k A c x a b true _ HK.out HC.out HA.out).mono ?_; rintro e w4 ⟨rfl, hb⟩; have n1_ := Aside0.mk hb; clear hb; have HB := n1_; clear n1_)
      have hcell : w4.cell? ⟨B3, 0, none⟩ = some vo := by
        have h_ := (HB.out.block B3 (Array.getElem?_eq_some_iff.1 H3.out).1).trans H3.out
        simp [World.cell?, h_]
      have hfz : w4.frozen? ⟨B3, 0, none⟩ = false := frozen_of_row w4 B3 0 #[vo] 35 ((HB.out.block B3 (Array.getElem?_eq_some_iff.1 H3.out).1).trans H3.out)
      have HLT : Aside0 (B1 < W.heap.size ∧ B2 < W.heap.size ∧ B3 < W.heap.size) := ⟨⟨World.block_lt_of_cell? _ _ HI1.out, World.block_lt_of_cell? _ _ HI2.out, (Array.getElem?_eq_some_iff.1 H3.out).1⟩⟩
      have HBS : Aside0 (base ≤ W.heap.size) := ⟨by have := HNE.out.2.2; have := HLT.out.2.2; omega⟩
      have HVO : Aside0 (∀ k_, vo.ownBlock = some k_ → k_ < W.heap.size ∧ ok k_ ∧ k_ ≠ B1 ∧ k_ ≠ B2 ∧ k_ ≠ B3) := ⟨fun k_ e_ => ⟨Kd.S_lt HS.out k_ e_, (Kd.S_R HS.out).1 k_ e_⟩⟩
      go_region_law (first
        | (refine goes_ Try.func72 (by kernel_rfl) rfl #[.slice A x.length c] (by rfl) rfl rfl (by (try simp only [List.map_toArray, List.map_cons, List.map_nil]); first | done | rfl) ?_; refine (slices_Clone_int_int.calls A c x y _ ?c1 HC.out HY.out).mono ?_; (case c1 => repeat (first | exact Kd.C_below HK.out HB.out | (with_reducible refine Kd.C_alloc ?_ _) | (with_reducible refine Kd.C_drewN ?_ _) | (with_reducible refine Kd.C_drew ?_))); rintro e w6 ⟨v6, rfl, ho, hb6⟩; refine ⟨_, rfl, ?_⟩; have HB6 := Aside0.mk (below_step (by repeat (first | (with_reducible first | exact HB.out | apply below_alloc | apply pw_below_drewN | apply below_drew1) | exact HB.out)) hb6); have n2_ := Aside0.mk (Kd.R_lower ho (below_size (by repeat (first | (with_reducible first | exact HB.out | apply below_alloc | apply pw_below_drewN | apply below_drew1) | exact HB.out)))); clear ho hb6; have HO6 := n2_; clear n2_; obtain ⟨A6, c6, e6⟩ := Kd.R_slice HO6.out; subst e6; have h3_ := (HB6.out.block B3 HLT.out.2.2).trans H3.out; have hcell6 : w6.cell? ⟨B3, 0, none⟩ = some vo := (by simp [World.cell?, h3_]); have hcell6a : (w6.alloc (.cells #[.slice A6 y.length c6] 22)).cell? ⟨B3, 0, none⟩ = some vo := pw_cell_below (below_alloc (Below.refl _ _) _) hcell6; clear h3_)
        | (refine Kd.S_append_step (Kd.slice 3 (Kd.int .i64)) (w0 := w6) base (by rfl) (.tmp 9) (.tmp 12) 35 22 (.slice none 0 0) 24 rfl Try.underlying35 info22 rfl (by decide) (by omega) vo out y [.slice A6 y.length c6] (fun k_ => (ok k_ ∨ W.heap.size ≤ k_) ∧ k_ ≠ B1 ∧ k_ ≠ B2 ∧ k_ ≠ B3) (fun k_ => some k_ = (Value.slice A6 y.length c6).ownBlock) rfl rfl ?aP ?aK ?aF ?aO ?aB ?aS ?aL ?_; (case aP => exact ⟨_, rfl, Kd.R_lower (Kd.R_tight rfl HO6.out) HBS.out⟩); (case aK => exact fun k_ hk => ⟨⟨.inr (Kd.R_base HO6.out k_ hk.symm), by have := Kd.R_base HO6.out k_ hk.symm; have := HLT.out; omega, by have := Kd.R_base HO6.out k_ hk.symm; have := HLT.out; omega, by have := Kd.R_base HO6.out k_ hk.symm; have := HLT.out; omega⟩, fun e_ => by have := Kd.R_base HO6.out k_ hk.symm; have := (HVO.out k_ e_.symm).1; omega⟩); (case aF => exact fun k_ hk => by have := HB6.out.size; have := HLT.out; exact ⟨.inr (by omega), by omega, by omega, by omega⟩); (case aO => exact Kd.S_mono (Kd.S_below (Kd.S_bound HS.out) HB6.out) (fun k_ hk => ⟨⟨.inl hk.1.1, hk.1.2⟩, fun e_ => by have := Kd.R_base HO6.out k_ e_.symm; have := hk.2.2.1; omega⟩)); (case aB => exact Below.refl _ _); (case aS => exact Nat.le_trans HBS.out HB6.out.size); (case aL => have := HL.out; omega); intro v7 w7 ho hb hg hat; have HO7 := Aside0.mk ho; have HG := Aside0.mk hg; obtain ⟨A7, c7, e7⟩ := Kd.S_slice ho; subst e7; have h3_ := (HG.out.block B3 (by have := HB6.out.size; have := HLT.out; omega) (fun e_ => (HVO.out B3 e_.symm).2.2.2.2 rfl)).trans ((HB6.out.block B3 HLT.out.2.2).trans H3.out); have H7 := Aside0.mk h3_; have hcell7 : w7.cell? ⟨B3, 0, none⟩ = some vo := (by simp [World.cell?, h3_]); have hfz7 : w7.frozen? ⟨B3, 0, none⟩ = false := frozen_of_row w7 B3 0 #[vo] 35 h3_; clear h3_ ho hb hg hat))
      all_goals
        go_end0
        refine ⟨rfl, ⟨.slice A7 (out ++ [y]).length c7, ?_, ?_, ?_, .inl H456.out.1, .inl H456.out.2.1, .inl H456.out.2.2, Kd.S_far HO7.out (fun k_ hk => hk.2.2.2) _⟩, ?_⟩
        · rw [World.cell?_of_block ((heap_setCell_other w7 _ B1 _ HNE.out.1).trans ((HG.out.block B1 (by have := HB6.out.size; have := HLT.out; omega) (fun e_ => (HVO.out B1 e_.symm).2.2.1 rfl)).trans (HB6.out.block B1 HLT.out.1)))]
          exact HI1.out
        · rw [World.cell?_of_block ((heap_setCell_other w7 _ B2 _ HNE.out.2.1).trans ((HG.out.block B2 (by have := HB6.out.size; have := HLT.out; omega) (fun e_ => (HVO.out B2 e_.symm).2.2.2.1 rfl)).trans (HB6.out.block B2 HLT.out.2.1)))]
          exact HI2.out
        · rw [heap_setCell_same _ _ _ _ _ _ H7.out]
          simp
        · have hs_ := HB6.out.size
          have hs2_ := HG.out.size
          refine ⟨HG.out.os.trans HB6.out.os, HG.out.tape.trans HB6.out.tape, HG.out.output.trans HB6.out.output, by simp; omega, fun k_ hk hn => ?_⟩
          have h1_ : k_ ≠ B3 := fun e_ => hn (by rw [e_]; exact H456.out.2.2)
          exact (heap_setCell_other w7 _ k_ _ h1_).trans ((HG.out.block k_ (by omega) (fun e_ => hn (HVO.out k_ e_.symm).2.1)).trans (HB6.out.block k_ hk))
    · exact absurd hf (by simp [c5])
theorem sol_vis (B1 B2 B3 base : Nat) (k : Nat) (a b : Int) (h13 : B1 ≠ B3) (h23 : B2 ≠ B3) (hb3 : base ≤ B3) : Vis 79 #[.pointer (some ⟨B1, 0, none⟩), .pointer (some ⟨B2, 0, none⟩), .pointer (some ⟨B3, 0, none⟩)] (IS B1 B2 B3 base a b) (solStep k a b) where
  mono := by
    rintro s W ok ok' ⟨vo, h1, h2, h3, h4, h5, h6, h7⟩ h
    exact ⟨vo, h1, h2, h3, h _ h4, h _ h5, h _ h6, Kd.S_mono h7 (fun k hk => ⟨h k hk.1, hk.2⟩)⟩
  bound := by
    rintro s W ok ⟨vo, h1, h2, h3, h4, h5, h6, h7⟩
    exact ⟨vo, h1, h2, h3, ⟨h4, World.block_lt_of_cell? _ _ h1⟩, ⟨h5, World.block_lt_of_cell? _ _ h2⟩, ⟨h6, (Array.getElem?_eq_some_iff.1 h3).1⟩, Kd.S_mono (Kd.S_bound h7) (fun k hk => ⟨⟨hk.1.1, hk.2.2.1⟩, hk.1.2⟩)⟩
  move := by
    rintro s W W1 ok ⟨vo, h1, h2, h3, h4, h5, h6, h7⟩ h hs
    refine ⟨vo, ?_, ?_, (h B3 h6 (Array.getElem?_eq_some_iff.1 h3).1).trans h3, h4, h5, h6, Kd.S_step h7 (fun k hk hlt => h k hk.1 hlt)⟩
    · rw [World.cell?_of_block (h B1 h4 (World.block_lt_of_cell? _ _ h1))]
      exact h1
    · rw [World.cell?_of_block (h B2 h5 (World.block_lt_of_cell? _ _ h2))]
      exact h2
  visit := fun s s' W A c x ok hI hf hK hc _ => sol_visit B1 B2 B3 base k a b h13 h23 hb3 s s' W A c x ok hI hf hK hc

def impl_solutions.f (k : Nat) (a0 a1 a2 a3 : Int) : Option (List (List Int)) := if 0 ≤ a0 ∧ a0 ≤ 900 ∧ a3 ≤ 1000000 then fallS (solStep k a1 a2) a0.toNat [] a3 [] else none
theorem impl_solutions.mono : ∀ a0 a1 a2 a3 k, LeO (impl_solutions.f k a0 a1 a2 a3) (impl_solutions.f (k + 1) a0 a1 a2 a3) := by
  intro a0 a1 a2 a3 k
  unfold impl_solutions.f
  exact LeO.ite (fallS_mono _ _ (solStep_mono k a1 a2) _ _ _ _) (LeO.none _)
set_option maxHeartbeats 4000000 in
set_option maxRecDepth 100000 in
theorem impl_solutions.calls (k : Nat) (a0 a1 a2 a3 : Int) (r : List (List Int)) (w : World) (h : impl_solutions.f k a0 a1 a2 a3 = some r) :
    Calls Try.prog 66 #[.int .i64 a0, .int .i64 a1, .int .i64 a2, .int .i64 a3] w fun e w' => ∃ v0_ : Value, e = .returned (v0_) ∧ Kd.S (Kd.slice 3 (Kd.int .i64)) 22 w' w.heap.size (fun _ => True) v0_ r ∧ Below w.heap.size w w' := by
  unfold impl_solutions.f at h
  by_cases hg : 0 ≤ a0 ∧ a0 ≤ 900 ∧ a3 ≤ 1000000
  · rw [if_pos hg] at h
    have HF := Aside0.mk h
    have HGD := Aside0.mk hg
    have hb1 : Below w.heap.size w (w.alloc (.cells #[.int .i64 a1] 3)) := below_alloc (Below.refl _ _) _
    have HB := Aside0.mk (below_alloc hb1 (.cells #[.int .i64 a2] 3))
    have HC1 : Aside0 (((w.alloc (.cells #[.int .i64 a1] 3)).alloc (.cells #[.int .i64 a2] 3)).cell? ⟨w.heap.size, 0, none⟩ = some (.int .i64 a1)) := ⟨by simp⟩
    have HC2 : Aside0 (((w.alloc (.cells #[.int .i64 a1] 3)).alloc (.cells #[.int .i64 a2] 3)).cell? ⟨w.heap.size + 1, 0, none⟩ = some (.int .i64 a2)) := ⟨by simp⟩
    have HSZ : Aside0 (((w.alloc (.cells #[.int .i64 a1] 3)).alloc (.cells #[.int .i64 a2] 3)).heap.size = w.heap.size + 2) := ⟨by simp⟩
    clear h hg hb1
    go_enter Try.func66, Try.ntmps66
    go_wp2_with (first
      | ((with_reducible refine gate_dst (N := 10) rfl ?_); refine Kd.S_lits (Kd.slice 3 (Kd.int .i64)) (w0 := w) w.heap.size 22 ?hg (N := 10) ?hd (xs := []) (inner := []) (ok := fun k_ => w.heap.size + 2 ≤ k_) (fun j k_ => False) ?hr rfl ?hp ?ha (fun _ _ h_ => h_.elim) (by simp) ?hB ?hs (by simp) ?_; (case hd => rfl); (case hg => rfl); (case hr => first | (go_simp; done) | (go_simp; rfl)); (case hp => intro j x hj; simp at hj); (case ha => intro i j k_ h1 _; exact h1.elim); (case hB => exact HB.out); (case hs => exact below_size HB.out); intro v2 w2 ho hb hg hat; have n2_ := Aside0.mk ho; have n3_ := Aside0.mk hb; have n4_ := Aside0.mk hg; have n5_ := Aside0.mk hat; clear HB; have HO6 := n2_; have HB := n3_; have HGR := n4_; have HAT := n5_; clear n2_ n3_ n4_ n5_ ho hb hg hat; obtain ⟨A2, c2, e2⟩ := Kd.S_slice HO6.out; subst e2)
      | (go_at_call 64; have h3_ : w.heap.size + 2 ≤ w2.heap.size := (by have := HGR.out.size; have := HSZ.out; omega); (refine (falling_sol (IS w.heap.size (w.heap.size + 1) w2.heap.size w.heap.size a1 a2) (solStep k a1 a2) w.heap.size (w.heap.size + 1) w2.heap.size (sol_vis _ _ _ _ k a1 a2 (by omega) (by omega) (by omega)) a0.toNat a0 [] a3 [] r _ (.slice none 0 0) (fun k_ => w.heap.size ≤ k_) (by have := HGD.out; omega) (by have := HGD.out; simp; omega) (by have := HGD.out; omega) HGD.out.2.2 ?hI (.inl ⟨rfl, rfl⟩) (by simp [Value.ownBlock]) HF.out).mono ?_); ((case hI => refine ⟨.slice A2 0 c2, ?_, ?_, heap_alloc_new _ _, by omega, by omega, by omega, Kd.S_mono (Kd.S_alloc (Kd.S_bound HO6.out) _) (fun k_ hk => by have h4_ := hk.1; have h5_ := hk.2.2.1; omega)⟩; exact pw_cell_below (below_alloc (Below.refl _ _) _) ((World.cell?_of_block (HGR.out.block _ (by show w.heap.size < _; have := HSZ.out; omega) (by simp))).trans HC1.out); exact pw_cell_below (below_alloc (Below.refl _ _) _) ((World.cell?_of_block (HGR.out.block _ (by show w.heap.size + 1 < _; have := HSZ.out; omega) (by simp))).trans HC2.out))); rintro e w5 ⟨rfl, ⟨vo, hi1, hi2, hi3, hi4, hi5, hi6, hi7⟩, hf, _⟩; have HO7 := Aside0.mk hi7; have HFR := Aside0.mk hf; have hcell5 : w5.cell? ⟨w2.heap.size, 0, none⟩ = some vo := (by simp [World.cell?, hi3]); clear hi1 hi2 hi3 hi4 hi5 hi6 hi7 hf h3_; obtain ⟨A5, c5, e5⟩ := Kd.S_slice HO7.out; subst e5))
    go_ret
    exact ⟨_, rfl, Kd.S_mono HO7.out (fun _ _ => trivial), (below_alloc HB.out _).trans (Fr.below HFR.out (fun k_ hk => ⟨by have := HB.out.size; simp; omega, fun h_ => by rcases h_ with h_ | h_; omega; simp [Value.ownBlock] at h_⟩))⟩
  · rw [if_neg hg] at h
    exact absurd h (by simp)
end Go.Proofs.Ytfdjbcbhlfjogaa.P

-- PFimplSolutionsUpTo
namespace Go.Proofs.Ytfdjbcbhlfjogaa.P
open Go.RowKit Go.Proofs.YtfdjbcbhlfjogaaW.PrintWords Go.Proofs.YtfdjbcbhlfjogaaW.PrintLast
set_option linter.unusedVariables false
set_option linter.unusedSimpArgs false

/-! ### impl_SolutionsUpTo: function 28 -/
def impl_SolutionsUpTo.j0 : Nat → Int → Int → Int → Int → Bool → Option ((List (List Int)) × Bool)
 | 0, _, _, _, _, _ => none
 | k + 1, x0, x1, x2, x3, x21 => if x21 = true then (some (([] : List (List Int)), false)) else ((impl_solutions.f k x0 x1 x2 x3).bind fun t255 => (if (t255.length : Int) > 500 then (some (([] : List (List Int)), false)) else (some (t255, true))))
def impl_SolutionsUpTo.f (k : Nat) (a0 : Int) (a1 : Int) (a2 : Int) (a3 : Int) : Option ((List (List Int)) × Bool) := (impl_areTried.f a0 a2 a3).bind fun t253 => (if t253 = true then ((impl_areGiven.f a1 a2).bind fun t254 => (impl_SolutionsUpTo.j0 k a0 a1 a2 a3 (!t254))) else (impl_SolutionsUpTo.j0 k a0 a1 a2 a3 true))
theorem impl_SolutionsUpTo.mono_l : ∀ k, (∀ y0 y1 y2 y3 y4, LeO (impl_SolutionsUpTo.j0 k y0 y1 y2 y3 y4) (impl_SolutionsUpTo.j0 (k + 1) y0 y1 y2 y3 y4))
 | 0 => fun _ _ _ _ _ r h => by simp [impl_SolutionsUpTo.j0] at h
 | k + 1 => by
  have ih0 := impl_SolutionsUpTo.mono_l k
  ·intro y0 y1 y2 y3 y4
   unfold impl_SolutionsUpTo.j0
   repeat' first
   | (with_reducible exact ih0 _ _ _ _ _)
   | (with_reducible exact impl_solutions.mono _ _ _ _ _)
   | (with_reducible exact LeO.refl _)
   | (with_reducible exact LeO.none _)
   | (with_reducible refine LeO.ite ?_ ?_)
   | (with_reducible refine LeO.bind ?_ (fun _ => ?_))
   | exact ih0 _ _ _ _ _
   | exact impl_solutions.mono _ _ _ _ _
   | exact LeO.none _
   | refine LeO.ite ?_ ?_
   | refine LeO.bind ?_ (fun _ => ?_)
theorem impl_SolutionsUpTo.mono : ∀ a0 a1 a2 a3 k, LeO (impl_SolutionsUpTo.f k a0 a1 a2 a3) (impl_SolutionsUpTo.f (k + 1) a0 a1 a2 a3) := by
 intro a0 a1 a2 a3 k
 have ih0 := impl_SolutionsUpTo.mono_l k
 unfold impl_SolutionsUpTo.f
 repeat' first
   | (with_reducible exact ih0 _ _ _ _ _)
   | (with_reducible exact impl_solutions.mono _ _ _ _ _)
   | (with_reducible exact LeO.refl _)
   | (with_reducible exact LeO.none _)
   | (with_reducible refine LeO.ite ?_ ?_)
   | (with_reducible refine LeO.bind ?_ (fun _ => ?_))
   | exact ih0 _ _ _ _ _
   | exact impl_solutions.mono _ _ _ _ _
   | exact LeO.none _
   | refine LeO.ite ?_ ?_
   | refine LeO.bind ?_ (fun _ => ?_)
set_option maxHeartbeats 8000000 in
set_option maxRecDepth 100000 in
theorem impl_SolutionsUpTo.calls (k : Nat) (a0 : Int) (a1 : Int) (a2 : Int) (a3 : Int) (r1 : List (List Int)) (r2 : Bool) (w : World) (h : impl_SolutionsUpTo.f k a0 a1 a2 a3 = some (r1, r2)) :
  Calls Try.prog 28 #[.int .i64 a0, .int .i64 a1, .int .i64 a2, .int .i64 a3] w fun e w' => ∃ v0_ : Value, e = .returned (.tuple #[v0_, .bool r2]) ∧ Kd.S (Kd.slice 3 (Kd.int .i64)) 22 w' w.heap.size (fun _ => True) v0_ r1 ∧ Below w.heap.size w w' := by
 have HB := Aside0.mk (Below.refl w.heap.size w)
 have H : ((impl_areTried.f a0 a2 a3).bind fun t253 => (if t253 = true then ((impl_areGiven.f a1 a2).bind fun t254 => (impl_SolutionsUpTo.j0 k a0 a1 a2 a3 (!t254))) else (impl_SolutionsUpTo.j0 k a0 a1 a2 a3 true))) = some (r1, r2) := h
 clear h
 have HC5 := Aside0.mk H
 clear H
 go_enter Try.func28, Try.ntmps28
 go_upto_region 1 with (fail)
 go_cut [21] (fun v21 wc => ∃ (kq : Nat) (x21_4 : Bool), v21 = .bool x21_4 ∧ Aside0 (impl_SolutionsUpTo.j0 kq a0 a1 a2 a3 x21_4 = some (r1, r2)) ∧ Aside0 (kq ≤ k) ∧ Aside0 (Below w.heap.size w wc))
 case first =>
  have H := HC5.out
  clear HC5
  replace H := Option.bind_eq_some_iff.mp H
  obtain ⟨t253, A60, H⟩ := H
  replace H : (if t253 = true then ((impl_areGiven.f a1 a2).bind fun t254 => (impl_SolutionsUpTo.j0 k a0 a1 a2 a3 (!t254))) else (impl_SolutionsUpTo.j0 k a0 a1 a2 a3 true)) = some (r1, r2) := H
  have A6 := Aside0.mk A60
  clear A60
  by_cases c7 : t253 = true
  ·subst c7
   have H1 : ((impl_areGiven.f a1 a2).bind fun t254 => (impl_SolutionsUpTo.j0 k a0 a1 a2 a3 (!t254))) = some (r1, r2) := by rw [if_pos rfl] at H; exact H
   clear H
   have H := H1
   clear H1
   replace H := Option.bind_eq_some_iff.mp H
   obtain ⟨t254, A80, H⟩ := H
   replace H : (impl_SolutionsUpTo.j0 k a0 a1 a2 a3 (!t254)) = some (r1, r2) := H
   have A8 := Aside0.mk A80
   clear A80
   have H' := Aside0.mk H
   clear H
   go_wp2_with (first | ((with_reducible refine gate_callee (f := 63) rfl ?_); refine goesL_ (some 14) rfl rfl Try.func63 (by kernel_rfl) rfl #[.int .i64 a0, .int .i64 a2, .int .i64 a3] rfl (by (try simp only [List.map_toArray, List.map_cons, List.map_nil]); first | done | rfl | (simp only [List.length_drop, List.length_take]; rfl)) ?_; (with_reducible refine (impl_areTried.calls a0 a2 a3 true _ A6.out).mono ?_); rintro e w' ⟨rfl, ⟨nd, rfl⟩⟩; refine ⟨_, rfl, ?_⟩) | (go_at_call 52; (with_reducible refine (impl_areGiven.calls a1 a2 t254 _ A8.out).mono ?_); rintro e w' ⟨rfl, ⟨nd, rfl⟩⟩))
   go_meet
   case rel => exact ⟨_, (!t254), (by first | rfl | (simp; done) | (simp [*]; done)), H', ⟨by first | omega | exact Nat.le_refl _⟩, ⟨by repeat (first | (with_reducible first | exact HB.out | apply below_alloc | apply pw_below_drewN | apply below_drew1) | exact HB.out)⟩⟩
  ·replace c7 := Bool.eq_false_iff.mpr c7
   subst c7
   have H1 : (impl_SolutionsUpTo.j0 k a0 a1 a2 a3 true) = some (r1, r2) := by rw [if_neg (show ¬ (false = true) by decide)] at H; exact H
   clear H
   have H := H1
   clear H1
   have H' := Aside0.mk H
   clear H
   go_wp2_with (first | ((with_reducible refine gate_callee (f := 63) rfl ?_); refine goesL_ (some 14) rfl rfl Try.func63 (by kernel_rfl) rfl #[.int .i64 a0, .int .i64 a2, .int .i64 a3] rfl (by (try simp only [List.map_toArray, List.map_cons, List.map_nil]); first | done | rfl | (simp only [List.length_drop, List.length_take]; rfl)) ?_; (with_reducible refine (impl_areTried.calls a0 a2 a3 false _ A6.out).mono ?_); rintro e w' ⟨rfl, ⟨nd, rfl⟩⟩; refine ⟨_, rfl, ?_⟩))
   go_meet
   case rel => exact ⟨_, (true), (by first | rfl | (simp; done) | (simp [*]; done)), H', ⟨by first | omega | exact Nat.le_refl _⟩, ⟨by repeat (first | (with_reducible first | exact HB.out | apply below_alloc | apply pw_below_drewN | apply below_drew1) | exact HB.out)⟩⟩
 case rest =>
  clear HC5
  try clear c2
  try clear p2
  try clear c6
  try clear c7
  obtain ⟨kq, x21_4, rfl, HA, HJ4, HB⟩ := hcut
  cases kq with
  | zero => exact absurd HA.out (by simp [impl_SolutionsUpTo.j0])
  | succ kj4 =>
   have H := HA.out
   clear HA
   simp only [impl_SolutionsUpTo.j0] at H
   by_cases c9 : x21_4 = true
   ·subst c9
    have H1 : (some (([] : List (List Int)), false)) = some (r1, r2) := by rw [if_pos rfl] at H; exact H
    clear H
    have H := H1
    clear H1
    simp only [Option.some.injEq, Prod.mk.injEq] at H
    obtain ⟨rfl, rfl⟩ := H
    go_wp2
    go_ret2
    exact ⟨_, by first | rfl | (simp [errW_none, errW_some] <;> rfl) | (simp [*, errW_none, errW_some] <;> rfl), by first | exact Kd.S_nil _ _ _ _ _ | exact Kd.N_nil _ _ _ _ _ | exact Kd.V_nil _ _ _ _ _ | exact Kd.Q_nil _ _ _ _ _ | exact Kd.R_nil _ _ _ _ _, by repeat (first | (with_reducible first | exact HB.out | apply below_alloc | apply pw_below_drewN | apply below_drew1) | exact HB.out)⟩
   ·replace c9 := Bool.eq_false_iff.mpr c9
    subst c9
    have H1 : ((impl_solutions.f kj4 a0 a1 a2 a3).bind fun t255 => (if (t255.length : Int) > 500 then (some (([] : List (List Int)), false)) else (some (t255, true)))) = some (r1, r2) := by rw [if_neg (show ¬ (false = true) by decide)] at H; exact H
    clear H
    have H := H1
    clear H1
    replace H := Option.bind_eq_some_iff.mp H
    obtain ⟨t255, A100, H⟩ := H
    replace H : (if (t255.length : Int) > 500 then (some (([] : List (List Int)), false)) else (some (t255, true))) = some (r1, r2) := H
    have A10 := Aside0.mk A100
    clear A100
    by_cases c11 : (t255.length : Int) > 500
    ·rw [if_pos c11] at H
     have c11b0 : decide (500 < (t255.length : Int)) = true := decide_eq_true c11
     have c11b1 : decide (500 < t255.length) = true := decide_eq_true (by omega)
     clear c11
     simp only [Option.some.injEq, Prod.mk.injEq] at H
     obtain ⟨rfl, rfl⟩ := H
     go_wp2_with (first | ((with_reducible refine gate_callee (f := 66) rfl ?_); refine goesL_ (some 26) rfl rfl Try.func66 (by kernel_rfl) rfl #[.int .i64 a0, .int .i64 a1, .int .i64 a2, .int .i64 a3] rfl (by (try simp only [List.map_toArray, List.map_cons, List.map_nil]); first | done | rfl | (simp only [List.length_drop, List.length_take]; rfl)) ?_; (with_reducible refine (impl_solutions.calls kj4 a0 a1 a2 a3 t255 _ A10.out).mono ?_); rintro e w12 ⟨v256, rfl, ho0, hb⟩; refine ⟨_, rfl, ?_⟩; have n0_ := Aside0.mk (Kd.S_lower ho0 (below_size (by repeat (first | (with_reducible first | exact HB.out | apply below_alloc | apply pw_below_drewN | apply below_drew1) | exact HB.out)))); have n1_ := Aside0.mk (below_step (by repeat (first | (with_reducible first | exact HB.out | apply below_alloc | apply pw_below_drewN | apply below_drew1) | exact HB.out)) hb); clear HB; have HO257 := n0_; have HB := n1_; clear n0_ n1_; (try clear hb); (try clear hb2); (try clear hk); (try clear hi); (try clear ho0); obtain ⟨Ao13, co13, eo13⟩ := Kd.S_slice HO257.out; subst eo13))
     go_ret2
     exact ⟨_, by first | rfl | (simp [errW_none, errW_some] <;> rfl) | (simp [*, errW_none, errW_some] <;> rfl), by first | exact Kd.S_nil _ _ _ _ _ | exact Kd.N_nil _ _ _ _ _ | exact Kd.V_nil _ _ _ _ _ | exact Kd.Q_nil _ _ _ _ _ | exact Kd.R_nil _ _ _ _ _, by repeat (first | (with_reducible first | exact HB.out | apply below_alloc | apply pw_below_drewN | apply below_drew1) | exact HB.out)⟩
    ·rw [if_neg c11] at H
     have c11b0 : decide (500 < (t255.length : Int)) = false := decide_eq_false c11
     have c11b1 : decide (500 < t255.length) = false := decide_eq_false (by omega)
     clear c11
     simp only [Option.some.injEq, Prod.mk.injEq] at H
     obtain ⟨rfl, rfl⟩ := H
     go_wp2_with (first | ((with_reducible refine gate_callee (f := 66) rfl ?_); refine goesL_ (some 26) rfl rfl Try.func66 (by kernel_rfl) rfl #[.int .i64 a0, .int .i64 a1, .int .i64 a2, .int .i64 a3] rfl (by (try simp only [List.map_toArray, List.map_cons, List.map_nil]); first | done | rfl | (simp only [List.length_drop, List.length_take]; rfl)) ?_; (with_reducible refine (impl_solutions.calls kj4 a0 a1 a2 a3 t255 _ A10.out).mono ?_); rintro e w14 ⟨v256, rfl, ho0, hb⟩; refine ⟨_, rfl, ?_⟩; have n0_ := Aside0.mk (Kd.S_lower ho0 (below_size (by repeat (first | (with_reducible first | exact HB.out | apply below_alloc | apply pw_below_drewN | apply below_drew1) | exact HB.out)))); have n1_ := Aside0.mk (below_step (by repeat (first | (with_reducible first | exact HB.out | apply below_alloc | apply pw_below_drewN | apply below_drew1) | exact HB.out)) hb); clear HB; have HO257 := n0_; have HB := n1_; clear n0_ n1_; (try clear hb); (try clear hb2); (try clear hk); (try clear hi); (try clear ho0); obtain ⟨Ao15, co15, eo15⟩ := Kd.S_slice HO257.out; subst eo15))
     go_ret2
     exact ⟨_, by first | rfl | (simp [errW_none, errW_some] <;> rfl) | (simp [*, errW_none, errW_some] <;> rfl), by (with_reducible repeat (first | apply Kd.S_alloc | apply Kd.S_drewN | apply Kd.S_drew)); exact HO257.out, by repeat (first | (with_reducible first | exact HB.out | apply below_alloc | apply pw_below_drewN | apply below_drew1) | exact HB.out)⟩

end Go.Proofs.Ytfdjbcbhlfjogaa.P

-- Gfundamentals
namespace Go.Proofs.Ytfdjbcbhlfjogaa.P
open Go Go.RowKit Go.Proofs.YtfdjbcbhlfjogaaW.PrintWords Go.Proofs.YtfdjbcbhlfjogaaW.PrintLast
set_option linter.unusedVariables false
set_option linter.unusedSimpArgs false

def filtL (k : Nat) (a : Int) : List (List Int) → List (List Int) → Option (List (List Int))
  | o, [] => some o
  | o, u :: us => (impl_isFundamental.f k u a).bind fun t => (if t = true then (if o.length < 1000000000 then filtL k a (o ++ [u]) us else none) else filtL k a o us)
theorem filtL_mono (k : Nat) (a : Int) : ∀ us o, LeO (filtL k a o us) (filtL (k + 1) a o us)
  | [], o => LeO.refl _
  | u :: us, o => by
    unfold filtL
    refine LeO.bind (impl_isFundamental.mono _ _ _) (fun t => ?_)
    exact LeO.ite (LeO.ite (filtL_mono k a us _) (LeO.none _)) (filtL_mono k a us _)
def impl_FundamentalsUpTo.f (k : Nat) (a0 a1 a2 a3 : Int) : Option (List (List Int) × Bool) := (impl_SolutionsUpTo.f k a0 a1 a2 a3).bind fun bt => (if bt.2 = true then (if bt.1.length < 1000000000 then ((filtL k a1 [] bt.1).bind fun o => some (o, true)) else none) else some ([], false))
theorem impl_FundamentalsUpTo.mono : ∀ a0 a1 a2 a3 k, LeO (impl_FundamentalsUpTo.f k a0 a1 a2 a3) (impl_FundamentalsUpTo.f (k + 1) a0 a1 a2 a3) := by
  intro a0 a1 a2 a3 k
  unfold impl_FundamentalsUpTo.f
  refine LeO.bind (impl_SolutionsUpTo.mono _ _ _ _ _) (fun bt => LeO.ite ?_ (LeO.refl _))
  exact LeO.ite (LeO.bind (filtL_mono _ _ _ _) (fun _ => LeO.refl _)) (LeO.none _)
set_option maxHeartbeats 4000000 in
set_option maxRecDepth 100000 in
theorem impl_FundamentalsUpTo.calls (k : Nat) (a0 a1 a2 a3 : Int) (r1 : List (List Int)) (r2 : Bool) (w : World) (h : impl_FundamentalsUpTo.f k a0 a1 a2 a3 = some (r1, r2)) :
    Calls Try.prog 33 #[.int .i64 a0, .int .i64 a1, .int .i64 a2, .int .i64 a3] w fun e w' => ∃ v0_ : Value, e = .returned (.tuple #[v0_, .bool r2]) ∧ Kd.S (Kd.slice 3 (Kd.int .i64)) 22 w' w.heap.size (fun _ => True) v0_ r1 ∧ Below w.heap.size w w' := by
  unfold impl_FundamentalsUpTo.f at h
  obtain ⟨⟨o, t⟩, A3, h⟩ := Option.bind_eq_some_iff.mp h
  have HB := Aside0.mk (Below.refl w.heap.size w)
  have HA3 := Aside0.mk A3
  clear A3
  cases t with
  | false =>
    obtain ⟨rfl, rfl⟩ : ([] : List (List Int)) = r1 ∧ false = r2 := by simpa using h
    clear h
    go_enter Try.func33, Try.ntmps33
    go_wp2_with (go_at_call 28; refine (impl_SolutionsUpTo.calls k a0 a1 a2 a3 o false _ HA3.out).mono ?_; rintro e w4 ⟨v4, rfl, ho0, hb⟩; have n0_ := Aside0.mk ho0; have n2_ := Aside0.mk (below_step (by repeat (first | (with_reducible first | exact HB.out | apply below_alloc | apply pw_below_drewN | apply below_drew1) | exact HB.out)) hb); clear HB hb ho0; have HO5 := n0_; have HB := n2_; clear n0_ n2_)
    go_ret2
    exact ⟨_, rfl, Kd.S_nil _ _ _ _ _, (by repeat (first | (with_reducible first | exact HB.out | apply below_alloc | apply pw_below_drewN | apply below_drew1) | exact HB.out))⟩
  | true =>
    replace h : (if o.length < 1000000000 then ((filtL k a1 [] o).bind fun o => some (o, true)) else none) = some (r1, r2) := by simpa using h
    by_cases c9 : o.length < 1000000000
    rotate_left
    · rw [if_neg c9] at h
      exact absurd h (by simp)
    rw [if_pos c9] at h
    have HSZ := Aside0.mk c9
    clear c9
    obtain ⟨o2, A4, h⟩ := Option.bind_eq_some_iff.mp h
    obtain ⟨rfl, rfl⟩ : o2 = r1 ∧ true = r2 := by simpa using h
    have HA4 := Aside0.mk A4
    clear h A4
    go_enter Try.func33, Try.ntmps33
    go_wp2_with (first
      | (go_at_call 28; refine (impl_SolutionsUpTo.calls k a0 a1 a2 a3 o true _ HA3.out).mono ?_; rintro e w4 ⟨v4, rfl, ho0, hb⟩; have n0_ := Aside0.mk ho0; have n2_ := Aside0.mk (below_step (by repeat (first | (with_reducible first | exact HB.out | apply below_alloc | apply pw_below_drewN | apply below_drew1) | exact HB.out)) hb); obtain ⟨A4, g, c4, ns, e4, hA4, hrest, hg4, hn4⟩ := rest_of ho0 (below_size HB.out); have n1_ := Aside0.mk hrest; have HA4' := Aside0.mk hA4; have HLT4 : Aside0 (∀ k_, ¬ Free g ns k_ → ns ≠ [] → k_ < w4.heap.size) := ⟨fun k_ hk_ hne_ => Classical.byContradiction fun h_ => hk_ ⟨fun e_ => by have := hrest.lt hne_; omega, fun u_ hu_ e_ => by have := (hrest.rows.own hu_ e_).2.2; omega⟩⟩; clear HB hb ho0 n0_; have HRS := n1_; have HB := n2_; subst e4; clear n1_ n2_ hrest hg4 hn4 hA4)
      | ((with_reducible refine gate_dst (N := 25) rfl ?_); refine Kd.S_lits (Kd.slice 3 (Kd.int .i64)) (w0 := w) w.heap.size 22 ?hg (N := 25) ?hd (xs := []) (inner := []) (ok := fun k_ => ns ≠ [] → Free g ns k_) (fun j k_ => False) ?hr rfl ?hp ?ha (fun _ _ h_ => h_.elim) (fun h2_ => Classical.byContradiction fun h1_ => by have := HLT4.out _ h1_ h2_; first | exact absurd this (Nat.lt_irrefl _) | (simp at this; done) | (simp at this; omega)) ?hB ?hs (by simp) ?_; (case hd => rfl); (case hg => rfl); (case hr => first | (go_simp; done) | (go_simp; rfl)); (case hp => intro j x hj; simp at hj); (case ha => intro i j k_ h1 _; exact h1.elim); (case hB => exact (by repeat (first | (with_reducible first | exact HB.out | apply below_alloc | apply pw_below_drewN | apply below_drew1) | exact HB.out))); (case hs => exact below_size (by repeat (first | (with_reducible first | exact HB.out | apply below_alloc | apply pw_below_drewN | apply below_drew1) | exact HB.out))); intro v2 w2 ho hb hg hat; have n2_ := Aside0.mk ho; have n3_ := Aside0.mk hb; have n1_ := Aside0.mk (HRS.out.step (w1 := w2) hg.size (fun k_ _ hlt_ => hg.block k_ hlt_ (by simp))); clear HB HRS; have HO6 := n2_; have HB := n3_; have HRS := n1_; clear n1_ n2_ n3_ ho hb hg hat))
    obtain ⟨A2, c2, e2⟩ := Kd.S_slice HO6.out
    subst e2
    go_loopg [12, 28] (o.length + 1) (fun kj v12 v28 w' => ∃ (o' : List (List Int)) (ns' : List Value) (us : List (List Int)) (off : Nat), v28 = .int .i64 (off : Int) ∧ Aside0 (off + us.length = o.length) ∧ Aside0 (us.length < kj) ∧ Aside0 (filtL k a1 o' us = some o2) ∧ Aside0 (o'.length ≤ 1000000000) ∧ Aside0 (Kd.S (Kd.slice 3 (Kd.int .i64)) 22 w' w.heap.size (fun k_ => ns' ≠ [] → Free g ns' k_) v12 o') ∧ Aside0 (Rest w' w.heap.size g off ns' us) ∧ Aside0 (Below w.heap.size w w'))
    case atStart => exact ⟨[], ns, o, 0, rfl, ⟨by omega⟩, ⟨by omega⟩, HA4, ⟨by simp⟩, HO6, HRS, HB⟩
    case round =>
      clear HO6 HRS HB HA4 HLT4
      obtain ⟨o', ns', us, off, rfl, HOF, HKJ, HAD, HLN, HO6, HRS, HB⟩ := hrel
      cases us with
      | nil =>
        have HOF' : Aside0 (off = o.length) := ⟨by simpa using HOF.out⟩
        have d1b0 : decide ((off : Int) < (o.length : Int)) = false := decide_eq_false (by have := HOF'.out; omega)
        have d1b1 : decide (off < o.length) = false := decide_eq_false (by have := HOF'.out; omega)
        obtain rfl : o' = o2 := Option.some.inj HAD.out
        obtain ⟨A3', c3', e3'⟩ := Kd.S_slice HO6.out
        subst e3'
        go_wp2
        go_ret2
        exact ⟨_, rfl, Kd.S_mono HO6.out (fun _ _ => trivial), (by repeat (first | (with_reducible first | exact HB.out | apply below_alloc | apply pw_below_drewN | apply below_drew1) | exact HB.out))⟩
      | cons b us =>
        obtain ⟨n, ns2, rfl⟩ : ∃ n ns2, ns' = n :: ns2 := by
          have := HRS.out.rows.len
          cases ns' with
          | nil => simp at this
          | cons n ns2 => exact ⟨n, ns2, rfl⟩
        have HO7 := Aside0.mk (Kd.S_mono (ok' := Free g (n :: ns2)) HO6.out (fun _ h_ => h_ (by simp)))
        clear HO6
        have HO6 := HO7
        clear HO7
        obtain ⟨ad4, e5, had4⟩ := HA4'.out (fun e_ => by have := HOF.out; rw [e_] at this; simp at this)
        subst e5
        subst had4
        obtain ⟨Ab, cb, en, hcb, hcell, hRb, hfree⟩ := HRS.out.head
        subst en
        have HCB := Aside0.mk hcb
        have HRB := Aside0.mk hRb
        have HFR := Aside0.mk hfree
        have HCR := Aside0.mk (Kd.R_reads' hRb).2.2
        have HOL : Aside0 (off < o.length) := ⟨by have := HOF.out; simp at this; omega⟩
        have hlt : off < o.length := HOL.out
        have hltz : (off : Int) < (o.length : Int) := by omega
        have d1b0 : decide ((off : Int) < (o.length : Int)) = true := decide_eq_true hltz
        have d1b1 : decide (off < o.length) = true := decide_eq_true hlt
        have HW : Aside0 (wrap64 ((off : Int) + 1) = ((off + 1 : Nat) : Int)) := ⟨by have := HOL.out; have := HSZ.out; unfold wrap64; omega⟩
        have H := HAD.out
        rw [filtL] at H
        obtain ⟨t, hT, H⟩ := Option.bind_eq_some_iff.mp H
        have HT := Aside0.mk hT
        obtain ⟨A3', c3', e3'⟩ := Kd.S_slice HO6.out
        subst e3'
        clear hcb hRb hfree hT HAD
        cases t with
        | false =>
          have HAD : Aside0 (filtL k a1 o' us = some o2) := ⟨by simpa using H⟩
          clear H
          go_wp2_with (go_at_call 60; refine (impl_isFundamental.calls k _ _ b a1 false _ HCR.out HCB.out HT.out).mono ?_; rintro e w5 ⟨rfl, ⟨nd, hw5⟩⟩; have hB5 : Below wr.heap.size wr w5 := (by rw [hw5]; exact pw_below_drewN (Below.refl _ _) nd); have n0_ := Aside0.mk (Kd.S_below HO6.out hB5); have n1_ := Aside0.mk (HRS.out.below hB5); have n2_ := Aside0.mk (below_step HB.out hB5); have n3_ := Aside0.mk (Kd.R_below HRB.out hB5); clear hw5 hB5 HO6 HRS HB HRB; have HO6 := n0_; have HRS := n1_; have HB := n2_; have HRB := n3_; clear n0_ n1_ n2_ n3_)
          go_roundg (us.length + 1)
          case measure => have := HKJ.out; simp at this; omega
          case rel => exact ⟨o', ns2, us, off + 1, (by rw [← HW.out]), ⟨by have := HOF.out; simp at this; omega⟩, ⟨by omega⟩, HAD, HLN, ⟨Kd.S_mono HO6.out (fun _ h_ _ => Free.tail h_)⟩, ⟨HRS.out.tail⟩, HB⟩
        | true =>
          replace H : (if o'.length < 1000000000 then filtL k a1 (o' ++ [b]) us else none) = some o2 := by simpa using H
          by_cases c9 : o'.length < 1000000000
          · rw [if_pos c9] at H
            have HAD := Aside0.mk H
            have LM := Aside0.mk c9
            clear H c9
            go_wp2_with (first
              | (go_at_call 60; refine (impl_isFundamental.calls k _ _ b a1 true _ HCR.out HCB.out HT.out).mono ?_; rintro e w5 ⟨rfl, ⟨nd, hw5⟩⟩; have hB5 : Below wr.heap.size wr w5 := (by rw [hw5]; exact pw_below_drewN (Below.refl _ _) nd); have n0_ := Aside0.mk (Kd.S_below HO6.out hB5); have n1_ := Aside0.mk (HRS.out.below hB5); have n2_ := Aside0.mk (below_step HB.out hB5); have n3_ := Aside0.mk (Kd.R_below HRB.out hB5); clear hw5 hB5 HO6 HRS HB HRB; have HO6 := n0_; have HRS := n1_; have HB := n2_; have HRB := n3_; clear n0_ n1_ n2_ n3_)
              | ((with_reducible refine gate_builtin (b := .append) (xs := #[.tmp 35, .tmp 37]) rfl ?_); at_builtin; refine Kd.S_append (Kd.slice 3 (Kd.int .i64)) (w0 := w) w.heap.size rfl (.tmp 35) (.tmp 37) 35 22 (.slice none 0 0) 24 rfl Try.underlying35 info22 rfl (by decide) (by omega) (.slice A3' o'.length c3') o' b [.slice Ab b.length cb] (fun k_ => ns2 ≠ [] → Free g ns2 k_) (fun k_ => some k_ = (Value.slice Ab b.length cb).ownBlock) rfl rfl ?aP ?aK ?aF ?aO ?aB ?aS ?aL ?_; (case aP => exact ⟨_, rfl, HRB.out⟩); (case aK => exact fun k_ hk => ⟨fun _ => (HFR.out k_ hk).1, fun e_ => ((S_vals HO6.out).choose_spec.1 k_ e_.symm).2 _ List.mem_cons_self hk.symm⟩); (case aF => exact fun k_ hk hne_ => ⟨fun e_ => by have h1_ := HRS.out.lt (by simp); omega, fun u_ hu_ e_ => by have h1_ := (HRS.out.rows.own (List.mem_cons_of_mem _ hu_) e_).2.2; omega⟩); (case aO => exact Kd.S_mono HO6.out (fun k_ hk => ⟨fun _ => Free.tail hk, fun e_ => hk.2 _ List.mem_cons_self e_.symm⟩)); (case aB => exact HB.out); (case aS => exact below_size HB.out); (case aL => have := LM.out; omega); intro v7 w7 ho hb hg hat; have n0_ := Aside0.mk ho; have n1_ := Aside0.mk hb; have n2_ := Aside0.mk (HRS.out.tail.step hg.size (fun k_ hk_ hlt_ => hg.block k_ hlt_ (fun e_ => hk_ (Free.tail ((S_vals HO6.out).choose_spec.1 k_ e_.symm))))); clear HO6 HB HRS hg hat ho hb; have HO6 := n0_; have HB := n1_; have HRS := n2_; clear n0_ n1_ n2_))
            go_roundg (us.length + 1)
            case measure => have := HKJ.out; simp at this; omega
            case rel => exact ⟨o' ++ [b], ns2, us, off + 1, (by rw [← HW.out]), ⟨by have := HOF.out; simp at this; omega⟩, ⟨by omega⟩, HAD, ⟨by have := LM.out; simp; omega⟩, HO6, HRS, HB⟩
          · rw [if_neg c9] at H
            exact absurd H (by simp)
end Go.Proofs.Ytfdjbcbhlfjogaa.P

-- GlawFundamentalsUpTo
namespace Go.Proofs.Ytfdjbcbhlfjogaa.P
open Go.RowKit Go.Proofs.YtfdjbcbhlfjogaaW.PrintWords Go.Proofs.YtfdjbcbhlfjogaaW.PrintLast
set_option linter.unusedVariables false
set_option linter.unusedSimpArgs false

def laws_FnExactFundamentalsUpTo.f (k : Nat) (a0 : Int) (a1 : Int) (a2 : Int) (a3 : Int) : Option Bool := ((spec_FundamentalsUpTo.f k a0 a1 a2 a3).bind fun a => ((impl_FundamentalsUpTo.f k a0 a1 a2 a3).bind fun b => if a = b ∧ a.1.length ≤ 1000000000000 ∧ total a.1 ≤ 1000000000000 then some true else none))
set_option maxHeartbeats 8000000 in
set_option maxRecDepth 100000 in
theorem laws_FnExactFundamentalsUpTo.calls (k : Nat) (a0 : Int) (a1 : Int) (a2 : Int) (a3 : Int) (r : Bool) (w : World) (h : laws_FnExactFundamentalsUpTo.f k a0 a1 a2 a3 = some r) :
    Calls Try.prog 8 #[.int .i64 a0, .int .i64 a1, .int .i64 a2, .int .i64 a3] w fun e w' => e = .returned (.bool r) ∧ Below w.heap.size w w' := by
  have HB := Aside0.mk (Below.refl w.heap.size w)
  unfold laws_FnExactFundamentalsUpTo.f at h
  obtain ⟨⟨W, bW⟩, hS, h⟩ := Option.bind_eq_some_iff.mp h
  obtain ⟨⟨V, bV⟩, hI, h⟩ := Option.bind_eq_some_iff.mp h
  by_cases hq : ((W, bW) : List (List Int) × Bool) = (V, bV) ∧ W.length ≤ 1000000000000 ∧ total W ≤ 1000000000000
  rotate_left
  · have h_ : (if ((W, bW) : List (List Int) × Bool) = (V, bV) ∧ W.length ≤ 1000000000000 ∧ total W ≤ 1000000000000 then some true else none) = some r := h
    rw [if_neg hq] at h_
    exact absurd h_ (by simp)
  have h_ : (if ((W, bW) : List (List Int) × Bool) = (V, bV) ∧ W.length ≤ 1000000000000 ∧ total W ≤ 1000000000000 then some true else none) = some r := h
  rw [if_pos hq] at h_
  obtain rfl := Option.some.inj h_
  clear h h_
  obtain ⟨he, hlen, htot⟩ := hq
  obtain ⟨hW, hb⟩ := Prod.mk.inj he
  clear he
  have e1 := eqIntSS_ev W hlen htot
  have e2 := heldIntSS_ev W hlen htot
  have hI2 := hI
  rw [← hW, ← hb] at hI2
  subst hb
  obtain ⟨K1, k1⟩ := e1
  obtain ⟨K2, k2⟩ := e2
  have HE := Aside0.mk (k1 K1 (Nat.le_refl _))
  have HH0 := Aside0.mk (k2 K2 (Nat.le_refl _))
  obtain ⟨tt, htt⟩ : ∃ tt : Int, 1 + (total W : Int) = tt := ⟨_, rfl⟩
  have ct0 : decide (tt < 0) = false := decide_eq_false (by omega)
  have ct1 : (tt == tt) = true := beq_self_eq_true tt
  have ct2 : (tt != tt) = false := bne_self_eq_false tt
  have HE2 : Aside0 (laws_eqIntSS.f K1 V W = some true) := ⟨by rw [← hW]; exact HE.out⟩
  have HH : Aside0 (laws_heldIntSS.f K2 (marked 1 V) 1 = some tt) := ⟨by rw [← hW, ← htt]; exact HH0.out⟩
  have HT : Aside0 (1 + (total V : Int) = tt) := ⟨by rw [← hW]; exact htt⟩
  have HTV : Aside0 (total V ≤ 1000000000000) := ⟨by rw [← hW]; exact htot⟩
  obtain ⟨U, hU⟩ : ∃ U : List (List Int), U = W := ⟨_, rfl⟩
  rw [← hU] at hI2
  have HE3 : Aside0 (laws_eqIntSS.f K1 U W = some true) := ⟨by rw [hU]; exact HE.out⟩
  have HS := Aside0.mk hS
  have HI := Aside0.mk hI
  have HI2 := Aside0.mk hI2
  clear hS hI hI2 hU hW htt hlen htot k1 k2 HE HH0
  go_enter Try.func8, Try.ntmps8
  go_upto_region 3 with (first | ((with_reducible refine gate_callee (f := 32) rfl ?_); refine goesL_ (some 22) rfl rfl Try.func32 (by kernel_rfl) rfl #[.int .i64 a0, .int .i64 a1, .int .i64 a2, .int .i64 a3] rfl (by (try simp only [List.map_toArray, List.map_cons, List.map_nil]); first | done | rfl | (simp only [List.length_drop, List.length_take]; rfl)) ?_; refine (spec_FundamentalsUpTo.calls k a0 a1 a2 a3 W bW _ HS.out).mono ?_; rintro e w11 ⟨v11, rfl, ho0, hb⟩; refine ⟨_, rfl, ?_⟩; have hbw := below_step (by repeat (first | (with_reducible first | exact HB.out | apply below_alloc | apply pw_below_drewN | apply below_drew1) | exact HB.out)) hb; obtain ⟨Aw, cw, ew, hcw, hrw⟩ := Kd.N_reads ho0; subst ew; have HCW := Aside0.mk hrw; have HCC := Aside0.mk hcw; have HBW := Aside0.mk hbw; have HB1 := Aside0.mk (Below.refl w11.heap.size w11); clear hrw hcw hbw ho0 hb HB) | ((with_reducible refine gate_callee (f := 33) rfl ?_); refine goesL_ (some 30) rfl rfl Try.func33 (by kernel_rfl) rfl #[.int .i64 a0, .int .i64 a1, .int .i64 a2, .int .i64 a3] rfl (by (try simp only [List.map_toArray, List.map_cons, List.map_nil]); first | done | rfl | (simp only [List.length_drop, List.length_take]; rfl)) ?_; refine (impl_FundamentalsUpTo.calls k a0 a1 a2 a3 V bW _ HI.out).mono ?_; rintro e w14 ⟨v14, rfl, ho0, hb⟩; refine ⟨_, rfl, ?_⟩; have n0_ := Aside0.mk (Kd.S_lower ho0 (below_size (by repeat (first | (with_reducible first | exact HB1.out | apply below_alloc | apply pw_below_drewN | apply below_drew1) | exact HB1.out)))); have n1_ := Aside0.mk (below_step (by repeat (first | (with_reducible first | exact HB1.out | apply below_alloc | apply pw_below_drewN | apply below_drew1) | exact HB1.out)) hb); clear HB1; have HG := n0_; have HB1 := n1_; clear n0_ n1_ ho0 hb; obtain ⟨Ag, cg, eg⟩ := Kd.S_slice HG.out; subst eg))
  (try simp only [Act.put, List.setIfInBounds_toArray, List.set_cons_zero, List.set_cons_succ])
  go_cut [41] (fun v41 wc => v41 = .bool false ∧ Aside0 (Kd.S (Kd.slice 3 (Kd.int .i64)) 22 wc w11.heap.size (fun k_ => True) (.slice Ag V.length cg) V) ∧ Aside0 (Below w11.heap.size w11 wc))
  case first =>
    go_wp2_with (first | ((with_reducible refine gate_callee (f := 29) rfl ?_); refine goesL_ (some 35) rfl rfl Try.func29 (by kernel_rfl) rfl #[.slice Ag V.length cg, .slice Aw W.length cw] rfl (by (try simp only [List.map_toArray, List.map_cons, List.map_nil]); first | done | rfl | (simp only [List.length_drop, List.length_take]; rfl)) ?_; refine (laws_eqIntSS.calls K1 _ _ V _ _ W true _ (by repeat (first | exact (Kd.S_reads' HG.out).2.2 | (with_reducible refine Kd.C_alloc ?_ _) | (with_reducible refine Kd.C_drewN ?_ _) | (with_reducible refine Kd.C_drew ?_))) (Kd.S_reads' HG.out).2.1 (by repeat (first | exact (Kd.C_below HCW.out (by repeat (first | (with_reducible first | exact HB1.out | apply below_alloc | apply pw_below_drewN | apply below_drew1) | exact HB1.out))) | (with_reducible refine Kd.C_alloc ?_ _) | (with_reducible refine Kd.C_drewN ?_ _) | (with_reducible refine Kd.C_drew ?_))) HCC.out HE2.out).mono ?_; rintro e w' ⟨rfl, ⟨nd, rfl⟩⟩; refine ⟨_, rfl, ?_⟩) | (go_at_call 29; refine (laws_eqIntSS.calls K1 _ _ V _ _ W true _ (by repeat (first | exact (Kd.S_reads' HG.out).2.2 | (with_reducible refine Kd.C_alloc ?_ _) | (with_reducible refine Kd.C_drewN ?_ _) | (with_reducible refine Kd.C_drew ?_))) (Kd.S_reads' HG.out).2.1 (by repeat (first | exact (Kd.C_below HCW.out (by repeat (first | (with_reducible first | exact HB1.out | apply below_alloc | apply pw_below_drewN | apply below_drew1) | exact HB1.out))) | (with_reducible refine Kd.C_alloc ?_ _) | (with_reducible refine Kd.C_drewN ?_ _) | (with_reducible refine Kd.C_drew ?_))) HCC.out HE2.out).mono ?_; rintro e w' ⟨rfl, ⟨nd, rfl⟩⟩))
    go_meet
    case rel => exact ⟨by simp, ⟨(by (with_reducible repeat (first | apply Kd.S_alloc | apply Kd.S_drewN | apply Kd.S_drew)); exact HG.out)⟩, ⟨(by repeat (first | (with_reducible first | exact HB1.out | apply below_alloc | apply pw_below_drewN | apply below_drew1) | exact HB1.out))⟩⟩
  case rest =>
    clear HG HB1
    obtain ⟨rfl, HG, HB1⟩ := hcut
    go_upto_region 14 with (first | ((with_reducible refine gate_callee (f := 30) rfl ?_); refine goesL_ (some 44) rfl rfl Try.func30 (by kernel_rfl) rfl #[.slice Ag V.length cg, .int .i64 1] rfl (by (try simp only [List.map_toArray, List.map_cons, List.map_nil]); first | done | rfl | (simp only [List.length_drop, List.length_take]; rfl)) ?_; refine (markSS_calls (fun k_ => True) _ V tt HT.out w11 _ (by repeat (first | (with_reducible first | exact HB1.out | apply below_alloc | apply pw_below_drewN | apply below_drew1) | exact HB1.out)) (by (with_reducible repeat (first | apply Kd.S_alloc | apply Kd.S_drewN | apply Kd.S_drew)); exact HG.out) HTV.out).mono ?_; rintro e w17 ⟨rfl, hs, hb, hk⟩; refine ⟨_, rfl, ?_⟩; clear HB1 HG; have HG := Aside0.mk hs; have HB1 := Aside0.mk hb; clear hs hb hk) | ((with_reducible refine gate_callee (f := 31) rfl ?_); refine goesL_ (some 47) rfl rfl Try.func31 (by kernel_rfl) rfl #[.slice Ag V.length cg, .int .i64 1] rfl (by (try simp only [List.map_toArray, List.map_cons, List.map_nil]); first | done | rfl | (simp only [List.length_drop, List.length_take]; rfl)) ?_; refine (heldSS_calls K2 V Ag cg tt 22 _ _ _ (by (with_reducible repeat (first | apply Kd.S_alloc | apply Kd.S_drewN | apply Kd.S_drew)); exact HG.out) HH.out).mono ?_; rintro e w' ⟨rfl, ⟨nd, rfl⟩⟩; refine ⟨_, rfl, ?_⟩) | ((with_reducible refine gate_callee (f := 33) rfl ?_); refine goesL_ (some 58) rfl rfl Try.func33 (by kernel_rfl) rfl #[.int .i64 a0, .int .i64 a1, .int .i64 a2, .int .i64 a3] rfl (by (try simp only [List.map_toArray, List.map_cons, List.map_nil]); first | done | rfl | (simp only [List.length_drop, List.length_take]; rfl)) ?_; refine (impl_FundamentalsUpTo.calls k a0 a1 a2 a3 U bW _ HI2.out).mono ?_; rintro e w19 ⟨v19, rfl, ho0, hb⟩; refine ⟨_, rfl, ?_⟩; have n0_ := Aside0.mk ho0; have n1_ := Aside0.mk (below_step (by repeat (first | (with_reducible first | exact HB1.out | apply below_alloc | apply pw_below_drewN | apply below_drew1) | exact HB1.out)) hb); have n2_ := Aside0.mk (Kd.S_below (by (with_reducible repeat (first | apply Kd.S_alloc | apply Kd.S_drewN | apply Kd.S_drew)); exact HG.out) hb); clear HB1 HG; have HH_ := n0_; have HB1 := n1_; have HG := n2_; clear n0_ n1_ n2_ ho0 hb; obtain ⟨Ah, ch, eh⟩ := Kd.S_slice HH_.out; subst eh))
    (try simp only [Act.put, List.setIfInBounds_toArray, List.set_cons_zero, List.set_cons_succ])
    go_cut [69] (fun v69 wc => v69 = .bool false ∧ Aside0 (Kd.S (Kd.slice 3 (Kd.int .i64)) 22 wc w11.heap.size (fun k_ => True) (.slice Ag V.length cg) (marked 1 V)) ∧ Aside0 (Below w11.heap.size w11 wc))
    case first =>
      go_wp2_with (first | ((with_reducible refine gate_callee (f := 29) rfl ?_); refine goesL_ (some 63) rfl rfl Try.func29 (by kernel_rfl) rfl #[.slice Ah U.length ch, .slice Aw W.length cw] rfl (by (try simp only [List.map_toArray, List.map_cons, List.map_nil]); first | done | rfl | (simp only [List.length_drop, List.length_take]; rfl)) ?_; refine (laws_eqIntSS.calls K1 _ _ U _ _ W true _ (by repeat (first | exact (Kd.S_reads' HH_.out).2.2 | (with_reducible refine Kd.C_alloc ?_ _) | (with_reducible refine Kd.C_drewN ?_ _) | (with_reducible refine Kd.C_drew ?_))) (Kd.S_reads' HH_.out).2.1 (by repeat (first | exact (Kd.C_below HCW.out (by repeat (first | (with_reducible first | exact HB1.out | apply below_alloc | apply pw_below_drewN | apply below_drew1) | exact HB1.out))) | (with_reducible refine Kd.C_alloc ?_ _) | (with_reducible refine Kd.C_drewN ?_ _) | (with_reducible refine Kd.C_drew ?_))) HCC.out HE3.out).mono ?_; rintro e w' ⟨rfl, ⟨nd, rfl⟩⟩; refine ⟨_, rfl, ?_⟩) | (go_at_call 29; refine (laws_eqIntSS.calls K1 _ _ U _ _ W true _ (by repeat (first | exact (Kd.S_reads' HH_.out).2.2 | (with_reducible refine Kd.C_alloc ?_ _) | (with_reducible refine Kd.C_drewN ?_ _) | (with_reducible refine Kd.C_drew ?_))) (Kd.S_reads' HH_.out).2.1 (by repeat (first | exact (Kd.C_below HCW.out (by repeat (first | (with_reducible first | exact HB1.out | apply below_alloc | apply pw_below_drewN | apply below_drew1) | exact HB1.out))) | (with_reducible refine Kd.C_alloc ?_ _) | (with_reducible refine Kd.C_drewN ?_ _) | (with_reducible refine Kd.C_drew ?_))) HCC.out HE3.out).mono ?_; rintro e w' ⟨rfl, ⟨nd, rfl⟩⟩))
      go_meet
      case rel => exact ⟨by simp, ⟨(by (with_reducible repeat (first | apply Kd.S_alloc | apply Kd.S_drewN | apply Kd.S_drew)); exact HG.out)⟩, ⟨(by repeat (first | (with_reducible first | exact HB1.out | apply below_alloc | apply pw_below_drewN | apply below_drew1) | exact HB1.out))⟩⟩
    case rest =>
      clear HG HB1
      obtain ⟨rfl, HG, HB1⟩ := hcut
      go_wp2_with (first | ((with_reducible refine gate_callee (f := 31) rfl ?_); refine goesL_ (some 72) rfl rfl Try.func31 (by kernel_rfl) rfl #[.slice Ag V.length cg, .int .i64 1] rfl (by (try simp only [List.map_toArray, List.map_cons, List.map_nil]); first | done | rfl | (simp only [List.length_drop, List.length_take]; rfl)) ?_; refine (heldSS_calls K2 V Ag cg tt 22 _ _ _ (by (with_reducible repeat (first | apply Kd.S_alloc | apply Kd.S_drewN | apply Kd.S_drew)); exact HG.out) HH.out).mono ?_; rintro e w' ⟨rfl, ⟨nd, rfl⟩⟩; refine ⟨_, rfl, ?_⟩))
      go_ret
      exact ⟨rfl, below_step HBW.out (by repeat (first | (with_reducible first | exact HB1.out | apply below_alloc | apply pw_below_drewN | apply below_drew1) | exact HB1.out))⟩
end Go.Proofs.Ytfdjbcbhlfjogaa.P

-- PFFnExactFundamentalsUpTo
namespace Go.Proofs.Ytfdjbcbhlfjogaa.P
open Go.RowKit Go.Proofs.YtfdjbcbhlfjogaaW.PrintWords Go.Proofs.YtfdjbcbhlfjogaaW.PrintLast
set_option linter.unusedVariables false
set_option linter.unusedSimpArgs false

/-! ### laws_FnExactFundamentalsUpTo: function 8 -/
def laws_FnExactFundamentalsUpTo.Pure : Prop := ∀ (a0 : Int) (a1 : Int) (a2 : Int) (a3 : Int), (Lit.int .i64 a0).wf = true → (Lit.int .i64 a1).wf = true → (Lit.int .i64 a2).wf = true → (Lit.int .i64 a3).wf = true → ∃ k, laws_FnExactFundamentalsUpTo.f k a0 a1 a2 a3 = some true
theorem laws_FnExactFundamentalsUpTo.walk (P : laws_FnExactFundamentalsUpTo.Pure) (a0 : Int) (a1 : Int) (a2 : Int) (a3 : Int) (w : World) (w0 : (Lit.int .i64 a0).wf = true) (w1 : (Lit.int .i64 a1).wf = true) (w2 : (Lit.int .i64 a2).wf = true) (w3 : (Lit.int .i64 a3).wf = true) :
  Calls Try.prog 8 #[.int .i64 a0, .int .i64 a1, .int .i64 a2, .int .i64 a3] w fun e w' => e = .returned (.bool true) ∧ Below w.heap.size w w' := by
 obtain ⟨k, h⟩ := P a0 a1 a2 a3 w0 w1 w2 w3
 refine (laws_FnExactFundamentalsUpTo.calls k a0 a1 a2 a3 true w h).mono ?_
 rintro e w' ⟨rfl, hd⟩
 exact ⟨rfl, hd⟩

end Go.Proofs.Ytfdjbcbhlfjogaa.P

-- UhuAll
namespace Go.Proofs.Ytfdjbcbhlfjogaa.P
open Go.RowKit Go.Proofs.YtfdjbcbhlfjogaaW.PrintWords Go.Proofs.YtfdjbcbhlfjogaaW.PrintLast
set_option linter.unusedVariables false
set_option linter.unusedSimpArgs false
def allL (f : Int → List (List Int)) : Nat → Int → List (List Int)
  | 0, _ => []
  | j + 1, n => f n ++ allL f j (n + 1)
def allS (a b : Int) : Nat → List Int → Int → List (List Int)
  | 0, x, _ => if huIs x a b = true then [x] else []
  | p + 1, x, m => allL (fun n => allS a b p (x ++ [n]) n) m.toNat 1
theorem allL_len (f : Int → List (List Int)) (B : Nat) (m : Int) (h : ∀ n, n ≤ m → (f n).length ≤ B) : ∀ (j : Nat) (n : Int), n + j ≤ m + 1 → (allL f j n).length ≤ j * B
  | 0, n, _ => by simp [allL]
  | j + 1, n, hn => by
    have h1 := h n (by omega)
    have h2 := allL_len f B m h j (n + 1) (by omega)
    rw [allL, List.length_append, Nat.succ_mul]
    omega
theorem allS_len (a b : Int) (p : Nat) : ∀ (x : List Int) (m : Int), m ≤ 40 → (allS a b p x m).length ≤ 40 ^ p := by
  induction p with
  | zero =>
    intro x m _
    unfold allS
    split <;> simp
  | succ p ih =>
    intro x m hm
    unfold allS
    by_cases h0 : m ≤ 0
    · rw [show m.toNat = 0 from by omega]
      simp [allL]
    · have h1 := allL_len (fun n => allS a b p (x ++ [n]) n) (40 ^ p) m (fun n hn => ih (x ++ [n]) n (by omega)) m.toNat 1 (by omega)
      refine Nat.le_trans h1 ?_
      rw [Nat.pow_succ, Nat.mul_comm (40 ^ p) 40]
      exact Nat.mul_le_mul_right _ (by omega)
theorem sol_step {a b : Int} (hg : huGv a b = true) (out : List (List Int)) (x : List Int) (hx : x.length ≤ 1000) (ho : out.length < 1000000000) : Ev (fun k => solStep k a b out x) (out ++ (if huIs x a b = true then [x] else [])) := by
  unfold solStep
  refine Ev.bind (isHurwitz_ev x a b hg) ?_
  cases h : huIs x a b with
  | false =>
    simp only [Bool.false_eq_true, if_false, List.append_nil]
    exact Ev.is rfl
  | true =>
    have e1 : slices_Clone_int_int.f x = some x := by
      unfold slices_Clone_int_int.f
      rw [if_pos (by omega)]
    simp only [if_true, e1, Option.bind_some, ho]
    exact Ev.is rfl
theorem fall_ev {a b : Int} (hg : huGv a b = true) (p : Nat) : ∀ (x : List Int) (m : Int) (out : List (List Int)), m ≤ 40 → x.length + p ≤ 1000 → out.length + 40 ^ p < 1000000000 → Ev (fun k => fallS (solStep k a b) p x m out) (out ++ allS a b p x m) := by
  induction p with
  | zero =>
    intro x m out _ hx ho
    exact sol_step hg out x (by omega) (by omega)
  | succ p ih =>
    intro x m out hm hx ho
    show Ev (fun k => fallL (fun s n => fallS (solStep k a b) p (x ++ [n]) n s) m.toNat 1 out) (out ++ allL (fun n => allS a b p (x ++ [n]) n) m.toNat 1)
    have key : ∀ (j : Nat) (n : Int) (o : List (List Int)), n + j ≤ 41 → o.length + j * 40 ^ p < 1000000000 → Ev (fun k => fallL (fun s n => fallS (solStep k a b) p (x ++ [n]) n s) j n o) (o ++ allL (fun n => allS a b p (x ++ [n]) n) j n) := by
      intro j
      induction j with
      | zero =>
        intro n o _ _
        simp only [allL, List.append_nil]
        exact Ev.is rfl
      | succ j ihj =>
        intro n o hn ho2
        rw [Nat.succ_mul] at ho2
        have h1 := ih (x ++ [n]) n o (by omega) (by rw [List.length_append, List.length_singleton]; omega) (by omega)
        have hl := allS_len a b p (x ++ [n]) n (by omega)
        have h2 := ihj (n + 1) (o ++ allS a b p (x ++ [n]) n) (by omega) (by rw [List.length_append]; omega)
        rw [allL, ← List.append_assoc]
        exact Ev.bind h1 h2
    by_cases h0 : m ≤ 0
    · rw [show m.toNat = 0 from by omega]
      exact key 0 1 out (by omega) (by have := Nat.one_le_pow p 40 (by decide); omega)
    · refine key m.toNat 1 out (by omega) ?_
      have h3 : m.toNat * 40 ^ p ≤ 40 ^ (p + 1) := by
        rw [Nat.pow_succ, Nat.mul_comm (40 ^ p) 40]
        exact Nat.mul_le_mul_right _ (by omega)
      omega
theorem huAll_ev {a b : Int} (hg : huGv a b = true) (p : Nat) : ∀ (x : List Int) (m : Int), m ≤ 40 → x.length + p ≤ 1000 → p ≤ 4 → Ev (fun k => spec_huAll.f k x (p : Int) a b m) (allS a b p x m) := by
  induction p with
  | zero =>
    intro x m _ hx _
    refine Ev.step (f := fun k => (spec_huGood.f k x a b).bind fun t214 => (if t214 = true then ((spec_l1Own.f x).bind fun t215 => (some (([t215] : List (List Int))))) else (some ([] : List (List Int))))) (fun k => by simp only [spec_huAll.f]; rw [if_pos (by rfl)]) ?_
    refine Ev.bind (huGood_ev x a b hg (by omega)) ?_
    unfold allS
    cases h : huIs x a b with
    | false =>
      simp only [Bool.false_eq_true, if_false]
      exact Ev.is rfl
    | true =>
      simp only [if_true, own_is x (by omega), Option.bind_some]
      exact Ev.is rfl
  | succ p ih =>
    intro x m hm hx hp
    have c0 : ¬ ((p + 1 : Nat) : Int) = 0 := by omega
    have wp : wrap64 (((p + 1 : Nat) : Int) - 1) = (p : Int) := by unfold wrap64; omega
    have hpow : 40 ^ p ≤ 2560000 := by
      have : 40 ^ p ≤ 40 ^ 4 := Nat.pow_le_pow_right (by decide) (by omega)
      simpa using this
    have key : ∀ (j : Nat) (n : Int) (o : List (List Int)), 1 ≤ n → n + j = m + 1 ∨ (j = 0 ∧ m < n) → n + j ≤ 41 → o.length + j * 40 ^ p < 1000000000 → Ev (fun k => spec_huAll.l0 k x ((p + 1 : Nat) : Int) a b m o n) (o ++ allL (fun n => allS a b p (x ++ [n]) n) j n) := by
      intro j
      induction j with
      | zero =>
        intro n o _ hn _ _
        have c1 : ¬ n ≤ m := by omega
        simp only [allL, List.append_nil]
        exact Ev.step (f := fun _ => some o) (fun k => by simp only [spec_huAll.l0, c1, if_false]) (Ev.is rfl)
      | succ j ihj =>
        intro n o hn1 hn hn2 ho2
        rw [Nat.succ_mul] at ho2
        have c1 : n ≤ m := by omega
        have h1 := ih (x ++ [n]) n (by omega) (by rw [List.length_append, List.length_singleton]; omega) (by omega)
        have hl := allS_len a b p (x ++ [n]) n (by omega)
        have h2 := ihj (n + 1) (o ++ allS a b p (x ++ [n]) n) (by omega) (by omega) (by omega) (by rw [List.length_append]; omega)
        have c2 : x.length < 17592186044416 := by omega
        have c3 : o.length + (allS a b p (x ++ [n]) n).length < 5864062014805 := by omega
        have w1 : wrap64 (n + 1) = n + 1 := by unfold wrap64; omega
        rw [allL, ← List.append_assoc]
        refine Ev.step (fun k => by simp only [spec_huAll.l0, c1, if_true, own_is x c2, Option.bind_some, c2, wp, w1]; rfl) (Ev.bind h1 ?_)
        simp only [c3, if_true]
        exact h2
    refine Ev.step (f := fun k => spec_huAll.l0 k x ((p + 1 : Nat) : Int) a b m [] 1) (fun k => by simp only [spec_huAll.f]; rw [if_neg c0]) ?_
    unfold allS
    by_cases h0 : m ≤ 0
    · rw [show m.toNat = 0 from by omega]
      exact key 0 1 [] (by omega) (by omega) (by omega) (by simp)
    · have h3 : m.toNat * 40 ^ p ≤ 40 * 40 ^ p := Nat.mul_le_mul_right _ (by omega)
      exact key m.toNat 1 [] (by omega) (by omega) (by omega) (by simp; omega)
/-- What is looked for. -/
def tried (a0 a1 a2 a3 : Int) : Bool := inB 3 4 a0 && huGv a1 a2 && inB 1 40 a3
def solsUp (a0 a1 a2 a3 : Int) : List (List Int) × Bool := if tried a0 a1 a2 a3 = true then (if ((allS a1 a2 a0.toNat [] a3).length : Int) > 500 then ([], false) else (allS a1 a2 a0.toNat [] a3, true)) else ([], false)
theorem parts_is {a0 a1 a2 a3 : Int} (h : tried a0 a1 a2 a3 = true) : (∃ p : Nat, a0 = (p : Int) ∧ 3 ≤ p ∧ p ≤ 4) ∧ huGv a1 a2 = true ∧ 1 ≤ a3 ∧ a3 ≤ 40 := by
  unfold tried at h
  simp only [Bool.and_eq_true, inB_iff] at h
  exact ⟨⟨a0.toNat, by omega, by omega, by omega⟩, h.1.2, h.2⟩
theorem spec_SolutionsUpTo_ev (a0 a1 a2 a3 : Int) : Ev (fun k => spec_SolutionsUpTo.f k a0 a1 a2 a3) (solsUp a0 a1 a2 a3) := by
  unfold spec_SolutionsUpTo.f solsUp
  have e : spec_huTask.f a0 a1 a2 a3 = some (tried a0 a1 a2 a3) := by
    unfold spec_huTask.f tried
    rw [l1In_inB, huGiven_is, l1In_inB]
    cases inB 3 4 a0 <;> cases huGv a1 a2 <;> rfl
  refine Ev.bind0 e ?_
  cases h : tried a0 a1 a2 a3 with
  | false =>
    simp only [Bool.false_eq_true, if_false]
    exact Ev.is rfl
  | true =>
    obtain ⟨⟨p, rfl, h1, h2⟩, hg, h3, h4⟩ := parts_is h
    simp only [if_true, Int.toNat_natCast]
    refine Ev.bind (huAll_ev hg p [] a3 h4 (by simp; omega) h2) ?_
    by_cases c : ((allS a1 a2 p [] a3).length : Int) > 500
    · simp only [c, if_true]
      exact Ev.is rfl
    · simp only [c, if_false]
      exact Ev.is rfl
theorem impl_SolutionsUpTo_ev (a0 a1 a2 a3 : Int) : Ev (fun k => impl_SolutionsUpTo.f k a0 a1 a2 a3) (solsUp a0 a1 a2 a3) := by
  unfold impl_SolutionsUpTo.f solsUp
  have e : impl_areTried.f a0 a2 a3 = some (inB 3 4 a0 && inB (-50) 50 a2 && inB 1 40 a3) := by
    unfold impl_areTried.f
    rw [within_inB, within_inB, within_inB]
    cases inB 3 4 a0 <;> cases inB (-50) 50 a2 <;> rfl
  have no : Ev (fun k => impl_SolutionsUpTo.j0 k a0 a1 a2 a3 true) (([] : List (List Int)), false) := Ev.step (f := fun _ => some (([] : List (List Int)), false)) (fun k => by simp only [impl_SolutionsUpTo.j0, if_true]) (Ev.is rfl)
  refine Ev.bind0 e ?_
  cases h : tried a0 a1 a2 a3 with
  | false =>
    simp only [Bool.false_eq_true, if_false]
    cases h2 : (inB 3 4 a0 && inB (-50) 50 a2 && inB 1 40 a3) with
    | false =>
      simp only [Bool.false_eq_true, if_false]
      exact no
    | true =>
      have hg : huGv a1 a2 = false := by
        unfold tried at h
        simp only [Bool.and_eq_true] at h2
        rw [h2.1.1, h2.2] at h
        simpa using h
      simp only [if_true]
      refine Ev.bind0 (areGiven_is a1 a2) ?_
      rw [hg]
      exact no
  | true =>
    obtain ⟨⟨p, rfl, h1, h2⟩, hg, h3, h4⟩ := parts_is h
    have hb : inB (-50) 50 a2 = true := by
      simp only [huGv, Bool.and_eq_true] at hg
      exact hg.2
    have h5 : (inB 3 4 (p : Int) && inB (-50) 50 a2 && inB 1 40 a3) = true := by
      rw [hb, inB_iff.2 ⟨by omega, by omega⟩, inB_iff.2 ⟨h3, h4⟩]
      rfl
    rw [h5]
    simp only [if_true, Int.toNat_natCast]
    refine Ev.bind0 (areGiven_is a1 a2) ?_
    rw [hg]
    have hpow : 40 ^ p < 1000000000 := by
      have : 40 ^ p ≤ 40 ^ 4 := Nat.pow_le_pow_right (by decide) (by omega)
      have e2 : 40 ^ 4 = 2560000 := by decide
      omega
    have c1 : 0 ≤ (p : Int) ∧ (p : Int) ≤ 900 ∧ a3 ≤ 1000000 := by omega
    have hf := fall_ev hg p [] a3 [] h4 (by simp; omega) (by simpa using hpow)
    refine Ev.step (fun k => by simp only [impl_SolutionsUpTo.j0, Bool.not_true, Bool.false_eq_true, if_false, impl_solutions.f, c1, and_self, if_true, Int.toNat_natCast]; rfl) (Ev.bind hf ?_)
    rw [List.nil_append]
    by_cases c : ((allS a1 a2 p [] a3).length : Int) > 500
    · simp only [c, if_true]
      exact Ev.is rfl
    · simp only [c, if_false]
      exact Ev.is rfl
theorem allL_mem (f : Int → List (List Int)) (u : List Int) : ∀ (j : Nat) (n : Int), u ∈ allL f j n → ∃ i : Int, n ≤ i ∧ i < n + j ∧ u ∈ f i
  | 0, n, h => by simp [allL] at h
  | j + 1, n, h => by
    rw [allL, List.mem_append] at h
    rcases h with h | h
    · exact ⟨n, by omega, by omega, h⟩
    · obtain ⟨i, h1, h2, h3⟩ := allL_mem f u j (n + 1) h
      exact ⟨i, by omega, by omega, h3⟩
theorem allS_is (a b : Int) (p : Nat) : ∀ (x : List Int) (m : Int) (u : List Int), u ∈ allS a b p x m → huIs u a b = true ∧ u.length = x.length + p := by
  induction p with
  | zero =>
    intro x m u hu
    unfold allS at hu
    split at hu
    · rename_i h
      rw [List.mem_singleton] at hu
      subst hu
      exact ⟨h, rfl⟩
    · simp at hu
  | succ p ih =>
    intro x m u hu
    obtain ⟨i, _, _, h⟩ := allL_mem _ u _ _ hu
    have := ih (x ++ [i]) i u h
    rw [List.length_append, List.length_singleton] at this
    exact ⟨this.1, by omega⟩
theorem solsUp_is {a0 a1 a2 a3 : Int} (u : List Int) (hu : u ∈ (solsUp a0 a1 a2 a3).1) : huGv a1 a2 = true ∧ huIs u a1 a2 = true := by
  unfold solsUp at hu
  split at hu
  · rename_i h
    split at hu
    · simp at hu
    · exact ⟨(parts_is h).2.1, (allS_is _ _ _ _ _ u hu).1⟩
  · simp at hu
theorem solsUp_len (a0 a1 a2 a3 : Int) : (solsUp a0 a1 a2 a3).1.length ≤ 500 := by
  unfold solsUp
  split
  · split
    · simp
    · show (allS a1 a2 a0.toNat [] a3).length ≤ 500
      omega
  · simp
def fundsUp (a0 a1 a2 a3 : Int) : List (List Int) × Bool := if (solsUp a0 a1 a2 a3).2 = true then ((solsUp a0 a1 a2 a3).1.filter (fun u => lastOf u a1), true) else ([], false)
theorem filtL_ev {a b : Int} (hg : huGv a b = true) : ∀ (us o : List (List Int)), (∀ u ∈ us, huIs u a b = true) → o.length + us.length < 1000000000 → Ev (fun k => filtL k a o us) (o ++ us.filter (fun u => lastOf u a))
  | [], o, _, _ => by
    rw [List.filter_nil, List.append_nil]
    exact ⟨0, fun k _ => rfl⟩
  | u :: us, o, h, hl => by
    rw [List.length_cons] at hl
    have h1 := (last_both hg (h u List.mem_cons_self)).1
    refine Ev.bind h1 ?_
    cases hu : lastOf u a with
    | false =>
      rw [List.filter_cons_of_neg (by rw [hu]; simp)]
      simp only [Bool.false_eq_true, if_false]
      exact filtL_ev hg us o (fun x hx => h x (List.mem_cons_of_mem _ hx)) (by omega)
    | true =>
      have c1 : o.length < 1000000000 := by omega
      rw [List.filter_cons_of_pos (p := fun u => lastOf u a) hu]
      simp only [if_true, c1]
      have := filtL_ev hg us (o ++ [u]) (fun x hx => h x (List.mem_cons_of_mem _ hx)) (by rw [List.length_append, List.length_singleton]; omega)
      rw [List.append_assoc] at this
      exact this
theorem impl_FundamentalsUpTo_ev (a0 a1 a2 a3 : Int) : Ev (fun k => impl_FundamentalsUpTo.f k a0 a1 a2 a3) (fundsUp a0 a1 a2 a3) := by
  unfold impl_FundamentalsUpTo.f fundsUp
  refine Ev.bind (impl_SolutionsUpTo_ev a0 a1 a2 a3) ?_
  have hlen := solsUp_len a0 a1 a2 a3
  have his := fun u hu => solsUp_is (a0 := a0) (a1 := a1) (a2 := a2) (a3 := a3) u hu
  have hg : (solsUp a0 a1 a2 a3).2 = true → huGv a1 a2 = true := by
    unfold solsUp
    split
    · rename_i h
      exact fun _ => (parts_is h).2.1
    · simp
  generalize solsUp a0 a1 a2 a3 = r at *
  cases hr : r.2 with
  | false =>
    simp only [Bool.false_eq_true, if_false]
    exact Ev.is rfl
  | true =>
    have c1 : r.1.length < 1000000000 := by omega
    simp only [if_true, c1]
    have := filtL_ev (hg hr) r.1 [] (fun u hu => (his u hu).2) (by simp; omega)
    exact Ev.bind this (Ev.is rfl)
theorem spec_filt {a b : Int} (hg : huGv a b = true) (L : List (List Int)) (hL : ∀ u ∈ L, huIs u a b = true) (hn : L.length ≤ 1000000) (d : Nat) : ∀ (i : Nat) (o : List (List Int)), i + d = L.length → o.length ≤ i → Ev (fun k => spec_FundamentalsUpTo.l0 k a o L (L.length : Int) (i : Int)) (o ++ (L.drop i).filter (fun u => lastOf u a), true) := by
  induction d with
  | zero =>
    intro i o hi ho
    have c1 : ¬ (i : Int) < (L.length : Int) := by omega
    rw [List.drop_of_length_le (by omega), List.filter_nil, List.append_nil]
    exact Ev.step (f := fun _ => some (o, true)) (fun k => by simp only [spec_FundamentalsUpTo.l0, c1, if_false]) (Ev.is rfl)
  | succ d ih =>
    intro i o hi ho
    have hil : i < L.length := by omega
    have c1 : (i : Int) < (L.length : Int) := by omega
    have c2 : (0 : Int) ≤ (i : Int) := by omega
    have c3 : o.length < 5864062014805 := by omega
    have g : rd_L1 L (i : Int) = L[i] := by
      unfold rd_L1
      rw [Int.toNat_natCast, List.getD_eq_getElem?_getD, List.getElem?_eq_getElem hil]
      rfl
    have w1 : wrap64 ((i : Int) + 1) = ((i + 1 : Nat) : Int) := w64_succ hil (by omega)
    have e1 := (last_both hg (hL _ (List.getElem_mem hil))).2
    rw [List.drop_eq_getElem_cons hil]
    refine Ev.step (fun k => by simp only [spec_FundamentalsUpTo.l0, c1, c2, g, w1, if_true]; rfl) (Ev.bind e1 ?_)
    cases hu : lastOf L[i] a with
    | false =>
      rw [List.filter_cons_of_neg (by rw [hu]; simp)]
      simp only [Bool.false_eq_true, if_false]
      exact ih (i + 1) o (by omega) (by omega)
    | true =>
      rw [List.filter_cons_of_pos (p := fun u => lastOf u a) hu]
      simp only [if_true, c3]
      have := ih (i + 1) (o ++ [L[i]]) (by omega) (by rw [List.length_append, List.length_singleton]; omega)
      rw [List.append_assoc] at this
      exact this
theorem spec_FundamentalsUpTo_ev (a0 a1 a2 a3 : Int) : Ev (fun k => spec_FundamentalsUpTo.f k a0 a1 a2 a3) (fundsUp a0 a1 a2 a3) := by
  unfold spec_FundamentalsUpTo.f fundsUp
  refine Ev.bind (spec_SolutionsUpTo_ev a0 a1 a2 a3) ?_
  have hlen := solsUp_len a0 a1 a2 a3
  have his := fun u hu => solsUp_is (a0 := a0) (a1 := a1) (a2 := a2) (a3 := a3) u hu
  have hg : (solsUp a0 a1 a2 a3).2 = true → huGv a1 a2 = true := by
    unfold solsUp
    split
    · rename_i h
      exact fun _ => (parts_is h).2.1
    · simp
  generalize solsUp a0 a1 a2 a3 = r at *
  cases hr : r.2 with
  | false =>
    simp only [Bool.false_eq_true, if_false]
    exact Ev.is rfl
  | true =>
    simp only [if_true]
    exact spec_filt (hg hr) r.1 (fun u hu => (his u hu).2) (by omega) r.1.length 0 [] (by omega) (by simp)
end Go.Proofs.Ytfdjbcbhlfjogaa.P

-- PureFnExactFundamentalsUpTo
namespace Go.Proofs.Ytfdjbcbhlfjogaa.Pure
set_option linter.unusedVariables false
set_option linter.unusedSimpArgs false
open Go.RowKit Go.Proofs.Ytfdjbcbhlfjogaa.P Go.Proofs.YtfdjbcbhlfjogaaW.PrintWords Go.Proofs.YtfdjbcbhlfjogaaW.PrintLast
theorem total_le (W : List (List Int)) (n : Nat) (h : ∀ x ∈ W, x.length ≤ n) : total W ≤ n * W.length := by
  induction W with
  | nil => simp [total]
  | cons x W ih =>
    have h1 := h x List.mem_cons_self
    have h2 := ih (fun y hy => h y (List.mem_cons_of_mem _ hy))
    simp only [total, List.length_cons, Nat.mul_succ]
    omega
theorem FnExactFundamentalsUpTo : laws_FnExactFundamentalsUpTo.Pure := by
  intro a0 a1 a2 a3 _ _ _ _
  refine Ev.rounds ?_
  unfold laws_FnExactFundamentalsUpTo.f
  have hr : (fundsUp a0 a1 a2 a3).1.length ≤ 1000000000000 ∧ total (fundsUp a0 a1 a2 a3).1 ≤ 1000000000000 := by
    have h1 := solsUp_len a0 a1 a2 a3
    unfold fundsUp
    split
    · have h3 := List.length_filter_le (fun u => lastOf u a1) (solsUp a0 a1 a2 a3).1
      have h2 := total_le ((solsUp a0 a1 a2 a3).1.filter (fun u => lastOf u a1)) 4 (fun x hx => (huIs_iff.1 (solsUp_is x (List.mem_filter.1 hx).1).2).1.2)
      simp only
      omega
    · simp [total]
  refine Ev.bind (spec_FundamentalsUpTo_ev a0 a1 a2 a3) (Ev.bind (impl_FundamentalsUpTo_ev a0 a1 a2 a3) ?_)
  simp only [hr, and_self, if_true]
  exact Ev.is rfl
end Go.Proofs.Ytfdjbcbhlfjogaa.Pure
