/- ModOrbit answers what the reference answers, for all lists and numbers; what it hands back is its own. No condition. -/
import Derived.Test.YthkmbkibceojlaaPackFnExactModOrbit5
import Derived.Deep.RegionHeld3
import Derived.Laws.Cover3
-- GmodOrbit
namespace Go.Proofs.Ythkmbkibceojlaa.P
open Go Go.Shelf Go.RowKit Go.Proofs.YthkmbkibceojlaaW.PrintWords Go.Proofs.YthkmbkibceojlaaW.PrintLast
set_option linter.unusedVariables false
set_option linter.unusedSimpArgs false

def goodT (u : List Int) : Bool := decide (u.length = 3) && u.all (fun n => decide (-1000000000 ≤ n) && decide (n ≤ 1000000000))
theorem goodT_is {u : List Int} (h : goodT u = true) : ∃ a b c, u = [a, b, c] ∧ (Lit.int .i64 a).wf = true ∧ (Lit.int .i64 b).wf = true ∧ (Lit.int .i64 c).wf = true := by
  unfold goodT at h
  rw [Bool.and_eq_true] at h
  have h1 := of_decide_eq_true h.1
  match u, h1 with
  | [a, b, c], _ =>
    have h2 := fun n hn => List.all_eq_true.1 h.2 n hn
    have wf : ∀ n, n ∈ [a, b, c] → (Lit.int .i64 n).wf = true := by
      intro n hn
      have h3 := h2 n hn
      rw [Bool.and_eq_true] at h3
      have h4 := of_decide_eq_true h3.1
      have h5 := of_decide_eq_true h3.2
      exact WalkArith.wf_i64 (by omega)
    exact ⟨a, b, c, rfl, wf a (by simp), wf b (by simp), wf c (by simp)⟩
def orbIn (p k : Int) : Nat → Int → List (List Int) → Option (List (List Int))
  | 0, _, o => some o
  | j + 1, i, o => (impl_modMoved.f p (rd_L1 o k) i).bind fun u => (if goodT u = true then (if u ∈ o then orbIn p k j (wrap64 (i + 1)) o else (if o.length < 1000000 then orbIn p k j (wrap64 (i + 1)) (o ++ [u]) else none)) else none)
def orbL (p : Int) : Nat → List (List Int) → Int → Option (List (List Int))
  | 0, _, _ => none
  | f + 1, o, k => if k < (o.length : Int) then (orbIn p k 3 0 o).bind fun o2 => orbL p f o2 (wrap64 (k + 1)) else some (sortDedup o)
theorem orbL_mono (p : Int) : ∀ f, (∀ o k, LeO (orbL p f o k) (orbL p (f + 1) o k))
  | 0 => fun _ _ r h => by simp [orbL] at h
  | f + 1 => by
    have ih0 := orbL_mono p f
    intro o k
    unfold orbL
    repeat' first
      | (with_reducible exact ih0 _ _)
      | (with_reducible exact LeO.refl _)
      | (with_reducible exact LeO.none _)
      | (with_reducible refine LeO.ite ?_ ?_)
      | (with_reducible refine LeO.bind ?_ (fun _ => ?_))
def impl_ModOrbit.f (k : Nat) (a0 : Int) (l0 : List Int) : Option (List (List Int) × Bool) := (impl_isModulus.f k a0).bind fun t1 => (if t1 = true then ((impl_isMod.f a0 l0).bind fun t2 => (if t2 = true then (if goodT l0 = true then ((slices_Clone_int_int.f l0).bind fun l1 => (orbL a0 k [l1] 0).bind fun r => some (r, true)) else none) else some ([], false))) else some ([], false))
theorem impl_ModOrbit.mono : ∀ a0 a1 k, LeO (impl_ModOrbit.f k a0 a1) (impl_ModOrbit.f (k + 1) a0 a1) := by
  intro a0 a1 k
  unfold impl_ModOrbit.f
  repeat' first
    | (with_reducible exact impl_isModulus.mono _ _)
    | (with_reducible exact orbL_mono _ _ _ _)
    | (with_reducible exact LeO.refl _)
    | (with_reducible exact LeO.none _)
    | (with_reducible refine LeO.ite ?_ ?_)
    | (with_reducible refine LeO.bind ?_ (fun _ => ?_))
theorem row3_at {w : World} {A : Option Addr} {x y z : Int} (h : Kd.C (Kd.int .i64) w A [x, y, z].length [x, y, z]) : ∃ ad, A = some ad ∧ w.cell? ad = some (.int .i64 x) ∧ w.cell? ⟨ad.block, ad.off + 1, none⟩ = some (.int .i64 y) ∧ w.cell? ⟨ad.block, ad.off + 2, none⟩ = some (.int .i64 z) := by
  obtain ⟨ad, e, h0⟩ := Kd.at_int h 0 (by omega) (by simp)
  obtain ⟨ad1, e1, h1⟩ := Kd.at_int h 1 (by omega) (by simp)
  obtain ⟨ad2, e2, h2⟩ := Kd.at_int h 2 (by omega) (by simp)
  cases e
  obtain rfl : ad = ad1 := by injection e1
  obtain rfl : ad = ad2 := by injection e2
  exact ⟨ad, rfl, by simpa [Addr.add, rd] using h0, h1, h2⟩
theorem below_grown_far {w W W' : World} {B : Nat} (hb : Below w.heap.size w W) (hg : W.grownBy W' (some B)) (hB : w.heap.size ≤ B) : Below w.heap.size w W' :=
  ⟨hg.os.trans hb.os, hg.tape.trans hb.tape, hg.output.trans hb.output, Nat.le_trans hb.size hg.size, fun k hk => (hg.block k (by have := hb.size; omega) (fun e => by injection e with e; omega)).trans (hb.block k hk)⟩
theorem compare_enters : ∀ args w, (callFunc 78 args).run Try.prog w = .ok (.enter 78 args) w := fun args w => enters_of Try.func78 (by kernel_rfl) rfl args w
theorem compare_at (W : World) (A B : Option Addr) (c c' : Nat) (x y : List Int) (hx : x.length < 9223372036854775807) (hy : y.length < 9223372036854775807) (h1 : Kd.C (Kd.int .i64) W A x.length x) (h2 : x.length ≤ c) (h3 : Kd.C (Kd.int .i64) W B y.length y) (h4 : y.length ≤ c') : Calls Try.prog 78 (#[.slice A x.length c, .slice B y.length c'] ++ #[]) W fun e w' => e = .returned (.int .i64 (cmpL x y)) ∧ Drawn0 W w' :=
  slices_Compare_int_int.calls (x.length + 1) A c x B c' y (cmpL x y) W h1 h2 h3 h4 (compare_ev x y hx)
theorem orb_sorted {o ys : List (List Int)} (hn : o.Nodup) (hp : ys.Perm o) (hs : ys.Pairwise fun a b => 0 ≤ cmpL b a) : ys = sortDedup o := by
  refine sortDedup_is ?_ (fun z => hp.mem_iff)
  have h2 : ys.Nodup := hp.nodup_iff.2 hn
  refine (hs.and h2).imp ?_
  rintro a b ⟨h3, h4⟩
  have h5 := cmpL_anti a b
  have h6 : cmpL a b ≠ 0 := fun e => h4 (cmpL_eq a b e)
  omega
set_option maxHeartbeats 4000000 in
set_option maxRecDepth 100000 in
theorem impl_ModOrbit.calls (k : Nat) (a0 : Int) (A0 : Option Addr) (c0 : Nat) (l0 : List Int) (r1 : List (List Int)) (r2 : Bool) (w : World) (hr0 : Kd.C (Kd.int .i64) w A0 l0.length l0) (hc0 : l0.length ≤ c0) (h : impl_ModOrbit.f k a0 l0 = some (r1, r2)) :
    Calls Try.prog 37 #[.int .i64 a0, .slice A0 l0.length c0] w fun e w' => ∃ v0_ : Value, e = .returned (.tuple #[v0_, .bool r2]) ∧ Kd.S (Kd.slice 3 (Kd.int .i64)) 22 w' w.heap.size (fun _ => True) v0_ r1 ∧ Below w.heap.size w w' := by
  unfold impl_ModOrbit.f at h
  obtain ⟨t, A3, h⟩ := Option.bind_eq_some_iff.mp h
  have HR0 := Aside0.mk hr0
  have HC0 := Aside0.mk hc0
  have HB := Aside0.mk (Below.refl w.heap.size w)
  have HA3 := Aside0.mk A3
  clear hr0 hc0 A3
  cases t with
  | false =>
    obtain ⟨rfl, rfl⟩ : ([] : List (List Int)) = r1 ∧ false = r2 := by simpa using h
    clear h
    go_enter Try.func37, Try.ntmps37
    go_wp2_with (go_at_call 64; refine (impl_isModulus.calls k a0 false _ HA3.out).mono ?_; rintro e w' ⟨rfl, ⟨nd1, rfl⟩⟩)
    go_ret2
    exact ⟨_, rfl, Kd.S_nil _ _ _ _ _, (by repeat (first | (with_reducible first | exact HB.out | apply below_alloc | apply pw_below_drewN | apply below_drew1) | exact HB.out))⟩
  | true =>
    replace h : ((impl_isMod.f a0 l0).bind fun t2 => (if t2 = true then (if goodT l0 = true then ((slices_Clone_int_int.f l0).bind fun l1 => (orbL a0 k [l1] 0).bind fun r => some (r, true)) else none) else some ([], false))) = some (r1, r2) := by simpa using h
    obtain ⟨t2, A4, h⟩ := Option.bind_eq_some_iff.mp h
    have HA4 := Aside0.mk A4
    clear A4
    cases t2 with
    | false =>
      obtain ⟨rfl, rfl⟩ : ([] : List (List Int)) = r1 ∧ false = r2 := by simpa using h
      clear h
      go_enter Try.func37, Try.ntmps37
      go_wp2_with (first
        | (go_at_call 64; refine (impl_isModulus.calls k a0 true _ HA3.out).mono ?_; rintro e w' ⟨rfl, ⟨nd1, rfl⟩⟩)
        | (go_at_call 65; refine (impl_isMod.calls a0 A0 c0 l0 false _ (by repeat (first | exact (Kd.C_below HR0.out HB.out) | (with_reducible refine Kd.C_alloc ?_ _) | (with_reducible refine Kd.C_drewN ?_ _) | (with_reducible refine Kd.C_drew ?_))) HC0.out HA4.out).mono ?_; rintro e w5 ⟨rfl, hb⟩; have n2_ := Aside0.mk (below_step (by repeat (first | (with_reducible first | exact HB.out | apply below_alloc | apply pw_below_drewN | apply below_drew1) | exact HB.out)) hb); clear HB hb; have HB := n2_; clear n2_))
      go_ret2
      exact ⟨_, rfl, Kd.S_nil _ _ _ _ _, (by repeat (first | (with_reducible first | exact HB.out | apply below_alloc | apply pw_below_drewN | apply below_drew1) | exact HB.out))⟩
    | true =>
      replace h : (if goodT l0 = true then ((slices_Clone_int_int.f l0).bind fun l1 => (orbL a0 k [l1] 0).bind fun r => some (r, true)) else none) = some (r1, r2) := by simpa using h
      by_cases c1 : goodT l0 = true
      · rw [if_pos c1] at h
        obtain ⟨a, b, c, rfl, wa, wb, wc⟩ := goodT_is c1
        obtain ⟨l1, A5, h⟩ := Option.bind_eq_some_iff.mp h
        obtain ⟨r, A6, h⟩ := Option.bind_eq_some_iff.mp h
        obtain ⟨rfl, rfl⟩ : r = r1 ∧ true = r2 := by simpa using h
        have HE : Aside0 (l1 = [a, b, c]) := ⟨by
          have h2 := A5
          unfold slices_Clone_int_int.f at h2
          split at h2
          · exact (Option.some.inj h2).symm
          · simp at h2⟩
        have HA5 := Aside0.mk A5
        have H' := Aside0.mk A6
        have HWF := Aside0.mk (And.intro wa (And.intro wb wc))
        obtain ⟨ad1, e1, hx0⟩ := Kd.at_int HR0.out 0 (by omega) (by simp)
        cases e1
        obtain ⟨ad2, e2, hx1⟩ := Kd.at_int HR0.out 1 (by omega) (by simp)
        obtain rfl : ad1 = ad2 := by injection e2
        obtain ⟨ad3, e3, hx2⟩ := Kd.at_int HR0.out 2 (by omega) (by simp)
        obtain rfl : ad1 = ad3 := by injection e3
        have HX0 : Aside0 (w.cell? ad1 = some (.int .i64 a)) := ⟨by simpa [Addr.add, rd] using hx0⟩
        have HX1 : Aside0 (w.cell? (ad1.add 1) = some (.int .i64 b)) := ⟨by simpa [rd] using hx1⟩
        have HX2 : Aside0 (w.cell? (ad1.add 2) = some (.int .i64 c)) := ⟨by simpa [rd] using hx2⟩
        clear h A5 A6 c1 hx0 hx1 hx2 e2 e3
        go_enter Try.func37, Try.ntmps37
        go_upto_region 3 with (first
          | (go_at_call 64; refine (impl_isModulus.calls k a0 true _ HA3.out).mono ?_; rintro e w' ⟨rfl, ⟨nd1, rfl⟩⟩)
          | (go_at_call 65; refine (impl_isMod.calls a0 _ c0 [a, b, c] true _ (by repeat (first | exact (Kd.C_below HR0.out HB.out) | (with_reducible refine Kd.C_alloc ?_ _) | (with_reducible refine Kd.C_drewN ?_ _) | (with_reducible refine Kd.C_drew ?_))) HC0.out HA4.out).mono ?_; rintro e w5 ⟨rfl, hb⟩; have n2_ := Aside0.mk (below_step (by repeat (first | (with_reducible first | exact HB.out | apply below_alloc | apply pw_below_drewN | apply below_drew1) | exact HB.out)) hb); clear HB hb; have HB := n2_; clear n2_))
        (try simp only [Act.put, List.setIfInBounds_toArray, List.set_cons_zero, List.set_cons_succ])
        go_cut [6, 7] (fun v6 v7 wc => ∃ B : Nat, v7 = .map (some B) ∧ Aside0 (w.heap.size ≤ B) ∧ Aside0 (Met wc B [l1]) ∧ Aside0 (Kd.S (Kd.slice 3 (Kd.int .i64)) 22 wc w.heap.size (fun k_ => k_ ≠ B) v6 [l1]) ∧ Aside0 (Below w.heap.size w wc))
        case first =>
          have hY0 := pw_cell_below HB.out HX0.out
          have hY1 : _ = some (Value.int .i64 b) := pw_cell_below HB.out HX1.out
          have hY2 : _ = some (Value.int .i64 c) := pw_cell_below HB.out HX2.out
          rw [show ad1.add 1 = ⟨ad1.block, ad1.off + 1, none⟩ from rfl] at hY1
          rw [show ad1.add 2 = ⟨ad1.block, ad1.off + 2, none⟩ from rfl] at hY2
          have hX0 : ∀ W : World, Below w.heap.size w W → W.cell? ad1 = some (Value.int .i64 a) := fun W hb => pw_cell_below hb HX0.out
          have hX1 : ∀ W : World, Below w.heap.size w W → W.cell? ⟨ad1.block, ad1.off + 1, none⟩ = some (Value.int .i64 b) := fun W hb => pw_cell_below hb HX1.out
          have hX2 : ∀ W : World, Below w.heap.size w W → W.cell? ⟨ad1.block, ad1.off + 2, none⟩ = some (Value.int .i64 c) := fun W hb => pw_cell_below hb HX2.out
          have hsl : ∀ (W : World), (Instr.arrayAt 69 (.slice (some ad1) 3 c0)).run Try.prog W = .ok (.pointer (some ad1)) W := fun W => run_arrayAt (P := Try.prog) (w := W) (arr := 69) (e := 3) (n := 3) (a := some ad1) (len := 3) (cap := c0) Try.underlying69 (Nat.le_refl _)
          refine wp_region_noPanic ?_
          refine wp_region_held_drew (S := fun w' => Below w.heap.size w w') (by kernel_rfl) (below_drew1 HB.out) (fun hHeld => ?_)
          have HB2 := Aside0.mk (below_drew1 HB.out)
          clear HB
          have HB := HB2
          clear HB2
          revert hHeld HB
          generalize World.drew _ = W0
          intro hHeld HB
          refine wpAnyH_take (i := 0) (oi := { dst := some 20, op := Op.move (Operand.tmp 1), type := 22, pos := "l2_markov.go:255", after := #[], guard := none }) (v := ?_) rfl (by kernel_rfl) (by kernel_rfl) (by kernel_rfl) (fun _ _ _ h => h) (Or.inl ⟨by rfl, ?_⟩) (by assumption) ?_
          rotate_left
          · (intro W hSW; go_simp; first | done | with_reducible rfl)
          (try simp only [Act.put, List.setIfInBounds_toArray, List.set_cons_zero, List.set_cons_succ])
          refine wpAnyH_take (i := 4) (oi := { dst := some 24, op := Op.move (Operand.tmp 1), type := 22, pos := "l2_markov.go:255", after := #[{ on := 9, ground := Ground.gcOnly Departure.lateStores }], guard := none }) (v := ?_) rfl (by kernel_rfl) (by kernel_rfl) (by kernel_rfl) (fun _ _ _ h => h) (Or.inl ⟨by rfl, ?_⟩) (by assumption) ?_
          rotate_left
          · (intro W hSW; go_simp; first | done | with_reducible rfl)
          (try simp only [Act.put, List.setIfInBounds_toArray, List.set_cons_zero, List.set_cons_succ])
          refine wpAnyH_take (i := 5) (oi := { dst := some 25, op := Op.sliceToArrayPointer 69 (Operand.tmp 24), type := 0, pos := "l2_markov.go:255", after := #[{ on := 4, ground := Ground.data }, { on := 9, ground := Ground.gcOnly Departure.lateStores }], guard := none }) (v := ?_) rfl (by kernel_rfl) (by kernel_rfl) (by kernel_rfl) (fun _ _ _ h => h) (Or.inl ⟨by rfl, ?_⟩) (by assumption) ?_
          rotate_left
          · (intro W hSW; go_simp; first | done | with_reducible rfl)
          (try simp only [Act.put, List.setIfInBounds_toArray, List.set_cons_zero, List.set_cons_succ])
          refine wpAnyH_take (i := 6) (oi := { dst := some 26, op := Op.load 69 (Operand.tmp 25), type := 69, pos := "l2_markov.go:255", after := #[{ on := 5, ground := Ground.data }, { on := 9, ground := Ground.gcOnly Departure.lateStores }], guard := none }) (v := ?_) rfl (by kernel_rfl) (by kernel_rfl) (by kernel_rfl) (fun _ _ _ h => h) (Or.inl ⟨by rfl, ?_⟩) (by assumption) ?_
          rotate_left
          · (intro W hSW; have h0_ := hX0 W hSW; have h1_ := hX1 W hSW; have h2_ := hX2 W hSW; go_simp; first | done | with_reducible rfl)
          (try simp only [Act.put, List.setIfInBounds_toArray, List.set_cons_zero, List.set_cons_succ])
          refine wpAnyH_ready (rs := [1, 3]) (by kernel_rfl) (by simp) ?_
          refine AllReadyH.cons (o := { dst := some 21, op := Op.call { callee := Callee.value (Operand.func 75), args := #[Operand.tmp 20], argTypes := #[22] }, type := 22, pos := "l2_markov.go:255", after := #[{ on := 0, ground := Ground.data }], guard := none }) rfl (fun K hK => ?_) ?_
          · have HW_ : Aside0 (W0 = W0) := ⟨rfl⟩
            refine goes_ Try.func75 (by kernel_rfl) rfl #[.slice (some ad1) 3 c0] (by rfl) rfl rfl (by (try simp only [List.map_toArray, List.map_cons, List.map_nil]); first | done | rfl) ?_
            refine (slices_Clone_int_int.calls _ c0 [a, b, c] l1 _ (Kd.C_below HR0.out HB.out) HC0.out HA5.out).mono ?_
            rintro e W0c ⟨v6, rfl, ho6, hb6⟩
            refine ⟨_, rfl, ?_⟩
            have HB_ := Aside0.mk (below_step HB.out hb6)
            have HO : Aside0 (Kd.R (Kd.int .i64) 3 W0c w.heap.size (fun _ => True) v6 l1) := ⟨Kd.R_mono (Kd.R_lower ho6 (below_size HB.out)) (fun _ _ => trivial)⟩
            obtain ⟨A6, c6, e6⟩ := Kd.R_slice HO.out
            subst e6
            refine hK.out _ _ HB_.out (fun hH => ?_)
            (try simp only [Act.put, List.setIfInBounds_toArray, List.set_cons_zero, List.set_cons_succ])
            clear hK K hHeld
            have hHeld := HB_.out
            clear HB; have HB := HB_; clear HB_
            refine wpAnyH_ready (rs := [2, 3]) (by kernel_rfl) (by simp) ?_
            refine AllReadyH.cons (o := { dst := some 22, op := Op.buildSlice 39 1 #[(0, Operand.tmp 21)], type := 39, pos := "l2_markov.go:255", after := #[{ on := 1, ground := Ground.data }], guard := none }) rfl (fun K hK => ?_) ?_
            · have HW_ : Aside0 (W0c = W0c) := ⟨rfl⟩
              refine Kd.S_lits_step (Kd.slice 3 (Kd.int .i64)) (w0 := w) w.heap.size 22 (by rfl) (N := 22) rfl (xs := [l1]) (inner := [.slice A6 l1.length c6]) (ok := (fun _ => True)) (fun j k_ => j = 0 ∧ some k_ = (Value.slice A6 l1.length c6).ownBlock) ?hr rfl ?hp ?ha (fun _ _ _ => trivial) trivial HB.out (below_size HB.out) (by simp) ?_
              case hr => first | (go_simp; done) | (go_simp; rfl)
              case hp => (intro j x hj; match j, hj with | 0, hj => (obtain rfl : l1 = x := by simpa using hj); exact ⟨_, rfl, Kd.R_mono (Kd.R_tight rfl HO.out) (fun k_ hk => ⟨rfl, hk⟩)⟩)
              case ha => (rintro i j k_ ⟨rfl, _⟩ ⟨rfl, _⟩; rfl)
              intro v2 W0cs ho hb hg hat
              have HB_ := Aside0.mk hb
              have HS := Aside0.mk ho
              refine hK.out _ _ HB_.out (fun hH => ?_)
              (try simp only [Act.put, List.setIfInBounds_toArray, List.set_cons_zero, List.set_cons_succ])
              clear hK K hHeld
              have hHeld := HB_.out
              clear HB; have HB := HB_; clear HB_
              refine wpAnyH_take (i := 9) (oi := { dst := some 6, op := Op.assign (Operand.tmp 22), type := 39, pos := "l2_markov.go:255", after := #[{ on := 2, ground := Ground.data }, { on := 1, ground := Ground.chain }, { on := 0, ground := Ground.phase }, { on := 1, ground := Ground.phase }, { on := 2, ground := Ground.phase }, { on := 3, ground := Ground.textOnly Departure.lateStoresUnsure }, { on := 4, ground := Ground.textOnly Departure.lateStores }, { on := 5, ground := Ground.textOnly Departure.lateStores }, { on := 6, ground := Ground.textOnly Departure.lateStores }, { on := 7, ground := Ground.textOnly Departure.lateStores }, { on := 8, ground := Ground.textOnly Departure.lateStores }], guard := none }) (v := ?_) rfl (by kernel_rfl) (by kernel_rfl) (by kernel_rfl) (fun _ _ _ h => h) (Or.inl ⟨by rfl, ?_⟩) (by assumption) ?_
              rotate_left
              · (intro W hSW; go_simp; first | done | with_reducible rfl)
              (try simp only [Act.put, List.setIfInBounds_toArray, List.set_cons_zero, List.set_cons_succ])
              refine wpAnyH_ready (rs := [3]) (by kernel_rfl) (by simp) ?_
              refine AllReadyH.cons (o := { dst := some 23, op := Op.makeMap 70 none, type := 70, pos := "l2_markov.go:255", after := #[], guard := none }) rfl (fun K hK => ?_) ?_
              · have HW_ : Aside0 (W0cs = W0cs) := ⟨rfl⟩
                go_simp
                have HB_ := Aside0.mk (below_alloc HB.out (.map #[] 0))
                have HM := Aside0.mk (met_new W0cs)
                have HBB := Aside0.mk (below_size HB.out)
                have HS_ : Aside0 (Kd.S (Kd.slice 3 (Kd.int .i64)) 22 _ w.heap.size (fun k_ => k_ ≠ W0cs.heap.size) _ [l1]) := Aside0.mk (Kd.S_alloc (Kd.S_mono (Kd.S_bound HS.out) (fun k_ hk_ => by have h1_ := hk_.2.2.1; omega)) (.map #[] 0))
                refine hK.out _ (W0cs.alloc (.map #[] 0)) HB_.out (fun hH => ?_)
                (try simp only [Act.put, List.setIfInBounds_toArray, List.set_cons_zero, List.set_cons_succ])
                clear hK K hHeld
                have hHeld := HB_.out
                clear HB; have HB := HB_; clear HB_
                clear HS; have HS := HS_; clear HS_
                clear hHeld hH
                revert HM HBB HB HS
                generalize W0cs.alloc (.map #[] 0) = W0csm
                generalize W0cs.heap.size = B
                intro HM HBB HB HS
                have hHeld := HB.out
                refine wpAnyH_ready (rs := [7]) (by kernel_rfl) (by simp) ?_
                refine AllReadyH.cons (o := { dst := none, op := Op.insert 70 (Operand.tmp 23) (Operand.tmp 26) (Operand.const (Value.bool true)), type := 0, pos := "l2_markov.go:255", after := #[{ on := 3, ground := Ground.data }, { on := 6, ground := Ground.data }, { on := 9, ground := Ground.gcOnly Departure.lateStores }], guard := none }) rfl (fun K hK => ?_) ?_
                · have HW_ : Aside0 (W0csm = W0csm) := ⟨rfl⟩
                  obtain ⟨W0csmp, hrun_, hmet_, hg_⟩ := met_put HM.out (by simp) wa wb wc
                  go_simp
                  have HB_ := Aside0.mk (below_grown_far HB.out hg_ HBB.out)
                  have HM_ : Aside0 (Met W0csmp B [l1]) := ⟨by rw [HE.out]; exact hmet_⟩
                  have HS_ := Aside0.mk (Kd.S_step HS.out (fun k_ hk_ hl_ => hg_.block k_ hl_ (fun e_ => hk_ (Option.some.inj e_))))
                  refine hK.out _ _ HB_.out (fun hH => ?_)
                  (try simp only [Act.put, List.setIfInBounds_toArray, List.set_cons_zero, List.set_cons_succ])
                  clear hK K hHeld
                  have hHeld := HB_.out
                  clear HB; have HB := HB_; clear HB_
                  clear HM; have HM := HM_; clear HM_
                  clear HS; have HS := HS_; clear HS_
                  refine wpAnyH_take (i := 8) (oi := { dst := some 27, op := Op.move (Operand.tmp 23), type := 70, pos := "l2_markov.go:255", after := #[{ on := 3, ground := Ground.data }, { on := 4, ground := Ground.data }, { on := 5, ground := Ground.data }, { on := 6, ground := Ground.data }, { on := 7, ground := Ground.data }, { on := 9, ground := Ground.gcOnly Departure.lateStores }], guard := none }) (v := ?_) rfl (by kernel_rfl) (by kernel_rfl) (by kernel_rfl) (fun _ _ _ h => h) (Or.inl ⟨by rfl, ?_⟩) (by assumption) ?_
                  rotate_left
                  · (intro W hSW; go_simp; first | done | with_reducible rfl)
                  (try simp only [Act.put, List.setIfInBounds_toArray, List.set_cons_zero, List.set_cons_succ])
                  refine wpAnyH_take (i := 10) (oi := { dst := some 7, op := Op.assign (Operand.tmp 27), type := 70, pos := "l2_markov.go:255", after := #[{ on := 8, ground := Ground.data }, { on := 9, ground := Ground.chain }, { on := 0, ground := Ground.phase }, { on := 1, ground := Ground.phase }, { on := 2, ground := Ground.phase }, { on := 3, ground := Ground.phase }, { on := 4, ground := Ground.phase }, { on := 5, ground := Ground.phase }, { on := 6, ground := Ground.phase }, { on := 7, ground := Ground.phase }, { on := 8, ground := Ground.phase }, { on := 9, ground := Ground.phase }], guard := none }) (v := ?_) rfl (by kernel_rfl) (by kernel_rfl) (by kernel_rfl) (fun _ _ _ h => h) (Or.inl ⟨by rfl, ?_⟩) (by assumption) ?_
                  rotate_left
                  · (intro W hSW; go_simp; first | done | with_reducible rfl)
                  (try simp only [Act.put, List.setIfInBounds_toArray, List.set_cons_zero, List.set_cons_succ])
                  refine wpAnyH_done (by kernel_rfl) ?_ _
                  refine NoPanic.normal ?_
                  go_wp2
                  go_meet
                  case rel => exact ⟨B, rfl, HBB, HM, HS, HB⟩
                exact AllReadyH.nil
              exact AllReadyH.nil
            refine AllReadyH.cons (o := { dst := some 23, op := Op.makeMap 70 none, type := 70, pos := "l2_markov.go:255", after := #[], guard := none }) rfl (fun K hK => ?_) ?_
            · have HW_ : Aside0 (W0c = W0c) := ⟨rfl⟩
              go_simp
              have HB_ := Aside0.mk (below_alloc HB.out (.map #[] 0))
              have HM := Aside0.mk (met_new W0c)
              have HBB := Aside0.mk (below_size HB.out)
              have HO_ : Aside0 (Kd.R (Kd.int .i64) 3 _ w.heap.size (fun k_ => k_ ≠ W0c.heap.size) _ l1) := Aside0.mk (Kd.R_alloc (Kd.R_mono (Kd.R_bound HO.out) (fun k_ hk_ => by have h1_ := hk_.2.2.1; omega)) (.map #[] 0))
              refine hK.out _ (W0c.alloc (.map #[] 0)) HB_.out (fun hH => ?_)
              (try simp only [Act.put, List.setIfInBounds_toArray, List.set_cons_zero, List.set_cons_succ])
              clear hK K hHeld
              have hHeld := HB_.out
              clear HB; have HB := HB_; clear HB_
              clear HO; have HO := HO_; clear HO_
              clear hHeld hH
              revert HM HBB HB HO
              generalize W0c.alloc (.map #[] 0) = W0cm
              generalize W0c.heap.size = B
              intro HM HBB HB HO
              have hHeld := HB.out
              refine wpAnyH_ready (rs := [2, 7]) (by kernel_rfl) (by simp) ?_
              refine AllReadyH.cons (o := { dst := some 22, op := Op.buildSlice 39 1 #[(0, Operand.tmp 21)], type := 39, pos := "l2_markov.go:255", after := #[{ on := 1, ground := Ground.data }], guard := none }) rfl (fun K hK => ?_) ?_
              · have HW_ : Aside0 (W0cm = W0cm) := ⟨rfl⟩
                refine Kd.S_lits_step (Kd.slice 3 (Kd.int .i64)) (w0 := w) w.heap.size 22 (by rfl) (N := 22) rfl (xs := [l1]) (inner := [.slice A6 l1.length c6]) (ok := (fun k_ => k_ ≠ B)) (fun j k_ => j = 0 ∧ some k_ = (Value.slice A6 l1.length c6).ownBlock) ?hr rfl ?hp ?ha (fun j_ k_ hk_ => (HO.out.1 k_ hk_.2.symm)) (by have h2_ := HM.out.lt; omega) HB.out (below_size HB.out) (by simp) ?_
                case hr => first | (go_simp; done) | (go_simp; rfl)
                case hp => (intro j x hj; match j, hj with | 0, hj => (obtain rfl : l1 = x := by simpa using hj); exact ⟨_, rfl, Kd.R_mono (Kd.R_tight rfl HO.out) (fun k_ hk => ⟨rfl, hk⟩)⟩)
                case ha => (rintro i j k_ ⟨rfl, _⟩ ⟨rfl, _⟩; rfl)
                intro v2 W0cms ho hb hg hat
                have HB_ := Aside0.mk hb
                have HS := Aside0.mk ho
                have HM_ := Aside0.mk (HM.out.kept hg (by simp))
                refine hK.out _ _ HB_.out (fun hH => ?_)
                (try simp only [Act.put, List.setIfInBounds_toArray, List.set_cons_zero, List.set_cons_succ])
                clear hK K hHeld
                have hHeld := HB_.out
                clear HB; have HB := HB_; clear HB_
                clear HM; have HM := HM_; clear HM_
                refine wpAnyH_take (i := 9) (oi := { dst := some 6, op := Op.assign (Operand.tmp 22), type := 39, pos := "l2_markov.go:255", after := #[{ on := 2, ground := Ground.data }, { on := 1, ground := Ground.chain }, { on := 0, ground := Ground.phase }, { on := 1, ground := Ground.phase }, { on := 2, ground := Ground.phase }, { on := 3, ground := Ground.textOnly Departure.lateStoresUnsure }, { on := 4, ground := Ground.textOnly Departure.lateStores }, { on := 5, ground := Ground.textOnly Departure.lateStores }, { on := 6, ground := Ground.textOnly Departure.lateStores }, { on := 7, ground := Ground.textOnly Departure.lateStores }, { on := 8, ground := Ground.textOnly Departure.lateStores }], guard := none }) (v := ?_) rfl (by kernel_rfl) (by kernel_rfl) (by kernel_rfl) (fun _ _ _ h => h) (Or.inl ⟨by rfl, ?_⟩) (by assumption) ?_
                rotate_left
                · (intro W hSW; go_simp; first | done | with_reducible rfl)
                (try simp only [Act.put, List.setIfInBounds_toArray, List.set_cons_zero, List.set_cons_succ])
                refine wpAnyH_ready (rs := [7]) (by kernel_rfl) (by simp) ?_
                refine AllReadyH.cons (o := { dst := none, op := Op.insert 70 (Operand.tmp 23) (Operand.tmp 26) (Operand.const (Value.bool true)), type := 0, pos := "l2_markov.go:255", after := #[{ on := 3, ground := Ground.data }, { on := 6, ground := Ground.data }, { on := 9, ground := Ground.gcOnly Departure.lateStores }], guard := none }) rfl (fun K hK => ?_) ?_
                · have HW_ : Aside0 (W0cms = W0cms) := ⟨rfl⟩
                  obtain ⟨W0cmsp, hrun_, hmet_, hg_⟩ := met_put HM.out (by simp) wa wb wc
                  go_simp
                  have HB_ := Aside0.mk (below_grown_far HB.out hg_ HBB.out)
                  have HM_ : Aside0 (Met W0cmsp B [l1]) := ⟨by rw [HE.out]; exact hmet_⟩
                  have HS_ := Aside0.mk (Kd.S_step HS.out (fun k_ hk_ hl_ => hg_.block k_ hl_ (fun e_ => hk_ (Option.some.inj e_))))
                  refine hK.out _ _ HB_.out (fun hH => ?_)
                  (try simp only [Act.put, List.setIfInBounds_toArray, List.set_cons_zero, List.set_cons_succ])
                  clear hK K hHeld
                  have hHeld := HB_.out
                  clear HB; have HB := HB_; clear HB_
                  clear HM; have HM := HM_; clear HM_
                  clear HS; have HS := HS_; clear HS_
                  refine wpAnyH_take (i := 8) (oi := { dst := some 27, op := Op.move (Operand.tmp 23), type := 70, pos := "l2_markov.go:255", after := #[{ on := 3, ground := Ground.data }, { on := 4, ground := Ground.data }, { on := 5, ground := Ground.data }, { on := 6, ground := Ground.data }, { on := 7, ground := Ground.data }, { on := 9, ground := Ground.gcOnly Departure.lateStores }], guard := none }) (v := ?_) rfl (by kernel_rfl) (by kernel_rfl) (by kernel_rfl) (fun _ _ _ h => h) (Or.inl ⟨by rfl, ?_⟩) (by assumption) ?_
                  rotate_left
                  · (intro W hSW; go_simp; first | done | with_reducible rfl)
                  (try simp only [Act.put, List.setIfInBounds_toArray, List.set_cons_zero, List.set_cons_succ])
                  refine wpAnyH_take (i := 10) (oi := { dst := some 7, op := Op.assign (Operand.tmp 27), type := 70, pos := "l2_markov.go:255", after := #[{ on := 8, ground := Ground.data }, { on := 9, ground := Ground.chain }, { on := 0, ground := Ground.phase }, { on := 1, ground := Ground.phase }, { on := 2, ground := Ground.phase }, { on := 3, ground := Ground.phase }, { on := 4, ground := Ground.phase }, { on := 5, ground := Ground.phase }, { on := 6, ground := Ground.phase }, { on := 7, ground := Ground.phase }, { on := 8, ground := Ground.phase }, { on := 9, ground := Ground.phase }], guard := none }) (v := ?_) rfl (by kernel_rfl) (by kernel_rfl) (by kernel_rfl) (fun _ _ _ h => h) (Or.inl ⟨by rfl, ?_⟩) (by assumption) ?_
                  rotate_left
                  · (intro W hSW; go_simp; first | done | with_reducible rfl)
                  (try simp only [Act.put, List.setIfInBounds_toArray, List.set_cons_zero, List.set_cons_succ])
                  refine wpAnyH_done (by kernel_rfl) ?_ _
                  refine NoPanic.normal ?_
                  go_wp2
                  go_meet
                  case rel => exact ⟨B, rfl, HBB, HM, HS, HB⟩
                exact AllReadyH.nil
              refine AllReadyH.cons (o := { dst := none, op := Op.insert 70 (Operand.tmp 23) (Operand.tmp 26) (Operand.const (Value.bool true)), type := 0, pos := "l2_markov.go:255", after := #[{ on := 3, ground := Ground.data }, { on := 6, ground := Ground.data }, { on := 9, ground := Ground.gcOnly Departure.lateStores }], guard := none }) rfl (fun K hK => ?_) ?_
              · have HW_ : Aside0 (W0cm = W0cm) := ⟨rfl⟩
                obtain ⟨W0cmp, hrun_, hmet_, hg_⟩ := met_put HM.out (by simp) wa wb wc
                go_simp
                have HB_ := Aside0.mk (below_grown_far HB.out hg_ HBB.out)
                have HM_ : Aside0 (Met W0cmp B [l1]) := ⟨by rw [HE.out]; exact hmet_⟩
                have HO_ := Aside0.mk (Kd.R_step HO.out (fun k_ hk_ hl_ => hg_.block k_ hl_ (fun e_ => hk_ (Option.some.inj e_))))
                refine hK.out _ _ HB_.out (fun hH => ?_)
                (try simp only [Act.put, List.setIfInBounds_toArray, List.set_cons_zero, List.set_cons_succ])
                clear hK K hHeld
                have hHeld := HB_.out
                clear HB; have HB := HB_; clear HB_
                clear HM; have HM := HM_; clear HM_
                clear HO; have HO := HO_; clear HO_
                refine wpAnyH_take (i := 8) (oi := { dst := some 27, op := Op.move (Operand.tmp 23), type := 70, pos := "l2_markov.go:255", after := #[{ on := 3, ground := Ground.data }, { on := 4, ground := Ground.data }, { on := 5, ground := Ground.data }, { on := 6, ground := Ground.data }, { on := 7, ground := Ground.data }, { on := 9, ground := Ground.gcOnly Departure.lateStores }], guard := none }) (v := ?_) rfl (by kernel_rfl) (by kernel_rfl) (by kernel_rfl) (fun _ _ _ h => h) (Or.inl ⟨by rfl, ?_⟩) (by assumption) ?_
                rotate_left
                · (intro W hSW; go_simp; first | done | with_reducible rfl)
                (try simp only [Act.put, List.setIfInBounds_toArray, List.set_cons_zero, List.set_cons_succ])
                refine wpAnyH_ready (rs := [2]) (by kernel_rfl) (by simp) ?_
                refine AllReadyH.cons (o := { dst := some 22, op := Op.buildSlice 39 1 #[(0, Operand.tmp 21)], type := 39, pos := "l2_markov.go:255", after := #[{ on := 1, ground := Ground.data }], guard := none }) rfl (fun K hK => ?_) ?_
                · have HW_ : Aside0 (W0cmp = W0cmp) := ⟨rfl⟩
                  refine Kd.S_lits_step (Kd.slice 3 (Kd.int .i64)) (w0 := w) w.heap.size 22 (by rfl) (N := 22) rfl (xs := [l1]) (inner := [.slice A6 l1.length c6]) (ok := (fun k_ => k_ ≠ B)) (fun j k_ => j = 0 ∧ some k_ = (Value.slice A6 l1.length c6).ownBlock) ?hr rfl ?hp ?ha (fun j_ k_ hk_ => (HO.out.1 k_ hk_.2.symm)) (by have h2_ := HM.out.lt; omega) HB.out (below_size HB.out) (by simp) ?_
                  case hr => first | (go_simp; done) | (go_simp; rfl)
                  case hp => (intro j x hj; match j, hj with | 0, hj => (obtain rfl : l1 = x := by simpa using hj); exact ⟨_, rfl, Kd.R_mono (Kd.R_tight rfl HO.out) (fun k_ hk => ⟨rfl, hk⟩)⟩)
                  case ha => (rintro i j k_ ⟨rfl, _⟩ ⟨rfl, _⟩; rfl)
                  intro v2 W0cmps ho hb hg hat
                  have HB_ := Aside0.mk hb
                  have HS := Aside0.mk ho
                  have HM_ := Aside0.mk (HM.out.kept hg (by simp))
                  refine hK.out _ _ HB_.out (fun hH => ?_)
                  (try simp only [Act.put, List.setIfInBounds_toArray, List.set_cons_zero, List.set_cons_succ])
                  clear hK K hHeld
                  have hHeld := HB_.out
                  clear HB; have HB := HB_; clear HB_
                  clear HM; have HM := HM_; clear HM_
                  refine wpAnyH_take (i := 9) (oi := { dst := some 6, op := Op.assign (Operand.tmp 22), type := 39, pos := "l2_markov.go:255", after := #[{ on := 2, ground := Ground.data }, { on := 1, ground := Ground.chain }, { on := 0, ground := Ground.phase }, { on := 1, ground := Ground.phase }, { on := 2, ground := Ground.phase }, { on := 3, ground := Ground.textOnly Departure.lateStoresUnsure }, { on := 4, ground := Ground.textOnly Departure.lateStores }, { on := 5, ground := Ground.textOnly Departure.lateStores }, { on := 6, ground := Ground.textOnly Departure.lateStores }, { on := 7, ground := Ground.textOnly Departure.lateStores }, { on := 8, ground := Ground.textOnly Departure.lateStores }], guard := none }) (v := ?_) rfl (by kernel_rfl) (by kernel_rfl) (by kernel_rfl) (fun _ _ _ h => h) (Or.inl ⟨by rfl, ?_⟩) (by assumption) ?_
                  rotate_left
                  · (intro W hSW; go_simp; first | done | with_reducible rfl)
                  (try simp only [Act.put, List.setIfInBounds_toArray, List.set_cons_zero, List.set_cons_succ])
                  refine wpAnyH_take (i := 10) (oi := { dst := some 7, op := Op.assign (Operand.tmp 27), type := 70, pos := "l2_markov.go:255", after := #[{ on := 8, ground := Ground.data }, { on := 9, ground := Ground.chain }, { on := 0, ground := Ground.phase }, { on := 1, ground := Ground.phase }, { on := 2, ground := Ground.phase }, { on := 3, ground := Ground.phase }, { on := 4, ground := Ground.phase }, { on := 5, ground := Ground.phase }, { on := 6, ground := Ground.phase }, { on := 7, ground := Ground.phase }, { on := 8, ground := Ground.phase }, { on := 9, ground := Ground.phase }], guard := none }) (v := ?_) rfl (by kernel_rfl) (by kernel_rfl) (by kernel_rfl) (fun _ _ _ h => h) (Or.inl ⟨by rfl, ?_⟩) (by assumption) ?_
                  rotate_left
                  · (intro W hSW; go_simp; first | done | with_reducible rfl)
                  (try simp only [Act.put, List.setIfInBounds_toArray, List.set_cons_zero, List.set_cons_succ])
                  refine wpAnyH_done (by kernel_rfl) ?_ _
                  refine NoPanic.normal ?_
                  go_wp2
                  go_meet
                  case rel => exact ⟨B, rfl, HBB, HM, HS, HB⟩
                exact AllReadyH.nil
              exact AllReadyH.nil
            exact AllReadyH.nil
          refine AllReadyH.cons (o := { dst := some 23, op := Op.makeMap 70 none, type := 70, pos := "l2_markov.go:255", after := #[], guard := none }) rfl (fun K hK => ?_) ?_
          · have HW_ : Aside0 (W0 = W0) := ⟨rfl⟩
            go_simp
            have HB_ := Aside0.mk (below_alloc HB.out (.map #[] 0))
            have HM := Aside0.mk (met_new W0)
            have HBB := Aside0.mk (below_size HB.out)
            refine hK.out _ (W0.alloc (.map #[] 0)) HB_.out (fun hH => ?_)
            (try simp only [Act.put, List.setIfInBounds_toArray, List.set_cons_zero, List.set_cons_succ])
            clear hK K hHeld
            have hHeld := HB_.out
            clear HB; have HB := HB_; clear HB_
            clear hHeld hH
            revert HM HBB HB
            generalize W0.alloc (.map #[] 0) = W0m
            generalize W0.heap.size = B
            intro HM HBB HB
            have hHeld := HB.out
            refine wpAnyH_ready (rs := [1, 7]) (by kernel_rfl) (by simp) ?_
            refine AllReadyH.cons (o := { dst := some 21, op := Op.call { callee := Callee.value (Operand.func 75), args := #[Operand.tmp 20], argTypes := #[22] }, type := 22, pos := "l2_markov.go:255", after := #[{ on := 0, ground := Ground.data }], guard := none }) rfl (fun K hK => ?_) ?_
            · have HW_ : Aside0 (W0m = W0m) := ⟨rfl⟩
              refine goes_ Try.func75 (by kernel_rfl) rfl #[.slice (some ad1) 3 c0] (by rfl) rfl rfl (by (try simp only [List.map_toArray, List.map_cons, List.map_nil]); first | done | rfl) ?_
              refine (slices_Clone_int_int.calls _ c0 [a, b, c] l1 _ (Kd.C_below HR0.out HB.out) HC0.out HA5.out).mono ?_
              rintro e W0mc ⟨v6, rfl, ho6, hb6⟩
              refine ⟨_, rfl, ?_⟩
              have HB_ := Aside0.mk (below_step HB.out hb6)
              have HO : Aside0 (Kd.R (Kd.int .i64) 3 W0mc w.heap.size (fun k_ => k_ ≠ B) v6 l1) := ⟨Kd.R_lower (Kd.R_mono (Kd.R_bound ho6) (fun k_ hk_ => by have h1_ := hk_.2.1; have h2_ := HM.out.lt; omega)) (below_size HB.out)⟩
              have HM_ := Aside0.mk (HM.out.below hb6)
              obtain ⟨A6, c6, e6⟩ := Kd.R_slice HO.out
              subst e6
              refine hK.out _ _ HB_.out (fun hH => ?_)
              (try simp only [Act.put, List.setIfInBounds_toArray, List.set_cons_zero, List.set_cons_succ])
              clear hK K hHeld
              have hHeld := HB_.out
              clear HB; have HB := HB_; clear HB_
              clear HM; have HM := HM_; clear HM_
              refine wpAnyH_ready (rs := [2, 7]) (by kernel_rfl) (by simp) ?_
              refine AllReadyH.cons (o := { dst := some 22, op := Op.buildSlice 39 1 #[(0, Operand.tmp 21)], type := 39, pos := "l2_markov.go:255", after := #[{ on := 1, ground := Ground.data }], guard := none }) rfl (fun K hK => ?_) ?_
              · have HW_ : Aside0 (W0mc = W0mc) := ⟨rfl⟩
                refine Kd.S_lits_step (Kd.slice 3 (Kd.int .i64)) (w0 := w) w.heap.size 22 (by rfl) (N := 22) rfl (xs := [l1]) (inner := [.slice A6 l1.length c6]) (ok := (fun k_ => k_ ≠ B)) (fun j k_ => j = 0 ∧ some k_ = (Value.slice A6 l1.length c6).ownBlock) ?hr rfl ?hp ?ha (fun j_ k_ hk_ => (HO.out.1 k_ hk_.2.symm)) (by have h2_ := HM.out.lt; omega) HB.out (below_size HB.out) (by simp) ?_
                case hr => first | (go_simp; done) | (go_simp; rfl)
                case hp => (intro j x hj; match j, hj with | 0, hj => (obtain rfl : l1 = x := by simpa using hj); exact ⟨_, rfl, Kd.R_mono (Kd.R_tight rfl HO.out) (fun k_ hk => ⟨rfl, hk⟩)⟩)
                case ha => (rintro i j k_ ⟨rfl, _⟩ ⟨rfl, _⟩; rfl)
                intro v2 W0mcs ho hb hg hat
                have HB_ := Aside0.mk hb
                have HS := Aside0.mk ho
                have HM_ := Aside0.mk (HM.out.kept hg (by simp))
                refine hK.out _ _ HB_.out (fun hH => ?_)
                (try simp only [Act.put, List.setIfInBounds_toArray, List.set_cons_zero, List.set_cons_succ])
                clear hK K hHeld
                have hHeld := HB_.out
                clear HB; have HB := HB_; clear HB_
                clear HM; have HM := HM_; clear HM_
                refine wpAnyH_take (i := 9) (oi := { dst := some 6, op := Op.assign (Operand.tmp 22), type := 39, pos := "l2_markov.go:255", after := #[{ on := 2, ground := Ground.data }, { on := 1, ground := Ground.chain }, { on := 0, ground := Ground.phase }, { on := 1, ground := Ground.phase }, { on := 2, ground := Ground.phase }, { on := 3, ground := Ground.textOnly Departure.lateStoresUnsure }, { on := 4, ground := Ground.textOnly Departure.lateStores }, { on := 5, ground := Ground.textOnly Departure.lateStores }, { on := 6, ground := Ground.textOnly Departure.lateStores }, { on := 7, ground := Ground.textOnly Departure.lateStores }, { on := 8, ground := Ground.textOnly Departure.lateStores }], guard := none }) (v := ?_) rfl (by kernel_rfl) (by kernel_rfl) (by kernel_rfl) (fun _ _ _ h => h) (Or.inl ⟨by rfl, ?_⟩) (by assumption) ?_
                rotate_left
                · (intro W hSW; go_simp; first | done | with_reducible rfl)
                (try simp only [Act.put, List.setIfInBounds_toArray, List.set_cons_zero, List.set_cons_succ])
                refine wpAnyH_ready (rs := [7]) (by kernel_rfl) (by simp) ?_
                refine AllReadyH.cons (o := { dst := none, op := Op.insert 70 (Operand.tmp 23) (Operand.tmp 26) (Operand.const (Value.bool true)), type := 0, pos := "l2_markov.go:255", after := #[{ on := 3, ground := Ground.data }, { on := 6, ground := Ground.data }, { on := 9, ground := Ground.gcOnly Departure.lateStores }], guard := none }) rfl (fun K hK => ?_) ?_
                · have HW_ : Aside0 (W0mcs = W0mcs) := ⟨rfl⟩
                  obtain ⟨W0mcsp, hrun_, hmet_, hg_⟩ := met_put HM.out (by simp) wa wb wc
                  go_simp
                  have HB_ := Aside0.mk (below_grown_far HB.out hg_ HBB.out)
                  have HM_ : Aside0 (Met W0mcsp B [l1]) := ⟨by rw [HE.out]; exact hmet_⟩
                  have HS_ := Aside0.mk (Kd.S_step HS.out (fun k_ hk_ hl_ => hg_.block k_ hl_ (fun e_ => hk_ (Option.some.inj e_))))
                  refine hK.out _ _ HB_.out (fun hH => ?_)
                  (try simp only [Act.put, List.setIfInBounds_toArray, List.set_cons_zero, List.set_cons_succ])
                  clear hK K hHeld
                  have hHeld := HB_.out
                  clear HB; have HB := HB_; clear HB_
                  clear HM; have HM := HM_; clear HM_
                  clear HS; have HS := HS_; clear HS_
                  refine wpAnyH_take (i := 8) (oi := { dst := some 27, op := Op.move (Operand.tmp 23), type := 70, pos := "l2_markov.go:255", after := #[{ on := 3, ground := Ground.data }, { on := 4, ground := Ground.data }, { on := 5, ground := Ground.data }, { on := 6, ground := Ground.data }, { on := 7, ground := Ground.data }, { on := 9, ground := Ground.gcOnly Departure.lateStores }], guard := none }) (v := ?_) rfl (by kernel_rfl) (by kernel_rfl) (by kernel_rfl) (fun _ _ _ h => h) (Or.inl ⟨by rfl, ?_⟩) (by assumption) ?_
                  rotate_left
                  · (intro W hSW; go_simp; first | done | with_reducible rfl)
                  (try simp only [Act.put, List.setIfInBounds_toArray, List.set_cons_zero, List.set_cons_succ])
                  refine wpAnyH_take (i := 10) (oi := { dst := some 7, op := Op.assign (Operand.tmp 27), type := 70, pos := "l2_markov.go:255", after := #[{ on := 8, ground := Ground.data }, { on := 9, ground := Ground.chain }, { on := 0, ground := Ground.phase }, { on := 1, ground := Ground.phase }, { on := 2, ground := Ground.phase }, { on := 3, ground := Ground.phase }, { on := 4, ground := Ground.phase }, { on := 5, ground := Ground.phase }, { on := 6, ground := Ground.phase }, { on := 7, ground := Ground.phase }, { on := 8, ground := Ground.phase }, { on := 9, ground := Ground.phase }], guard := none }) (v := ?_) rfl (by kernel_rfl) (by kernel_rfl) (by kernel_rfl) (fun _ _ _ h => h) (Or.inl ⟨by rfl, ?_⟩) (by assumption) ?_
                  rotate_left
                  · (intro W hSW; go_simp; first | done | with_reducible rfl)
                  (try simp only [Act.put, List.setIfInBounds_toArray, List.set_cons_zero, List.set_cons_succ])
                  refine wpAnyH_done (by kernel_rfl) ?_ _
                  refine NoPanic.normal ?_
                  go_wp2
                  go_meet
                  case rel => exact ⟨B, rfl, HBB, HM, HS, HB⟩
                exact AllReadyH.nil
              refine AllReadyH.cons (o := { dst := none, op := Op.insert 70 (Operand.tmp 23) (Operand.tmp 26) (Operand.const (Value.bool true)), type := 0, pos := "l2_markov.go:255", after := #[{ on := 3, ground := Ground.data }, { on := 6, ground := Ground.data }, { on := 9, ground := Ground.gcOnly Departure.lateStores }], guard := none }) rfl (fun K hK => ?_) ?_
              · have HW_ : Aside0 (W0mc = W0mc) := ⟨rfl⟩
                obtain ⟨W0mcp, hrun_, hmet_, hg_⟩ := met_put HM.out (by simp) wa wb wc
                go_simp
                have HB_ := Aside0.mk (below_grown_far HB.out hg_ HBB.out)
                have HM_ : Aside0 (Met W0mcp B [l1]) := ⟨by rw [HE.out]; exact hmet_⟩
                have HO_ := Aside0.mk (Kd.R_step HO.out (fun k_ hk_ hl_ => hg_.block k_ hl_ (fun e_ => hk_ (Option.some.inj e_))))
                refine hK.out _ _ HB_.out (fun hH => ?_)
                (try simp only [Act.put, List.setIfInBounds_toArray, List.set_cons_zero, List.set_cons_succ])
                clear hK K hHeld
                have hHeld := HB_.out
                clear HB; have HB := HB_; clear HB_
                clear HM; have HM := HM_; clear HM_
                clear HO; have HO := HO_; clear HO_
                refine wpAnyH_take (i := 8) (oi := { dst := some 27, op := Op.move (Operand.tmp 23), type := 70, pos := "l2_markov.go:255", after := #[{ on := 3, ground := Ground.data }, { on := 4, ground := Ground.data }, { on := 5, ground := Ground.data }, { on := 6, ground := Ground.data }, { on := 7, ground := Ground.data }, { on := 9, ground := Ground.gcOnly Departure.lateStores }], guard := none }) (v := ?_) rfl (by kernel_rfl) (by kernel_rfl) (by kernel_rfl) (fun _ _ _ h => h) (Or.inl ⟨by rfl, ?_⟩) (by assumption) ?_
                rotate_left
                · (intro W hSW; go_simp; first | done | with_reducible rfl)
                (try simp only [Act.put, List.setIfInBounds_toArray, List.set_cons_zero, List.set_cons_succ])
                refine wpAnyH_ready (rs := [2]) (by kernel_rfl) (by simp) ?_
                refine AllReadyH.cons (o := { dst := some 22, op := Op.buildSlice 39 1 #[(0, Operand.tmp 21)], type := 39, pos := "l2_markov.go:255", after := #[{ on := 1, ground := Ground.data }], guard := none }) rfl (fun K hK => ?_) ?_
                · have HW_ : Aside0 (W0mcp = W0mcp) := ⟨rfl⟩
                  refine Kd.S_lits_step (Kd.slice 3 (Kd.int .i64)) (w0 := w) w.heap.size 22 (by rfl) (N := 22) rfl (xs := [l1]) (inner := [.slice A6 l1.length c6]) (ok := (fun k_ => k_ ≠ B)) (fun j k_ => j = 0 ∧ some k_ = (Value.slice A6 l1.length c6).ownBlock) ?hr rfl ?hp ?ha (fun j_ k_ hk_ => (HO.out.1 k_ hk_.2.symm)) (by have h2_ := HM.out.lt; omega) HB.out (below_size HB.out) (by simp) ?_
                  case hr => first | (go_simp; done) | (go_simp; rfl)
                  case hp => (intro j x hj; match j, hj with | 0, hj => (obtain rfl : l1 = x := by simpa using hj); exact ⟨_, rfl, Kd.R_mono (Kd.R_tight rfl HO.out) (fun k_ hk => ⟨rfl, hk⟩)⟩)
                  case ha => (rintro i j k_ ⟨rfl, _⟩ ⟨rfl, _⟩; rfl)
                  intro v2 W0mcps ho hb hg hat
                  have HB_ := Aside0.mk hb
                  have HS := Aside0.mk ho
                  have HM_ := Aside0.mk (HM.out.kept hg (by simp))
                  refine hK.out _ _ HB_.out (fun hH => ?_)
                  (try simp only [Act.put, List.setIfInBounds_toArray, List.set_cons_zero, List.set_cons_succ])
                  clear hK K hHeld
                  have hHeld := HB_.out
                  clear HB; have HB := HB_; clear HB_
                  clear HM; have HM := HM_; clear HM_
                  refine wpAnyH_take (i := 9) (oi := { dst := some 6, op := Op.assign (Operand.tmp 22), type := 39, pos := "l2_markov.go:255", after := #[{ on := 2, ground := Ground.data }, { on := 1, ground := Ground.chain }, { on := 0, ground := Ground.phase }, { on := 1, ground := Ground.phase }, { on := 2, ground := Ground.phase }, { on := 3, ground := Ground.textOnly Departure.lateStoresUnsure }, { on := 4, ground := Ground.textOnly Departure.lateStores }, { on := 5, ground := Ground.textOnly Departure.lateStores }, { on := 6, ground := Ground.textOnly Departure.lateStores }, { on := 7, ground := Ground.textOnly Departure.lateStores }, { on := 8, ground := Ground.textOnly Departure.lateStores }], guard := none }) (v := ?_) rfl (by kernel_rfl) (by kernel_rfl) (by kernel_rfl) (fun _ _ _ h => h) (Or.inl ⟨by rfl, ?_⟩) (by assumption) ?_
                  rotate_left
                  · (intro W hSW; go_simp; first | done | with_reducible rfl)
                  (try simp only [Act.put, List.setIfInBounds_toArray, List.set_cons_zero, List.set_cons_succ])
                  refine wpAnyH_take (i := 10) (oi := { dst := some 7, op := Op.assign (Operand.tmp 27), type := 70, pos := "l2_markov.go:255", after := #[{ on := 8, ground := Ground.data }, { on := 9, ground := Ground.chain }, { on := 0, ground := Ground.phase }, { on := 1, ground := Ground.phase }, { on := 2, ground := Ground.phase }, { on := 3, ground := Ground.phase }, { on := 4, ground := Ground.phase }, { on := 5, ground := Ground.phase }, { on := 6, ground := Ground.phase }, { on := 7, ground := Ground.phase }, { on := 8, ground := Ground.phase }, { on := 9, ground := Ground.phase }], guard := none }) (v := ?_) rfl (by kernel_rfl) (by kernel_rfl) (by kernel_rfl) (fun _ _ _ h => h) (Or.inl ⟨by rfl, ?_⟩) (by assumption) ?_
                  rotate_left
                  · (intro W hSW; go_simp; first | done | with_reducible rfl)
                  (try simp only [Act.put, List.setIfInBounds_toArray, List.set_cons_zero, List.set_cons_succ])
                  refine wpAnyH_done (by kernel_rfl) ?_ _
                  refine NoPanic.normal ?_
                  go_wp2
                  go_meet
                  case rel => exact ⟨B, rfl, HBB, HM, HS, HB⟩
                exact AllReadyH.nil
              exact AllReadyH.nil
            refine AllReadyH.cons (o := { dst := none, op := Op.insert 70 (Operand.tmp 23) (Operand.tmp 26) (Operand.const (Value.bool true)), type := 0, pos := "l2_markov.go:255", after := #[{ on := 3, ground := Ground.data }, { on := 6, ground := Ground.data }, { on := 9, ground := Ground.gcOnly Departure.lateStores }], guard := none }) rfl (fun K hK => ?_) ?_
            · have HW_ : Aside0 (W0m = W0m) := ⟨rfl⟩
              obtain ⟨W0mp, hrun_, hmet_, hg_⟩ := met_put HM.out (by simp) wa wb wc
              go_simp
              have HB_ := Aside0.mk (below_grown_far HB.out hg_ HBB.out)
              have HM_ : Aside0 (Met W0mp B [l1]) := ⟨by rw [HE.out]; exact hmet_⟩
              refine hK.out _ _ HB_.out (fun hH => ?_)
              (try simp only [Act.put, List.setIfInBounds_toArray, List.set_cons_zero, List.set_cons_succ])
              clear hK K hHeld
              have hHeld := HB_.out
              clear HB; have HB := HB_; clear HB_
              clear HM; have HM := HM_; clear HM_
              refine wpAnyH_take (i := 8) (oi := { dst := some 27, op := Op.move (Operand.tmp 23), type := 70, pos := "l2_markov.go:255", after := #[{ on := 3, ground := Ground.data }, { on := 4, ground := Ground.data }, { on := 5, ground := Ground.data }, { on := 6, ground := Ground.data }, { on := 7, ground := Ground.data }, { on := 9, ground := Ground.gcOnly Departure.lateStores }], guard := none }) (v := ?_) rfl (by kernel_rfl) (by kernel_rfl) (by kernel_rfl) (fun _ _ _ h => h) (Or.inl ⟨by rfl, ?_⟩) (by assumption) ?_
              rotate_left
              · (intro W hSW; go_simp; first | done | with_reducible rfl)
              (try simp only [Act.put, List.setIfInBounds_toArray, List.set_cons_zero, List.set_cons_succ])
              refine wpAnyH_ready (rs := [1]) (by kernel_rfl) (by simp) ?_
              refine AllReadyH.cons (o := { dst := some 21, op := Op.call { callee := Callee.value (Operand.func 75), args := #[Operand.tmp 20], argTypes := #[22] }, type := 22, pos := "l2_markov.go:255", after := #[{ on := 0, ground := Ground.data }], guard := none }) rfl (fun K hK => ?_) ?_
              · have HW_ : Aside0 (W0mp = W0mp) := ⟨rfl⟩
                refine goes_ Try.func75 (by kernel_rfl) rfl #[.slice (some ad1) 3 c0] (by rfl) rfl rfl (by (try simp only [List.map_toArray, List.map_cons, List.map_nil]); first | done | rfl) ?_
                refine (slices_Clone_int_int.calls _ c0 [a, b, c] l1 _ (Kd.C_below HR0.out HB.out) HC0.out HA5.out).mono ?_
                rintro e W0mpc ⟨v6, rfl, ho6, hb6⟩
                refine ⟨_, rfl, ?_⟩
                have HB_ := Aside0.mk (below_step HB.out hb6)
                have HO : Aside0 (Kd.R (Kd.int .i64) 3 W0mpc w.heap.size (fun k_ => k_ ≠ B) v6 l1) := ⟨Kd.R_lower (Kd.R_mono (Kd.R_bound ho6) (fun k_ hk_ => by have h1_ := hk_.2.1; have h2_ := HM.out.lt; omega)) (below_size HB.out)⟩
                have HM_ := Aside0.mk (HM.out.below hb6)
                obtain ⟨A6, c6, e6⟩ := Kd.R_slice HO.out
                subst e6
                refine hK.out _ _ HB_.out (fun hH => ?_)
                (try simp only [Act.put, List.setIfInBounds_toArray, List.set_cons_zero, List.set_cons_succ])
                clear hK K hHeld
                have hHeld := HB_.out
                clear HB; have HB := HB_; clear HB_
                clear HM; have HM := HM_; clear HM_
                refine wpAnyH_ready (rs := [2]) (by kernel_rfl) (by simp) ?_
                refine AllReadyH.cons (o := { dst := some 22, op := Op.buildSlice 39 1 #[(0, Operand.tmp 21)], type := 39, pos := "l2_markov.go:255", after := #[{ on := 1, ground := Ground.data }], guard := none }) rfl (fun K hK => ?_) ?_
                · have HW_ : Aside0 (W0mpc = W0mpc) := ⟨rfl⟩
                  refine Kd.S_lits_step (Kd.slice 3 (Kd.int .i64)) (w0 := w) w.heap.size 22 (by rfl) (N := 22) rfl (xs := [l1]) (inner := [.slice A6 l1.length c6]) (ok := (fun k_ => k_ ≠ B)) (fun j k_ => j = 0 ∧ some k_ = (Value.slice A6 l1.length c6).ownBlock) ?hr rfl ?hp ?ha (fun j_ k_ hk_ => (HO.out.1 k_ hk_.2.symm)) (by have h2_ := HM.out.lt; omega) HB.out (below_size HB.out) (by simp) ?_
                  case hr => first | (go_simp; done) | (go_simp; rfl)
                  case hp => (intro j x hj; match j, hj with | 0, hj => (obtain rfl : l1 = x := by simpa using hj); exact ⟨_, rfl, Kd.R_mono (Kd.R_tight rfl HO.out) (fun k_ hk => ⟨rfl, hk⟩)⟩)
                  case ha => (rintro i j k_ ⟨rfl, _⟩ ⟨rfl, _⟩; rfl)
                  intro v2 W0mpcs ho hb hg hat
                  have HB_ := Aside0.mk hb
                  have HS := Aside0.mk ho
                  have HM_ := Aside0.mk (HM.out.kept hg (by simp))
                  refine hK.out _ _ HB_.out (fun hH => ?_)
                  (try simp only [Act.put, List.setIfInBounds_toArray, List.set_cons_zero, List.set_cons_succ])
                  clear hK K hHeld
                  have hHeld := HB_.out
                  clear HB; have HB := HB_; clear HB_
                  clear HM; have HM := HM_; clear HM_
                  refine wpAnyH_take (i := 9) (oi := { dst := some 6, op := Op.assign (Operand.tmp 22), type := 39, pos := "l2_markov.go:255", after := #[{ on := 2, ground := Ground.data }, { on := 1, ground := Ground.chain }, { on := 0, ground := Ground.phase }, { on := 1, ground := Ground.phase }, { on := 2, ground := Ground.phase }, { on := 3, ground := Ground.textOnly Departure.lateStoresUnsure }, { on := 4, ground := Ground.textOnly Departure.lateStores }, { on := 5, ground := Ground.textOnly Departure.lateStores }, { on := 6, ground := Ground.textOnly Departure.lateStores }, { on := 7, ground := Ground.textOnly Departure.lateStores }, { on := 8, ground := Ground.textOnly Departure.lateStores }], guard := none }) (v := ?_) rfl (by kernel_rfl) (by kernel_rfl) (by kernel_rfl) (fun _ _ _ h => h) (Or.inl ⟨by rfl, ?_⟩) (by assumption) ?_
                  rotate_left
                  · (intro W hSW; go_simp; first | done | with_reducible rfl)
                  (try simp only [Act.put, List.setIfInBounds_toArray, List.set_cons_zero, List.set_cons_succ])
                  refine wpAnyH_take (i := 10) (oi := { dst := some 7, op := Op.assign (Operand.tmp 27), type := 70, pos := "l2_markov.go:255", after := #[{ on := 8, ground := Ground.data }, { on := 9, ground := Ground.chain }, { on := 0, ground := Ground.phase }, { on := 1, ground := Ground.phase }, { on := 2, ground := Ground.phase }, { on := 3, ground := Ground.phase }, { on := 4, ground := Ground.phase }, { on := 5, ground := Ground.phase }, { on := 6, ground := Ground.phase }, { on := 7, ground := Ground.phase }, { on := 8, ground := Ground.phase }, { on := 9, ground := Ground.phase }], guard := none }) (v := ?_) rfl (by kernel_rfl) (by kernel_rfl) (by kernel_rfl) (fun _ _ _ h => h) (Or.inl ⟨by rfl, ?_⟩) (by assumption) ?_
                  rotate_left
                  · (intro W hSW; go_simp; first | done | with_reducible rfl)
                  (try simp only [Act.put, List.setIfInBounds_toArray, List.set_cons_zero, List.set_cons_succ])
                  refine wpAnyH_done (by kernel_rfl) ?_ _
                  refine NoPanic.normal ?_
                  go_wp2
                  go_meet
                  case rel => exact ⟨B, rfl, HBB, HM, HS, HB⟩
                exact AllReadyH.nil
              exact AllReadyH.nil
            exact AllReadyH.nil
          exact AllReadyH.nil
        case rest =>
          clear HB
          obtain ⟨B, rfl, HBB, HM, HS, HB⟩ := hcut
          have HL1 : Aside0 (l1.length = 3) := ⟨by rw [HE.out]; rfl⟩
          clear HX0 HX1 HX2 HWF HE HA3 HA4 HA5
          go_wp2
          go_loopg [6, 8] k (fun kq v6 v8 w' => ∃ (o : List (List Int)) (kk : Int), v8 = .int .i64 kk ∧ Aside0 (0 ≤ kk ∧ kk ≤ 1000000) ∧ Aside0 (orbL a0 kq o kk = some r) ∧ Aside0 (kq ≤ k) ∧ Aside0 o.Nodup ∧ Aside0 (∀ x ∈ o, x.length = 3) ∧ Aside0 (o.length ≤ 1000000) ∧ Aside0 (Met w' B o) ∧ Aside0 (Kd.S (Kd.slice 3 (Kd.int .i64)) 22 w' w.heap.size (fun k_ => k_ ≠ B) v6 o) ∧ Aside0 (Below w.heap.size w w'))
          case atStart => exact ⟨[l1], 0, rfl, ⟨by omega⟩, H', ⟨Nat.le_refl _⟩, ⟨by simp⟩, ⟨by intro x hx; rw [List.mem_singleton] at hx; rw [hx, HL1.out]⟩, ⟨by simp⟩, HM, HS, HB⟩
          case round =>
            clear H' HM HS HB HL1
            obtain ⟨o, kk, rfl, HKK, HA, HK1, HND, HL3, HLM, HM, HS, HB⟩ := hrel
            cases gk with
            | zero => exact absurd HA.out (by simp [orbL])
            | succ k1 =>
              have H := HA.out
              clear HA
              simp only [orbL] at H
              obtain ⟨A6, c6, e6⟩ := Kd.S_slice HS.out
              subst e6
              by_cases c2 : kk < (o.length : Int)
              · rw [if_pos c2] at H
                obtain ⟨o2, A4, H⟩ := Option.bind_eq_some_iff.mp H
                have HIN : Aside0 (orbIn a0 kk 3 ((0 : Nat) : Int) o = some o2) := ⟨A4⟩
                have H2 := Aside0.mk H
                clear A4 H
                have c2b0 : decide (kk < (o.length : Int)) = true := decide_eq_true c2
                have HKL := Aside0.mk c2
                clear c2
                go_wp2
                go_loopg [6, 34] 4 (fun kj v6 v34 w' => ∃ (o' : List (List Int)) (off j : Nat), v34 = .int .i64 (off : Int) ∧ Aside0 (off + j = 3) ∧ Aside0 (j < kj) ∧ Aside0 (orbIn a0 kk j (off : Int) o' = some o2) ∧ Aside0 o'.Nodup ∧ Aside0 (∀ x ∈ o', x.length = 3) ∧ Aside0 (o.length ≤ o'.length ∧ o'.length ≤ 1000000) ∧ Aside0 (Met w' B o') ∧ Aside0 (Kd.S (Kd.slice 3 (Kd.int .i64)) 22 w' w.heap.size (fun k_ => k_ ≠ B) v6 o') ∧ Aside0 (Below w.heap.size w w'))
                case atStart => exact ⟨o, 0, 3, rfl, ⟨by omega⟩, ⟨by omega⟩, HIN, HND, HL3, ⟨Nat.le_refl _, HLM.out⟩, HM, HS, HB⟩
                case round =>
                  clear HIN HND HL3 HM HS HB
                  obtain ⟨o', off, j, rfl, HOJ, HJ, HIN, HND, HL3, HLM2, HM, HS, HB⟩ := hrel
                  cases j with
                  | zero =>
                    obtain rfl : o' = o2 := by simpa [orbIn] using HIN.out
                    obtain rfl : off = 3 := by have := HOJ.out; omega
                    go_wp2
                    go_roundg k1
                    case measure => have := HK1.out; omega
                    case rel => exact ⟨o', wrap64 (kk + 1), (by first | rfl | (simp; done) | (simp [*]; done)), ⟨by have := HKK.out; have := HKL.out; have := HLM.out; unfold wrap64; omega⟩, H2, ⟨by have := HK1.out; omega⟩, HND, HL3, ⟨HLM2.out.2⟩, HM, HS, HB⟩
                  | succ j =>
                    have hOJ := HOJ.out
                    have hofz : (off : Int) < 3 := by omega
                    have d1b0 : decide ((off : Int) < 3) = true := decide_eq_true hofz
                    have d1b1 : decide (off < 3) = true := decide_eq_true (by omega)
                    obtain ⟨u, hU, hin⟩ := Option.bind_eq_some_iff.mp (show ((impl_modMoved.f a0 (rd_L1 o' kk) (off : Int)).bind fun u => (if goodT u = true then (if u ∈ o' then orbIn a0 kk j (wrap64 ((off : Int) + 1)) o' else (if o'.length < 1000000 then orbIn a0 kk j (wrap64 ((off : Int) + 1)) (o' ++ [u]) else none)) else none)) = some o2 from HIN.out)
                    have HU := Aside0.mk hU
                    clear hU
                    by_cases hg : goodT u = true
                    · rw [if_pos hg] at hin
                      obtain ⟨x, y, z, hxyz, wx, wy, wz⟩ := goodT_is hg
                      have HE5 := Aside0.mk hxyz
                      have HWX := Aside0.mk (And.intro wx (And.intro wy wz))
                      have HW : Aside0 (wrap64 ((off : Int) + 1) = ((off + 1 : Nat) : Int)) := ⟨by unfold wrap64; omega⟩
                      rw [HW.out] at hin
                      obtain ⟨A6, c6, e6⟩ := Kd.S_slice HS.out
                      subst e6
                      have p1 : 0 ≤ kk := HKK.out.1
                      have q1 : kk < (o'.length : Int) := by have := HKL.out; have := HLM2.out.1; omega
                      obtain ⟨ad1_, A1, cr, e1, hx1, hl1, hi1⟩ := at_L1 (Kd.S_reads' HS.out).2.2 kk p1 q1
                      cases e1
                      have HCR := Aside0.mk hl1
                      have HRR := Aside0.mk hi1
                      have qi1 : (kk.toNat < o'.length) = True := eq_true (by omega)
                      clear hl1 hi1 hg hxyz wx wy wz
                      replace p1 := eq_true p1
                      replace q1 := eq_true q1
                      by_cases hm : u ∈ o'
                      · rw [if_pos hm] at hin
                        have HIN2 := Aside0.mk hin
                        have HMU := Aside0.mk hm
                        clear hin hm HIN
                        go_wp2_with (first | (go_at_call 67; refine (impl_modMoved.calls a0 _ cr (rd_L1 o' kk) (off : Int) u _ HRR.out HCR.out HU.out).mono ?_; rintro e w5 ⟨v5, rfl, ho5, hb5⟩; obtain ⟨A5, c5, e5⟩ := Kd.R_slice ho5; subst e5; rw [HE5.out] at ho5; have hC5 := (Kd.R_reads' ho5).2.2; obtain ⟨ad5, e5, hY0, hY1, hY2⟩ := row3_at hC5; subst e5; have hM5 := HM.out.below hb5; have hlk := met_look hM5 HWX.out.1 HWX.out.2.1 HWX.out.2.2; have hsl := run_arrayAt (P := Try.prog) (w := w5) (arr := 69) (e := 3) (n := 3) (a := some ad5) (len := 3) (cap := c5) Try.underlying69 (Nat.le_refl _); have hl5 : u.length = 3 := congrArg List.length HE5.out; rw [hl5]; rw [← HE5.out, decide_eq_true HMU.out] at hlk; have n0_ := Aside0.mk (Kd.S_below HS.out hb5); have n1_ := Aside0.mk hM5; have n2_ := Aside0.mk (below_step HB.out hb5); clear HM HS HB hb5 hM5 hC5 ho5; have HM := n1_; have HS := n0_; have HB := n2_; clear n0_ n1_ n2_))
                        go_roundg (j + 1)
                        case measure => have := HJ.out; omega
                        case rel => exact ⟨o', off + 1, j, (by first | rfl | (rw [← HW.out]; rfl) | (rw [← HW.out]) | (simp; done)), ⟨by have := HOJ.out; omega⟩, ⟨by have := HJ.out; omega⟩, HIN2, HND, HL3, HLM2, HM, HS, HB⟩
                      · rw [if_neg hm] at hin
                        by_cases hc : o'.length < 1000000
                        · rw [if_pos hc] at hin
                          have HIN2 := Aside0.mk hin
                          have HMU := Aside0.mk hm
                          have HLC := Aside0.mk hc
                          clear hin hm hc HIN
                          go_wp2_with (first
                            | (go_at_call 67; refine (impl_modMoved.calls a0 _ cr (rd_L1 o' kk) (off : Int) u _ HRR.out HCR.out HU.out).mono ?_; rintro e w5 ⟨v5, rfl, ho5, hb5⟩; obtain ⟨A5, c5, e5⟩ := Kd.R_slice ho5; subst e5; rw [HE5.out] at ho5; have hC5 := (Kd.R_reads' ho5).2.2; obtain ⟨ad5, e5, hY0, hY1, hY2⟩ := row3_at hC5; subst e5; have hM5 := HM.out.below hb5; have hlk := met_look hM5 HWX.out.1 HWX.out.2.1 HWX.out.2.2; have hsl := run_arrayAt (P := Try.prog) (w := w5) (arr := 69) (e := 3) (n := 3) (a := some ad5) (len := 3) (cap := c5) Try.underlying69 (Nat.le_refl _); have hl5 : u.length = 3 := congrArg List.length HE5.out; rw [hl5]; rw [← HE5.out, decide_eq_false HMU.out] at hlk; obtain ⟨w6, hrun, hM6, hg6⟩ := met_put hM5 (by have := HLC.out; omega) HWX.out.1 HWX.out.2.1 HWX.out.2.2; have hB5 := below_step HB.out hb5; have hlt5 := HM.out.lt; have n0_ := Aside0.mk (Kd.S_step (Kd.S_below (Kd.S_bound HS.out) hb5) (fun k_ hk_ hl_ => hg6.block k_ hl_ (fun e_ => hk_.1 (Option.some.inj e_)))); have hR5 : Kd.R (Kd.int .i64) 3 w5 wr.heap.size (fun k_ => k_ ≠ B ∧ wr.heap.size ≤ k_) _ _ := Kd.R_mono (Kd.R_bound ho5) (fun k_ hk_ => ⟨by have h1_ := hk_.2.1; omega, hk_.2.1⟩); have n3_ := Aside0.mk (Kd.R_lower (Kd.R_step hR5 (fun k_ hk_ hl_ => hg6.block k_ hl_ (fun e_ => hk_.1 (Option.some.inj e_)))) (below_size HB.out)); rw [← HE5.out] at n3_ hM6; have n1_ := Aside0.mk hM6; have n2_ := Aside0.mk (below_grown_far hB5 hg6 HBB.out); have n4_ := Aside0.mk (Kd.S_lt HS.out); clear HM HS HB hb5 hM5 hC5 ho5 hB5 hR5 hM6 hg6 hlt5; have HM := n1_; have HS := n0_; have HB := n2_; have HRN := n3_; have HOL := n4_; clear n0_ n1_ n2_ n3_ n4_)
                            | ((with_reducible refine gate_builtin (b := .append) (xs := #[.tmp 54, .tmp 56]) rfl ?_); at_builtin; (refine Kd.S_append (Kd.slice 3 (Kd.int .i64)) (w0 := w) w.heap.size rfl (.tmp 54) (.tmp 56) 39 22 (.slice none 0 0) 24 rfl Try.underlying39 info22 rfl (by decide) (by omega) (.slice (some ad1_) o'.length c6) o' u [.slice (some ad5) 3 c5] (fun k_ => k_ ≠ B) (fun k_ => some k_ = (Value.slice (some ad5) 3 c5).ownBlock) rfl rfl ?aP ?aK ?aF ?aO ?aB ?aS ?aL ?_; (case aP => exact ⟨_, rfl, by (have h_ := Kd.R_tight rfl HRN.out); rw [hl5] at h_; exact h_⟩); (case aK => exact fun k_ hk_ => ⟨(HRN.out.1 k_ hk_.symm).1, fun e_ => by have h1_ := (HRN.out.1 k_ hk_.symm).2; have h2_ := HOL.out k_ e_.symm; omega⟩); (case aF => exact fun k_ hk_ => by have h1_ := HM.out.lt; omega); (case aO => exact Kd.S_mono HS.out (fun k_ hk_ => ⟨hk_.1, fun e_ => by have h1_ := (HRN.out.1 k_ e_.symm).2; have h2_ := hk_.2.2.1; omega⟩)); (case aB => exact HB.out); (case aS => exact below_size HB.out); (case aL => have := HLC.out; omega); intro v7 w7 ho hb hg hat; have n0_ := Aside0.mk ho; have n1_ := Aside0.mk hb; have n2_ := Aside0.mk (HM.out.kept hg (fun e_ => ((Kd.S_R HS.out).1 B e_.symm).1 rfl)); clear HS HB HM hg hat ho hb; have HS := n0_; have HB := n1_; have HM := n2_; clear n0_ n1_ n2_)))
                          go_roundg (j + 1)
                          case measure => have := HJ.out; omega
                          case rel => exact ⟨o' ++ [u], off + 1, j, (by first | rfl | (rw [← HW.out]; rfl) | (rw [← HW.out]) | (simp; done)), ⟨by have := HOJ.out; omega⟩, ⟨by have := HJ.out; omega⟩, HIN2, ⟨by rw [List.nodup_append]; exact ⟨HND.out, by simp, fun a_ ha_ b_ hb_ e_ => HMU.out (by rw [List.mem_singleton] at hb_; rw [← hb_, ← e_]; exact ha_)⟩⟩, ⟨fun x_ hx_ => by rcases List.mem_append.1 hx_ with h_ | h_; exact HL3.out x_ h_; (rw [List.mem_singleton] at h_; rw [h_, hl5])⟩, ⟨by have := HLM2.out; have := HLC.out; simp; omega⟩, HM, HS, HB⟩
                        · rw [if_neg hc] at hin
                          exact absurd hin (by simp)
                    · rw [if_neg hg] at hin
                      exact absurd hin (by simp)
              · rw [if_neg c2] at H
                have c2b0 : decide (kk < (o.length : Int)) = false := decide_eq_false c2
                clear c2
                obtain rfl : sortDedup o = r := by simpa using H
                clear H
                go_wp2_with (first
                  | (go_at_call 77; refine (rows_sort cmpL cmpL_total (fun x => x.length < 9223372036854775807) 78 #[] compare_enters compare_at (fun k_ => k_ ≠ B) _ o w _ HB.out (fun x hx => by rw [HL3.out x hx]; omega) (by have := HLM.out; omega) HS.out).mono ?_; rintro e w3 ⟨rfl, ys, hp, hs, ho, hb, hk⟩; have n1_ := Aside0.mk (Kd.S_mono ho (fun _ _ => trivial)); have n2_ := Aside0.mk hb; have n3_ := Aside0.mk hp; have n4_ := Aside0.mk hs; clear HS HB HM; have HO6 := n1_; have HB := n2_; have HPM := n3_; have HSO := n4_; clear n1_ n2_ n3_ n4_ ho hb hk hp hs))
                go_ret2
                exact ⟨_, rfl, by rw [← orb_sorted HND.out HPM.out HSO.out]; exact HO6.out, HB.out⟩
      · rw [if_neg c1] at h
        exact absurd h (by simp)
end Go.Proofs.Ythkmbkibceojlaa.P

-- GlawModOrbit
namespace Go.Proofs.Ythkmbkibceojlaa.P
open Go.RowKit Go.Proofs.YthkmbkibceojlaaW.PrintWords Go.Proofs.YthkmbkibceojlaaW.PrintLast
set_option linter.unusedVariables false
set_option linter.unusedSimpArgs false

def laws_FnExactModOrbit.f (k : Nat) (a0 : Int) (l1 : List Int) : Option Bool := if (l1.length : Int) > 1048576 then some true else ((spec_ModOrbit.f k a0 l1).bind fun a => ((impl_ModOrbit.f k a0 l1).bind fun b => if a = b ∧ a.1.length ≤ 1000000000000 ∧ total a.1 ≤ 1000000000000 then some true else none))
set_option maxHeartbeats 8000000 in
set_option maxRecDepth 100000 in
theorem laws_FnExactModOrbit.calls (k : Nat) (a0 : Int) (A1 : Option Addr) (c1 : Nat) (l1 : List Int) (r : Bool) (w : World) (hr1 : Kd.C (Kd.int .i64) w A1 l1.length l1) (hc1 : l1.length ≤ c1) (h : laws_FnExactModOrbit.f k a0 l1 = some r) :
    Calls Try.prog 10 #[.int .i64 a0, .slice A1 l1.length c1] w fun e w' => e = .returned (.bool r) ∧ Below w.heap.size w w' := by
  have HR0 := Aside0.mk hr1
  have HC0 := Aside0.mk hc1
  clear hr1 hc1
  have HB := Aside0.mk (Below.refl w.heap.size w)
  unfold laws_FnExactModOrbit.f at h
  by_cases c0_ : (l1.length : Int) > 1048576
  · rw [if_pos c0_] at h
    have c3b0 : decide (1048576 < (l1.length : Int)) = true := decide_eq_true c0_
    have c3b1 : decide (1048576 < l1.length) = true := decide_eq_true (by omega)
    clear c0_
    obtain rfl := Option.some.inj h
    go_enter Try.func10, Try.ntmps10
    go_wp2
    go_ret
    exact ⟨rfl, (by repeat (first | (with_reducible first | exact HB.out | apply below_alloc | apply pw_below_drewN | apply below_drew1) | exact HB.out))⟩
  · rw [if_neg c0_] at h
    obtain ⟨⟨W, bW⟩, hS, h⟩ := Option.bind_eq_some_iff.mp h
    obtain ⟨⟨V, bV⟩, hI, h⟩ := Option.bind_eq_some_iff.mp h
    by_cases hq : ((W, bW) : List (List Int) × Bool) = (V, bV) ∧ W.length ≤ 1000000000000 ∧ total W ≤ 1000000000000
    rotate_left
    · have h_ : (if ((W, bW) : List (List Int) × Bool) = (V, bV) ∧ W.length ≤ 1000000000000 ∧ total W ≤ 1000000000000 then some true else none) = some r := h
      rw [if_neg hq] at h_
      exact absurd h_ (by simp)
    have h_ : (if ((W, bW) : List (List Int) × Bool) = (V, bV) ∧ W.length ≤ 1000000000000 ∧ total W ≤ 1000000000000 then some true else none) = some r := h
    rw [if_pos hq] at h_
    obtain rfl := Option.some.inj h_
    clear h h_
    obtain ⟨he, hlen, htot⟩ := hq
    obtain ⟨hW, hb⟩ := Prod.mk.inj he
    clear he
    have e1 := eqIntSS_ev W hlen htot
    have e2 := heldIntSS_ev W hlen htot
    have hI2 := hI
    rw [← hW, ← hb] at hI2
    subst hb
    obtain ⟨K1, k1⟩ := e1
    obtain ⟨K2, k2⟩ := e2
    have HE := Aside0.mk (k1 K1 (Nat.le_refl _))
    have HH0 := Aside0.mk (k2 K2 (Nat.le_refl _))
    obtain ⟨tt, htt⟩ : ∃ tt : Int, 1 + (total W : Int) = tt := ⟨_, rfl⟩
    have ct0 : decide (tt < 0) = false := decide_eq_false (by omega)
    have ct1 : (tt == tt) = true := beq_self_eq_true tt
    have ct2 : (tt != tt) = false := bne_self_eq_false tt
    have HE2 : Aside0 (laws_eqIntSS.f K1 V W = some true) := ⟨by rw [← hW]; exact HE.out⟩
    have HH : Aside0 (laws_heldIntSS.f K2 (marked 1 V) 1 = some tt) := ⟨by rw [← hW, ← htt]; exact HH0.out⟩
    have HT : Aside0 (1 + (total V : Int) = tt) := ⟨by rw [← hW]; exact htt⟩
    have HTV : Aside0 (total V ≤ 1000000000000) := ⟨by rw [← hW]; exact htot⟩
    obtain ⟨U, hU⟩ : ∃ U : List (List Int), U = W := ⟨_, rfl⟩
    rw [← hU] at hI2
    have HE3 : Aside0 (laws_eqIntSS.f K1 U W = some true) := ⟨by rw [hU]; exact HE.out⟩
    have HS := Aside0.mk hS
    have HI := Aside0.mk hI
    have HI2 := Aside0.mk hI2
    clear hS hI hI2 hU hW htt hlen htot k1 k2 HE HH0
    have e3 := toIntS_ev l1 (by omega)
    have e4 := eqIntS_ev l1 l1 (by omega)
    have e5 := markIntS_ev l1 1 (by omega) (by omega) (by omega)
    rw [decide_eq_true rfl] at e4
    obtain ⟨K3, k3⟩ := e3
    obtain ⟨K4, k4⟩ := e4
    obtain ⟨K5, k5⟩ := e5
    have HT3 := Aside0.mk (k3 K3 (Nat.le_refl _))
    have HT4 := Aside0.mk (k4 K4 (Nat.le_refl _))
    obtain ⟨kk, hkk⟩ : ∃ kk : Int, 1 + (l1.length : Int) = kk := ⟨_, rfl⟩
    have HT5 : Aside0 (laws_markIntS.f K5 l1 1 = some (kk, upFrom 1 l1.length)) := ⟨by rw [← hkk]; exact k5 K5 (Nat.le_refl _)⟩
    have ck0 : decide (kk < 0) = false := decide_eq_false (by omega)
    have c3b0 : decide (1048576 < (l1.length : Int)) = false := decide_eq_false c0_
    have c3b1 : decide (1048576 < l1.length) = false := decide_eq_false (by omega)
    clear c0_ hkk k3 k4 k5
    go_enter Try.func10, Try.ntmps10
    go_upto_region 6 with (first | ((with_reducible refine gate_callee (f := 16) rfl ?_); refine goesL_ (some 21) rfl rfl Try.func16 (by kernel_rfl) rfl #[.slice A1 l1.length c1] rfl (by (try simp only [List.map_toArray, List.map_cons, List.map_nil]); first | done | rfl | (simp only [List.length_drop, List.length_take]; rfl)) ?_; refine (laws_toIntS.calls K3 _ _ l1 l1 _ (by repeat (first | exact (Kd.C_below HR0.out HB.out) | (with_reducible refine Kd.C_alloc ?_ _) | (with_reducible refine Kd.C_drewN ?_ _) | (with_reducible refine Kd.C_drew ?_))) HC0.out HT3.out).mono ?_; rintro e w9 ⟨v9, rfl, ho0, hb⟩; refine ⟨_, rfl, ?_⟩; have n1_ := Aside0.mk (below_step (by repeat (first | (with_reducible first | exact HB.out | apply below_alloc | apply pw_below_drewN | apply below_drew1) | exact HB.out)) hb); clear HB; have HB := n1_; obtain ⟨A9, c9, e9, hc9, hr9⟩ := Kd.R_reads ho0; subst e9; have HC9 := Aside0.mk hc9; have HR9 := Aside0.mk hr9; clear n1_ ho0 hb hc9 hr9) | ((with_reducible refine gate_callee (f := 36) rfl ?_); refine goesL_ (some 22) rfl rfl Try.func36 (by kernel_rfl) rfl #[.int .i64 a0, .slice A9 l1.length c9] rfl (by (try simp only [List.map_toArray, List.map_cons, List.map_nil]); first | done | rfl | (simp only [List.length_drop, List.length_take]; rfl)) ?_; refine (spec_ModOrbit.calls k a0 _ _ l1 W bW _ (by repeat (first | exact HR9.out | (with_reducible refine Kd.C_alloc ?_ _) | (with_reducible refine Kd.C_drewN ?_ _) | (with_reducible refine Kd.C_drew ?_))) HC9.out HS.out).mono ?_; rintro e w11 ⟨v11, rfl, ho0, hb⟩; refine ⟨_, rfl, ?_⟩; have hbw := below_step (by repeat (first | (with_reducible first | exact HB.out | apply below_alloc | apply pw_below_drewN | apply below_drew1) | exact HB.out)) hb; obtain ⟨Aw, cw, ew, hcw, hrw⟩ := Kd.N_reads ho0; subst ew; have HCW := Aside0.mk hrw; have HCC := Aside0.mk hcw; have HBW := Aside0.mk hbw; have HB1 := Aside0.mk (Below.refl w11.heap.size w11); clear hrw hcw hbw ho0 hb HB HR9 HC9) | ((with_reducible refine gate_callee (f := 16) rfl ?_); refine goesL_ (some 26) rfl rfl Try.func16 (by kernel_rfl) rfl #[.slice A1 l1.length c1] rfl (by (try simp only [List.map_toArray, List.map_cons, List.map_nil]); first | done | rfl | (simp only [List.length_drop, List.length_take]; rfl)) ?_; refine (laws_toIntS.calls K3 _ _ l1 l1 _ (by repeat (first | exact (Kd.C_below HR0.out (below_step HBW.out (by repeat (first | (with_reducible first | exact HB1.out | apply below_alloc | apply pw_below_drewN | apply below_drew1) | exact HB1.out)))) | (with_reducible refine Kd.C_alloc ?_ _) | (with_reducible refine Kd.C_drewN ?_ _) | (with_reducible refine Kd.C_drew ?_))) HC0.out HT3.out).mono ?_; rintro e w12 ⟨v12, rfl, ho0, hb⟩; refine ⟨_, rfl, ?_⟩; have n0_ := Aside0.mk (Kd.R_lower ho0 (below_size (by repeat (first | (with_reducible first | exact HB1.out | apply below_alloc | apply pw_below_drewN | apply below_drew1) | exact HB1.out)))); have n1_ := Aside0.mk (below_step (by repeat (first | (with_reducible first | exact HB1.out | apply below_alloc | apply pw_below_drewN | apply below_drew1) | exact HB1.out)) hb); clear HB1; have HX := n0_; have HB1 := n1_; clear n0_ n1_ ho0 hb; obtain ⟨Ax, cx, ex⟩ := Kd.R_slice HX.out; subst ex) | ((with_reducible refine gate_callee (f := 37) rfl ?_); refine goesL_ (some 30) rfl rfl Try.func37 (by kernel_rfl) rfl #[.int .i64 a0, .slice Ax l1.length cx] rfl (by (try simp only [List.map_toArray, List.map_cons, List.map_nil]); first | done | rfl | (simp only [List.length_drop, List.length_take]; rfl)) ?_; refine (impl_ModOrbit.calls k a0 _ _ l1 V bW _ (by repeat (first | exact (Kd.R_reads' HX.out).2.2 | (with_reducible refine Kd.C_alloc ?_ _) | (with_reducible refine Kd.C_drewN ?_ _) | (with_reducible refine Kd.C_drew ?_))) (Kd.R_reads' HX.out).2.1 HI.out).mono ?_; rintro e w14 ⟨v14, rfl, ho0, hb⟩; refine ⟨_, rfl, ?_⟩; have n0_ := Aside0.mk (Kd.S_lower (Kd.S_new' ho0 (Kd.R_lt (by (with_reducible repeat (first | apply Kd.R_alloc | apply Kd.R_drewN | apply Kd.R_drew)); exact HX.out))) (below_size (by repeat (first | (with_reducible first | exact HB1.out | apply below_alloc | apply pw_below_drewN | apply below_drew1) | exact HB1.out)))); have n1_ := Aside0.mk (below_step (by repeat (first | (with_reducible first | exact HB1.out | apply below_alloc | apply pw_below_drewN | apply below_drew1) | exact HB1.out)) hb); have n2_ := Aside0.mk (Kd.R_below (by (with_reducible repeat (first | apply Kd.R_alloc | apply Kd.R_drewN | apply Kd.R_drew)); exact HX.out) hb); clear HB1 HX; have HG := n0_; have HB1 := n1_; have HX := n2_; clear n0_ n1_ n2_ ho0 hb; obtain ⟨Ag, cg, eg⟩ := Kd.S_slice HG.out; subst eg))
    (try simp only [Act.put, List.setIfInBounds_toArray, List.set_cons_zero, List.set_cons_succ])
    go_cut [41] (fun v41 wc => v41 = .bool false ∧ Aside0 (Kd.R (Kd.int .i64) 3 wc w11.heap.size (fun _ => True) (Value.slice Ax l1.length cx) l1) ∧ Aside0 (Kd.S (Kd.slice 3 (Kd.int .i64)) 22 wc w11.heap.size (fun k_ => True ∧ some k_ ≠ (Value.slice Ax l1.length cx).ownBlock) (.slice Ag V.length cg) V) ∧ Aside0 (Below w11.heap.size w11 wc))
    case first =>
      go_wp2_with (first | ((with_reducible refine gate_callee (f := 33) rfl ?_); refine goesL_ (some 35) rfl rfl Try.func33 (by kernel_rfl) rfl #[.slice Ag V.length cg, .slice Aw W.length cw] rfl (by (try simp only [List.map_toArray, List.map_cons, List.map_nil]); first | done | rfl | (simp only [List.length_drop, List.length_take]; rfl)) ?_; refine (laws_eqIntSS.calls K1 _ _ V _ _ W true _ (by repeat (first | exact (Kd.S_reads' HG.out).2.2 | (with_reducible refine Kd.C_alloc ?_ _) | (with_reducible refine Kd.C_drewN ?_ _) | (with_reducible refine Kd.C_drew ?_))) (Kd.S_reads' HG.out).2.1 (by repeat (first | exact (Kd.C_below HCW.out (by repeat (first | (with_reducible first | exact HB1.out | apply below_alloc | apply pw_below_drewN | apply below_drew1) | exact HB1.out))) | (with_reducible refine Kd.C_alloc ?_ _) | (with_reducible refine Kd.C_drewN ?_ _) | (with_reducible refine Kd.C_drew ?_))) HCC.out HE2.out).mono ?_; rintro e w' ⟨rfl, ⟨nd, rfl⟩⟩; refine ⟨_, rfl, ?_⟩) | (go_at_call 33; refine (laws_eqIntSS.calls K1 _ _ V _ _ W true _ (by repeat (first | exact (Kd.S_reads' HG.out).2.2 | (with_reducible refine Kd.C_alloc ?_ _) | (with_reducible refine Kd.C_drewN ?_ _) | (with_reducible refine Kd.C_drew ?_))) (Kd.S_reads' HG.out).2.1 (by repeat (first | exact (Kd.C_below HCW.out (by repeat (first | (with_reducible first | exact HB1.out | apply below_alloc | apply pw_below_drewN | apply below_drew1) | exact HB1.out))) | (with_reducible refine Kd.C_alloc ?_ _) | (with_reducible refine Kd.C_drewN ?_ _) | (with_reducible refine Kd.C_drew ?_))) HCC.out HE2.out).mono ?_; rintro e w' ⟨rfl, ⟨nd, rfl⟩⟩))
      go_meet
      case rel => exact ⟨by simp, ⟨(by (with_reducible repeat (first | apply Kd.R_alloc | apply Kd.R_drewN | apply Kd.R_drew)); exact HX.out)⟩, ⟨(by (with_reducible repeat (first | apply Kd.S_alloc | apply Kd.S_drewN | apply Kd.S_drew)); exact HG.out)⟩, ⟨(by repeat (first | (with_reducible first | exact HB1.out | apply below_alloc | apply pw_below_drewN | apply below_drew1) | exact HB1.out))⟩⟩
    case rest =>
      clear HX HG HB1
      obtain ⟨rfl, HX, HG, HB1⟩ := hcut
      go_upto_region 12 with (first | ((with_reducible refine gate_callee (f := 16) rfl ?_); refine goesL_ (some 44) rfl rfl Try.func16 (by kernel_rfl) rfl #[.slice A1 l1.length c1] rfl (by (try simp only [List.map_toArray, List.map_cons, List.map_nil]); first | done | rfl | (simp only [List.length_drop, List.length_take]; rfl)) ?_; refine (laws_toIntS.calls K3 _ _ l1 l1 _ (by repeat (first | exact (Kd.C_below HR0.out (below_step HBW.out (by repeat (first | (with_reducible first | exact HB1.out | apply below_alloc | apply pw_below_drewN | apply below_drew1) | exact HB1.out)))) | (with_reducible refine Kd.C_alloc ?_ _) | (with_reducible refine Kd.C_drewN ?_ _) | (with_reducible refine Kd.C_drew ?_))) HC0.out HT3.out).mono ?_; rintro e w15 ⟨v15, rfl, ho0, hb⟩; refine ⟨_, rfl, ?_⟩; have n0_ := Aside0.mk (Kd.R_below (by (with_reducible repeat (first | apply Kd.R_alloc | apply Kd.R_drewN | apply Kd.R_drew)); exact HX.out) hb); have n1_ := Aside0.mk (below_step (by repeat (first | (with_reducible first | exact HB1.out | apply below_alloc | apply pw_below_drewN | apply below_drew1) | exact HB1.out)) hb); have n2_ := Aside0.mk (Kd.S_below (by (with_reducible repeat (first | apply Kd.S_alloc | apply Kd.S_drewN | apply Kd.S_drew)); exact HG.out) hb); clear HB1 HX HG; have HX := n0_; have HB1 := n1_; have HG := n2_; obtain ⟨A3, c3, e3, hc3, hr3⟩ := Kd.R_reads ho0; subst e3; have HC3 := Aside0.mk hc3; have HR3 := Aside0.mk hr3; clear n0_ n1_ n2_ ho0 hb hc3 hr3) | ((with_reducible refine gate_callee (f := 18) rfl ?_); refine goesL_ (some 45) rfl rfl Try.func18 (by kernel_rfl) rfl #[.slice Ax l1.length cx, .slice A3 l1.length c3] rfl (by (try simp only [List.map_toArray, List.map_cons, List.map_nil]); first | done | rfl | (simp only [List.length_drop, List.length_take]; rfl)) ?_; refine (laws_eqIntS.calls K4 _ _ l1 _ _ l1 true _ (by repeat (first | exact (Kd.R_reads' HX.out).2.2 | (with_reducible refine Kd.C_alloc ?_ _) | (with_reducible refine Kd.C_drewN ?_ _) | (with_reducible refine Kd.C_drew ?_))) (Kd.R_reads' HX.out).2.1 (by repeat (first | exact HR3.out | (with_reducible refine Kd.C_alloc ?_ _) | (with_reducible refine Kd.C_drewN ?_ _) | (with_reducible refine Kd.C_drew ?_))) HC3.out HT4.out).mono ?_; rintro e w' ⟨rfl, ⟨nd, rfl⟩⟩; refine ⟨_, rfl, ?_⟩) | ((with_reducible refine gate_callee (f := 21) rfl ?_); refine goesL_ (some 49) rfl rfl Try.func21 (by kernel_rfl) rfl #[.slice Ax l1.length cx, .int .i64 1] rfl (by (try simp only [List.map_toArray, List.map_cons, List.map_nil]); first | done | rfl | (simp only [List.length_drop, List.length_take]; rfl)) ?_; refine (laws_markIntS.calls K5 (fun k_ => some k_ = (Value.slice Ax l1.length cx).ownBlock) (Value.slice Ax l1.length cx) l1 1 _ _ w11 _ (by repeat (first | (with_reducible first | exact HB1.out | apply below_alloc | apply pw_below_drewN | apply below_drew1) | exact HB1.out)) (Kd.R_tight rfl (by (with_reducible repeat (first | apply Kd.R_alloc | apply Kd.R_drewN | apply Kd.R_drew)); exact HX.out)) HT5.out).mono ?_; rintro e w16 ⟨rfl, hy0, hb, hkp⟩; refine ⟨_, rfl, ?_⟩; have n0_ := Aside0.mk (Kd.S_kept (ok := fun k_ => True ∧ some k_ ≠ (Value.slice Ax l1.length cx).ownBlock) (by (with_reducible repeat (first | apply Kd.S_alloc | apply Kd.S_drewN | apply Kd.S_drew)); exact HG.out) hkp (fun k_ hk he => hk.2 he)); clear HB1 HX HG hy0 hkp; have HG := n0_; have HB1 := Aside0.mk hb; clear n0_ hb))
      (try simp only [Act.put, List.setIfInBounds_toArray, List.set_cons_zero, List.set_cons_succ])
      go_cut [62] (fun v62 wc => v62 = .bool false ∧ Aside0 (Kd.S (Kd.slice 3 (Kd.int .i64)) 22 wc w11.heap.size (fun k_ => True ∧ some k_ ≠ (Value.slice Ax l1.length cx).ownBlock) (.slice Ag V.length cg) V) ∧ Aside0 (Below w11.heap.size w11 wc))
      case first =>
        try rw [ck0]
        go_wp2_with (first | ((with_reducible refine gate_callee (f := 33) rfl ?_); refine goesL_ (some 55) rfl rfl Try.func33 (by kernel_rfl) rfl #[.slice Ag V.length cg, .slice Aw W.length cw] rfl (by (try simp only [List.map_toArray, List.map_cons, List.map_nil]); first | done | rfl | (simp only [List.length_drop, List.length_take]; rfl)) ?_; refine (laws_eqIntSS.calls K1 _ _ V _ _ W true _ (by repeat (first | exact (Kd.S_reads' HG.out).2.2 | (with_reducible refine Kd.C_alloc ?_ _) | (with_reducible refine Kd.C_drewN ?_ _) | (with_reducible refine Kd.C_drew ?_))) (Kd.S_reads' HG.out).2.1 (by repeat (first | exact (Kd.C_below HCW.out (by repeat (first | (with_reducible first | exact HB1.out | apply below_alloc | apply pw_below_drewN | apply below_drew1) | exact HB1.out))) | (with_reducible refine Kd.C_alloc ?_ _) | (with_reducible refine Kd.C_drewN ?_ _) | (with_reducible refine Kd.C_drew ?_))) HCC.out HE2.out).mono ?_; rintro e w' ⟨rfl, ⟨nd, rfl⟩⟩; refine ⟨_, rfl, ?_⟩) | (go_at_call 33; refine (laws_eqIntSS.calls K1 _ _ V _ _ W true _ (by repeat (first | exact (Kd.S_reads' HG.out).2.2 | (with_reducible refine Kd.C_alloc ?_ _) | (with_reducible refine Kd.C_drewN ?_ _) | (with_reducible refine Kd.C_drew ?_))) (Kd.S_reads' HG.out).2.1 (by repeat (first | exact (Kd.C_below HCW.out (by repeat (first | (with_reducible first | exact HB1.out | apply below_alloc | apply pw_below_drewN | apply below_drew1) | exact HB1.out))) | (with_reducible refine Kd.C_alloc ?_ _) | (with_reducible refine Kd.C_drewN ?_ _) | (with_reducible refine Kd.C_drew ?_))) HCC.out HE2.out).mono ?_; rintro e w' ⟨rfl, ⟨nd, rfl⟩⟩))
        go_meet
        case rel => exact ⟨by simp, ⟨(by (with_reducible repeat (first | apply Kd.S_alloc | apply Kd.S_drewN | apply Kd.S_drew)); exact HG.out)⟩, ⟨(by repeat (first | (with_reducible first | exact HB1.out | apply below_alloc | apply pw_below_drewN | apply below_drew1) | exact HB1.out))⟩⟩
      case rest =>
        clear HG HB1
        obtain ⟨rfl, HG, HB1⟩ := hcut
        go_upto_region 23 with (first | ((with_reducible refine gate_callee (f := 34) rfl ?_); refine goesL_ (some 65) rfl rfl Try.func34 (by kernel_rfl) rfl #[.slice Ag V.length cg, .int .i64 1] rfl (by (try simp only [List.map_toArray, List.map_cons, List.map_nil]); first | done | rfl | (simp only [List.length_drop, List.length_take]; rfl)) ?_; refine (markSS_calls (fun k_ => True ∧ some k_ ≠ (Value.slice Ax l1.length cx).ownBlock) _ V tt HT.out w11 _ (by repeat (first | (with_reducible first | exact HB1.out | apply below_alloc | apply pw_below_drewN | apply below_drew1) | exact HB1.out)) (by (with_reducible repeat (first | apply Kd.S_alloc | apply Kd.S_drewN | apply Kd.S_drew)); exact HG.out) HTV.out).mono ?_; rintro e w17 ⟨rfl, hs, hb, hk⟩; refine ⟨_, rfl, ?_⟩; clear HB1 HG; have HG := Aside0.mk hs; have HB1 := Aside0.mk hb; clear hs hb hk) | ((with_reducible refine gate_callee (f := 35) rfl ?_); refine goesL_ (some 68) rfl rfl Try.func35 (by kernel_rfl) rfl #[.slice Ag V.length cg, .int .i64 1] rfl (by (try simp only [List.map_toArray, List.map_cons, List.map_nil]); first | done | rfl | (simp only [List.length_drop, List.length_take]; rfl)) ?_; refine (heldSS_calls K2 V Ag cg tt 22 _ _ _ (by (with_reducible repeat (first | apply Kd.S_alloc | apply Kd.S_drewN | apply Kd.S_drew)); exact HG.out) HH.out).mono ?_; rintro e w' ⟨rfl, ⟨nd, rfl⟩⟩; refine ⟨_, rfl, ?_⟩) | ((with_reducible refine gate_callee (f := 16) rfl ?_); refine goesL_ (some 77) rfl rfl Try.func16 (by kernel_rfl) rfl #[.slice A1 l1.length c1] rfl (by (try simp only [List.map_toArray, List.map_cons, List.map_nil]); first | done | rfl | (simp only [List.length_drop, List.length_take]; rfl)) ?_; refine (laws_toIntS.calls K3 _ _ l1 l1 _ (by repeat (first | exact (Kd.C_below HR0.out (below_step HBW.out (by repeat (first | (with_reducible first | exact HB1.out | apply below_alloc | apply pw_below_drewN | apply below_drew1) | exact HB1.out)))) | (with_reducible refine Kd.C_alloc ?_ _) | (with_reducible refine Kd.C_drewN ?_ _) | (with_reducible refine Kd.C_drew ?_))) HC0.out HT3.out).mono ?_; rintro e w18 ⟨v18, rfl, ho0, hb⟩; refine ⟨_, rfl, ?_⟩; have n1_ := Aside0.mk (below_step (by repeat (first | (with_reducible first | exact HB1.out | apply below_alloc | apply pw_below_drewN | apply below_drew1) | exact HB1.out)) hb); have n2_ := Aside0.mk (Kd.S_below (by (with_reducible repeat (first | apply Kd.S_alloc | apply Kd.S_drewN | apply Kd.S_drew)); exact HG.out) hb); clear HB1 HG; have HB1 := n1_; have HG := n2_; obtain ⟨A4, c4, e4, hc4, hr4⟩ := Kd.R_reads ho0; subst e4; have HC4 := Aside0.mk hc4; have HR4 := Aside0.mk hr4; clear n1_ n2_ ho0 hb hc4 hr4) | ((with_reducible refine gate_callee (f := 37) rfl ?_); refine goesL_ (some 78) rfl rfl Try.func37 (by kernel_rfl) rfl #[.int .i64 a0, .slice A4 l1.length c4] rfl (by (try simp only [List.map_toArray, List.map_cons, List.map_nil]); first | done | rfl | (simp only [List.length_drop, List.length_take]; rfl)) ?_; refine (impl_ModOrbit.calls k a0 _ _ l1 U bW _ (by repeat (first | exact HR4.out | (with_reducible refine Kd.C_alloc ?_ _) | (with_reducible refine Kd.C_drewN ?_ _) | (with_reducible refine Kd.C_drew ?_))) HC4.out HI2.out).mono ?_; rintro e w19 ⟨v19, rfl, ho0, hb⟩; refine ⟨_, rfl, ?_⟩; have n0_ := Aside0.mk ho0; have n1_ := Aside0.mk (below_step (by repeat (first | (with_reducible first | exact HB1.out | apply below_alloc | apply pw_below_drewN | apply below_drew1) | exact HB1.out)) hb); have n2_ := Aside0.mk (Kd.S_below (by (with_reducible repeat (first | apply Kd.S_alloc | apply Kd.S_drewN | apply Kd.S_drew)); exact HG.out) hb); clear HB1 HG; have HH_ := n0_; have HB1 := n1_; have HG := n2_; clear n0_ n1_ n2_ ho0 hb; obtain ⟨Ah, ch, eh⟩ := Kd.S_slice HH_.out; subst eh))
        (try simp only [Act.put, List.setIfInBounds_toArray, List.set_cons_zero, List.set_cons_succ])
        go_cut [89] (fun v89 wc => v89 = .bool false ∧ Aside0 (Kd.S (Kd.slice 3 (Kd.int .i64)) 22 wc w11.heap.size (fun k_ => True ∧ some k_ ≠ (Value.slice Ax l1.length cx).ownBlock) (.slice Ag V.length cg) (marked 1 V)) ∧ Aside0 (Below w11.heap.size w11 wc))
        case first =>
          go_wp2_with (first | ((with_reducible refine gate_callee (f := 33) rfl ?_); refine goesL_ (some 83) rfl rfl Try.func33 (by kernel_rfl) rfl #[.slice Ah U.length ch, .slice Aw W.length cw] rfl (by (try simp only [List.map_toArray, List.map_cons, List.map_nil]); first | done | rfl | (simp only [List.length_drop, List.length_take]; rfl)) ?_; refine (laws_eqIntSS.calls K1 _ _ U _ _ W true _ (by repeat (first | exact (Kd.S_reads' HH_.out).2.2 | (with_reducible refine Kd.C_alloc ?_ _) | (with_reducible refine Kd.C_drewN ?_ _) | (with_reducible refine Kd.C_drew ?_))) (Kd.S_reads' HH_.out).2.1 (by repeat (first | exact (Kd.C_below HCW.out (by repeat (first | (with_reducible first | exact HB1.out | apply below_alloc | apply pw_below_drewN | apply below_drew1) | exact HB1.out))) | (with_reducible refine Kd.C_alloc ?_ _) | (with_reducible refine Kd.C_drewN ?_ _) | (with_reducible refine Kd.C_drew ?_))) HCC.out HE3.out).mono ?_; rintro e w' ⟨rfl, ⟨nd, rfl⟩⟩; refine ⟨_, rfl, ?_⟩) | (go_at_call 33; refine (laws_eqIntSS.calls K1 _ _ U _ _ W true _ (by repeat (first | exact (Kd.S_reads' HH_.out).2.2 | (with_reducible refine Kd.C_alloc ?_ _) | (with_reducible refine Kd.C_drewN ?_ _) | (with_reducible refine Kd.C_drew ?_))) (Kd.S_reads' HH_.out).2.1 (by repeat (first | exact (Kd.C_below HCW.out (by repeat (first | (with_reducible first | exact HB1.out | apply below_alloc | apply pw_below_drewN | apply below_drew1) | exact HB1.out))) | (with_reducible refine Kd.C_alloc ?_ _) | (with_reducible refine Kd.C_drewN ?_ _) | (with_reducible refine Kd.C_drew ?_))) HCC.out HE3.out).mono ?_; rintro e w' ⟨rfl, ⟨nd, rfl⟩⟩))
          go_meet
          case rel => exact ⟨by simp, ⟨(by (with_reducible repeat (first | apply Kd.S_alloc | apply Kd.S_drewN | apply Kd.S_drew)); exact HG.out)⟩, ⟨(by repeat (first | (with_reducible first | exact HB1.out | apply below_alloc | apply pw_below_drewN | apply below_drew1) | exact HB1.out))⟩⟩
        case rest =>
          clear HG HB1
          obtain ⟨rfl, HG, HB1⟩ := hcut
          go_wp2_with (first | ((with_reducible refine gate_callee (f := 35) rfl ?_); refine goesL_ (some 92) rfl rfl Try.func35 (by kernel_rfl) rfl #[.slice Ag V.length cg, .int .i64 1] rfl (by (try simp only [List.map_toArray, List.map_cons, List.map_nil]); first | done | rfl | (simp only [List.length_drop, List.length_take]; rfl)) ?_; refine (heldSS_calls K2 V Ag cg tt 22 _ _ _ (by (with_reducible repeat (first | apply Kd.S_alloc | apply Kd.S_drewN | apply Kd.S_drew)); exact HG.out) HH.out).mono ?_; rintro e w' ⟨rfl, ⟨nd, rfl⟩⟩; refine ⟨_, rfl, ?_⟩))
          go_ret
          exact ⟨rfl, below_step HBW.out (by repeat (first | (with_reducible first | exact HB1.out | apply below_alloc | apply pw_below_drewN | apply below_drew1) | exact HB1.out))⟩
end Go.Proofs.Ythkmbkibceojlaa.P

-- PFFnExactModOrbit
namespace Go.Proofs.Ythkmbkibceojlaa.P
open Go.RowKit Go.Proofs.YthkmbkibceojlaaW.PrintWords Go.Proofs.YthkmbkibceojlaaW.PrintLast
set_option linter.unusedVariables false
set_option linter.unusedSimpArgs false

/-! ### laws_FnExactModOrbit: function 10 -/
def laws_FnExactModOrbit.Pure : Prop := ∀ (a0 : Int) (l1 : List Int), (Lit.int .i64 a0).wf = true → l1.length ≤ maxLen → l1.length * 8 ≤ 140737488351232 → (∀ x ∈ l1, (Lit.int .i64 x).wf = true) → ∃ k, laws_FnExactModOrbit.f k a0 l1 = some true
theorem laws_FnExactModOrbit.walk (P : laws_FnExactModOrbit.Pure) (a0 : Int) (a1 : Option Addr) (len1 cap1 : Nat) (z1 : List Int) (w : World) (w0 : (Lit.int .i64 a0).wf = true) (w1 : (a1 = none ∧ len1 = 0 ∧ cap1 = 0 ∧ z1 = []) ∨ ∃ x, a1 = some x ∧ len1 ≤ cap1 ∧ cap1 ≤ maxLen ∧ z1.length = cap1 ∧ (∀ i, i < z1.length → w.cell? (x.add i) = some (.int .i64 (z1.getD i 0))) ∧ ∀ n ∈ z1, (Lit.int .i64 n).wf = true) (y1 : len1 * 8 ≤ 140737488351232) :
  Calls Try.prog 10 #[.int .i64 a0, .slice a1 len1 cap1] w fun e w' => e = .returned (.bool true) ∧ Below w.heap.size w w' := by
 obtain ⟨l1, rfl, hr1, hm1, hw1, hc1⟩ := ReadsInt.ofRowC w1
 obtain ⟨k, h⟩ := P a0 l1 w0 hm1 y1 hw1
 refine (laws_FnExactModOrbit.calls k a0 _ _ l1 true w (Kd.C_of_reads (d := (0 : Int)) (h1 := fun _ => rfl) hr1) hc1 h).mono ?_
 rintro e w' ⟨rfl, hd⟩
 exact ⟨rfl, hd⟩

end Go.Proofs.Ythkmbkibceojlaa.P

-- Uorbit
namespace Go.Proofs.Ythkmbkibceojlaa.P
set_option linter.unusedVariables false
set_option linter.unusedSimpArgs false
open Go.RowKit Go.Proofs.YthkmbkibceojlaaW.PrintWords Go.Proofs.YthkmbkibceojlaaW.PrintLast Go.Proofs.YthkmbkibceojlaaW.PrintMore
theorem smallPrime_is {p : Int} (h : smallPrime p = true) : p = 2 ∨ p = 3 ∨ p = 5 ∨ p = 7 ∨ p = 11 ∨ p = 13 := by
  unfold smallPrime at h
  simp only [List.any_cons, List.any_nil, Bool.or_false, Bool.or_eq_true, beq_iff_eq] at h
  omega
/-- Three numbers in 0 .. p - 1. -/
def Val (p : Int) (x : List Int) : Prop := ∃ a b c, x = [a, b, c] ∧ (0 ≤ a ∧ a < p) ∧ (0 ≤ b ∧ b < p) ∧ (0 ≤ c ∧ c < p)
theorem Val.len {p : Int} {x : List Int} (h : Val p x) : x.length = 3 := by
  obtain ⟨a, b, c, rfl, _⟩ := h
  rfl
theorem modVal {p x : Int} (hp : 2 ≤ p ∧ p ≤ 13) (hx : -1000 ≤ x ∧ x ≤ 1000) : Int.tmod (wrap64 (Int.tmod (wrap64 x) p + p)) p = x % p := by
  have h1 := Int.lt_tmod_of_pos x (b := p) (by omega)
  have h2 := Int.tmod_lt_of_pos x (b := p) (by omega)
  rw [w64 (x := x) (by omega) (by omega), w64 (by omega) (by omega), Int.tmod_eq_emod_of_nonneg (by omega), Int.tmod_def]
  rw [show x - p * x.tdiv p + p = x + p * (1 - x.tdiv p) by rw [Int.mul_sub]; omega, Int.add_mul_emod_self_left]
def mvT (p : Int) : List Int → Nat → List Int
  | [a, b, c], 0 => [(3 * b * c - a) % p, b, c]
  | [a, b, c], 1 => [a, (3 * c * a - b) % p, c]
  | [a, b, c], 2 => [a, b, (3 * a * b - c) % p]
  | x, _ => x
theorem mv_val {p : Int} (hp : 2 ≤ p ∧ p ≤ 13) {x : List Int} (h : Val p x) (i : Nat) (hi : i < 3) : Val p (mvT p x i) := by
  obtain ⟨a, b, c, rfl, ha, hb, hc⟩ := h
  have m : ∀ z : Int, 0 ≤ z % p ∧ z % p < p := fun z => ⟨Int.emod_nonneg _ (by omega), Int.emod_lt_of_pos _ (by omega)⟩
  have h3 : i = 0 ∨ i = 1 ∨ i = 2 := by omega
  rcases h3 with rfl | rfl | rfl
  · exact ⟨_, _, _, rfl, m _, hb, hc⟩
  · exact ⟨_, _, _, rfl, ha, m _, hc⟩
  · exact ⟨_, _, _, rfl, ha, hb, m _⟩
theorem prod12 {p a b : Int} (hp : 2 ≤ p ∧ p ≤ 13) (ha : 0 ≤ a ∧ a < p) (hb : 0 ≤ b ∧ b < p) : 0 ≤ 3 * a * b ∧ 3 * a * b ≤ 432 := by
  have h1 : 0 ≤ a * b := Int.mul_nonneg ha.1 hb.1
  have h2 : a * b ≤ 12 * 12 := Int.mul_le_mul (by omega) (by omega) hb.1 (by omega)
  have h3 : 3 * a * b = 3 * (a * b) := Int.mul_assoc _ _ _
  omega
theorem mv_is {p : Int} (hp : 2 ≤ p ∧ p ≤ 13) {x : List Int} (h : Val p x) (i : Nat) (hi : i < 3) : spec_mkModMove.f p x (i : Int) = some (mvT p x i) := by
  obtain ⟨a, b, c, rfl, ha, hb, hc⟩ := h
  have hp0 : ¬ p = 0 := by omega
  have hl : (([a, b, c] : List Int).length : Int) = 3 := rfl
  have o3 : spec_l1Own.f [a, b, c] = some [a, b, c] := (own_three _ (by simp)).1
  have h3 : i = 0 ∨ i = 1 ∨ i = 2 := by omega
  unfold spec_mkModMove.f
  rcases h3 with rfl | rfl | rfl
  · have e1 : Int.tmod (wrap64 (((0 : Nat) : Int) + 1)) 3 = 1 := by decide +kernel
    have e2 : Int.tmod (wrap64 (((0 : Nat) : Int) + 2)) 3 = 2 := by decide +kernel
    have hq := prod12 hp hb hc
    have r1 : rd [a, b, c] 1 = b := rfl
    have r2 : rd [a, b, c] 2 = c := rfl
    have r0 : rd [a, b, c] ((0 : Nat) : Int) = a := rfl
    have q0 : (0 : Int) ≤ 1 := by decide
    have q1 : (1 : Int) < 3 := by decide
    have q2 : (2 : Int) < 3 := by decide
    have q3 : (0 : Int) ≤ 2 := by decide
    have q4 : (0 : Int) ≤ ((0 : Nat) : Int) := by decide
    have q5 : ((0 : Nat) : Int) < 3 := by decide
    simp only [o3, Option.bind_some, e1, e2, hl, q0, q1, q2, q3, q4, q5, hp0, if_true, if_false, r0, r1, r2]
    rw [w64 (x := 3 * b) (by omega) (by omega), w64 (x := 3 * b * c) (by omega) (by omega), modVal hp (by omega)]
    rfl
  · have e1 : Int.tmod (wrap64 (((1 : Nat) : Int) + 1)) 3 = 2 := by decide +kernel
    have e2 : Int.tmod (wrap64 (((1 : Nat) : Int) + 2)) 3 = 0 := by decide +kernel
    have hq := prod12 hp hc ha
    have r1 : rd [a, b, c] 2 = c := rfl
    have r2 : rd [a, b, c] 0 = a := rfl
    have r0 : rd [a, b, c] ((1 : Nat) : Int) = b := rfl
    have q0 : (0 : Int) ≤ 0 := by decide
    have q1 : (0 : Int) < 3 := by decide
    have q2 : (2 : Int) < 3 := by decide
    have q3 : (0 : Int) ≤ 2 := by decide
    have q4 : (0 : Int) ≤ ((1 : Nat) : Int) := by decide
    have q5 : ((1 : Nat) : Int) < 3 := by decide
    simp only [o3, Option.bind_some, e1, e2, hl, q0, q1, q2, q3, q4, q5, hp0, if_true, if_false, r0, r1, r2]
    rw [w64 (x := 3 * c) (by omega) (by omega), w64 (x := 3 * c * a) (by omega) (by omega), modVal hp (by omega)]
    rfl
  · have e1 : Int.tmod (wrap64 (((2 : Nat) : Int) + 1)) 3 = 0 := by decide +kernel
    have e2 : Int.tmod (wrap64 (((2 : Nat) : Int) + 2)) 3 = 1 := by decide +kernel
    have hq := prod12 hp ha hb
    have r1 : rd [a, b, c] 0 = a := rfl
    have r2 : rd [a, b, c] 1 = b := rfl
    have r0 : rd [a, b, c] ((2 : Nat) : Int) = c := rfl
    have q0 : (0 : Int) ≤ 0 := by decide
    have q1 : (0 : Int) < 3 := by decide
    have q2 : (1 : Int) < 3 := by decide
    have q3 : (0 : Int) ≤ 1 := by decide
    have q4 : (0 : Int) ≤ ((2 : Nat) : Int) := by decide
    have q5 : ((2 : Nat) : Int) < 3 := by decide
    simp only [o3, Option.bind_some, e1, e2, hl, q0, q1, q2, q3, q4, q5, hp0, if_true, if_false, r0, r1, r2]
    rw [w64 (x := 3 * a) (by omega) (by omega), w64 (x := 3 * a * b) (by omega) (by omega), modVal hp (by omega)]
    rfl
theorem goodT_val {p : Int} (hp : 2 ≤ p ∧ p ≤ 13) {x : List Int} (h : Val p x) : goodT x = true := by
  obtain ⟨a, b, c, rfl, ha, hb, hc⟩ := h
  unfold goodT
  simp
  omega
def addM (o : List (List Int)) (u : List Int) : List (List Int) := if u ∈ o then o else o ++ [u]
theorem addM_mem (o : List (List Int)) (u z : List Int) : z ∈ addM o u ↔ z ∈ o ∨ z = u := by
  unfold addM
  split
  · rename_i h
    exact ⟨.inl, fun h2 => h2.elim id (fun e => e ▸ h)⟩
  · simp
theorem addM_nodup {o : List (List Int)} (h : o.Nodup) (u : List Int) : (addM o u).Nodup := by
  unfold addM
  split
  · exact h
  · rename_i h2
    rw [List.nodup_append]
    refine ⟨h, by simp, ?_⟩
    intro a ha b hb e
    rw [List.mem_singleton] at hb
    exact h2 (by rw [← hb, ← e]; exact ha)
theorem addM_len (o : List (List Int)) (u : List Int) : o.length ≤ (addM o u).length := by
  unfold addM
  split <;> simp
theorem addM_get (o : List (List Int)) (u : List Int) (i : Nat) (h : i < o.length) : rd_L1 (addM o u) (i : Int) = rd_L1 o (i : Int) := by
  unfold addM rd_L1
  split
  · rfl
  · simp [List.getD_eq_getElem?_getD, List.getElem?_append_left h]
theorem rdL1_in (o : List (List Int)) (i : Nat) (h : i < o.length) : rd_L1 o (i : Int) ∈ o := by
  unfold rd_L1
  simp [List.getD_eq_getElem?_getD, h]
/-- The table. -/
def Tab (p : Int) (T : List Bool) (o : List (List Int)) : Prop := (T.length : Int) = p * p * p ∧ ∀ a b c, (0 ≤ a ∧ a < p) → (0 ≤ b ∧ b < p) → (0 ≤ c ∧ c < p) → rdOf false T ((a * p + b) * p + c) = decide ([a, b, c] ∈ o)
theorem idx_wrap {p : Int} (hP : smallPrime p = true) {a b c : Int} (ha : 0 ≤ a ∧ a < p) (hb : 0 ≤ b ∧ b < p) (hc : 0 ≤ c ∧ c < p) : wrap64 ((wrap64 ((wrap64 ((wrap64 (a * p)) + b)) * p)) + c) = (a * p + b) * p + c := by
  rcases smallPrime_is hP with rfl | rfl | rfl | rfl | rfl | rfl <;> (unfold wrap64; omega)
theorem idx_in {p : Int} (hP : smallPrime p = true) {a b c : Int} (ha : 0 ≤ a ∧ a < p) (hb : 0 ≤ b ∧ b < p) (hc : 0 ≤ c ∧ c < p) : 0 ≤ (a * p + b) * p + c ∧ (a * p + b) * p + c < p * p * p := by
  rcases smallPrime_is hP with rfl | rfl | rfl | rfl | rfl | rfl <;> omega
theorem idx_inj {p : Int} (hP : smallPrime p = true) {a b c a' b' c' : Int} (ha : 0 ≤ a ∧ a < p) (hb : 0 ≤ b ∧ b < p) (hc : 0 ≤ c ∧ c < p) (ha' : 0 ≤ a' ∧ a' < p) (hb' : 0 ≤ b' ∧ b' < p) (hc' : 0 ≤ c' ∧ c' < p) (h : (a * p + b) * p + c = (a' * p + b') * p + c') : a = a' ∧ b = b' ∧ c = c' := by
  rcases smallPrime_is hP with rfl | rfl | rfl | rfl | rfl | rfl <;> omega
theorem tab_set {p : Int} (hP : smallPrime p = true) {T : List Bool} {o : List (List Int)} (h : Tab p T o) {a b c : Int} (ha : 0 ≤ a ∧ a < p) (hb : 0 ≤ b ∧ b < p) (hc : 0 ≤ c ∧ c < p) : Tab p (T.set ((a * p + b) * p + c).toNat true) (o ++ [[a, b, c]]) := by
  have hi := idx_in hP ha hb hc
  have hl := h.1
  refine ⟨by rw [List.length_set]; exact h.1, fun a' b' c' ha' hb' hc' => ?_⟩
  have hj := idx_in hP ha' hb' hc'
  have h0 := h.2 a' b' c' ha' hb' hc'
  unfold rdOf at h0 ⊢
  rw [List.getD_eq_getElem?_getD] at h0 ⊢
  rw [List.getElem?_set]
  by_cases he : (a * p + b) * p + c = (a' * p + b') * p + c'
  · obtain ⟨rfl, rfl, rfl⟩ := idx_inj hP ha hb hc ha' hb' hc' he
    rw [if_pos rfl, if_pos (by omega)]
    simp
  · rw [if_neg (by omega), h0]
    have hne : ¬ ([a', b', c'] : List Int) = [a, b, c] := fun e => he (by
      simp only [List.cons.injEq, and_true] at e
      rw [e.1, e.2.1, e.2.2])
    simp [hne]
theorem tab_first {p : Int} (hP : smallPrime p = true) {a b c : Int} (ha : 0 ≤ a ∧ a < p) (hb : 0 ≤ b ∧ b < p) (hc : 0 ≤ c ∧ c < p) : Tab p ((List.replicate (p * p * p).toNat false).set ((a * p + b) * p + c).toNat true) [[a, b, c]] := by
  have h0 : Tab p (List.replicate (p * p * p).toNat false) [] := by
    refine ⟨?_, fun a' b' c' ha' hb' hc' => ?_⟩
    · rw [List.length_replicate]
      have := idx_in hP ha hb hc
      omega
    · unfold rdOf
      rw [List.getD_eq_getElem?_getD, List.getElem?_replicate]
      split <;> simp
  exact tab_set hP h0 ha hb hc
end Go.Proofs.Ythkmbkibceojlaa.P

-- Uorbit2
namespace Go.Proofs.Ythkmbkibceojlaa.P
set_option linter.unusedVariables false
set_option linter.unusedSimpArgs false
open Go.RowKit Go.Proofs.YthkmbkibceojlaaW.PrintWords Go.Proofs.YthkmbkibceojlaaW.PrintLast Go.Proofs.YthkmbkibceojlaaW.PrintMore
/-- Lists that stand once and lie in others are no more than these. -/
theorem nodup_le : ∀ (G F : List (List Int)), G.Nodup → (∀ x ∈ G, x ∈ F) → G.length ≤ F.length
  | [], F, _, _ => by simp
  | x :: G, F, hn, hs => by
    rw [List.nodup_cons] at hn
    have hx := hs x List.mem_cons_self
    have ih := nodup_le G (F.erase x) hn.2 (fun y hy => by
      have hne : y ≠ x := fun e => hn.1 (e ▸ hy)
      exact (List.mem_erase_of_ne hne).2 (hs y (List.mem_cons_of_mem _ hy)))
    have he := List.length_erase_of_mem hx
    have hp := List.length_pos_of_mem hx
    rw [List.length_cons]
    omega
/-- The triple that stands at a place of the table. -/
def tri (p : Int) (n : Nat) : List Int := [(n : Int) / (p * p), (n : Int) / p % p, (n : Int) % p]
theorem tri_idx {p : Int} (hP : smallPrime p = true) {a b c : Int} (ha : 0 ≤ a ∧ a < p) (hb : 0 ≤ b ∧ b < p) (hc : 0 ≤ c ∧ c < p) : tri p ((a * p + b) * p + c).toNat = [a, b, c] := by
  have hi := (idx_in hP ha hb hc).1
  unfold tri
  rw [Int.toNat_of_nonneg hi]
  simp only [List.cons.injEq, and_true]
  rcases smallPrime_is hP with rfl | rfl | rfl | rfl | rfl | rfl <;> simp only [Int.reduceMul] <;> refine ⟨by omega, by omega, by omega⟩
theorem tri_val {p : Int} (hP : smallPrime p = true) {n : Nat} (h : (n : Int) < p * p * p) : Val p (tri p n) ∧ ((n : Int) / (p * p) * p + (n : Int) / p % p) * p + (n : Int) % p = n := by
  refine ⟨⟨_, _, _, rfl, ?_⟩, ?_⟩ <;> rcases smallPrime_is hP with rfl | rfl | rfl | rfl | rfl | rfl <;> simp only [Int.reduceMul] at h ⊢ <;> omega
theorem size_is {p : Int} (hP : smallPrime p = true) : ((p * p * p).toNat : Int) = p * p * p ∧ (p * p * p).toNat ≤ 2197 := by
  rcases smallPrime_is hP with rfl | rfl | rfl | rfl | rfl | rfl <;> decide
theorem orb_len {p : Int} (hP : smallPrime p = true) {o : List (List Int)} (hn : o.Nodup) (hv : ∀ x ∈ o, Val p x) : o.length ≤ (p * p * p).toNat := by
  have h := nodup_le o ((List.range (p * p * p).toNat).map (tri p)) hn (fun x hx => by
    obtain ⟨a, b, c, rfl, ha, hb, hc⟩ := hv x hx
    rw [List.mem_map]
    have hi := idx_in hP ha hb hc
    have hs := (size_is hP).1
    exact ⟨((a * p + b) * p + c).toNat, by rw [List.mem_range]; omega, tri_idx hP ha hb hc⟩)
  rw [List.length_map, List.length_range] at h
  exact h
/-- One move in the program's text. -/
theorem orbIn_step {p : Int} (hp : 2 ≤ p ∧ p ≤ 13) {o : List (List Int)} {kk : Int} (i j : Nat) (hi : i < 3) (hv : Val p (rd_L1 o kk)) (hl : o.length < 1000000) : orbIn p kk (j + 1) (i : Int) o = orbIn p kk j ((i + 1 : Nat) : Int) (addM o (mvT p (rd_L1 o kk) i)) := by
  have h1 := mv_is hp hv i hi
  rw [← modMoved_same p _ _ hv.len] at h1
  have hw : wrap64 ((i : Int) + 1) = ((i + 1 : Nat) : Int) := w64_succ (n := 3) hi (by omega)
  rw [orbIn, h1]
  simp only [Option.bind_some, goodT_val hp (mv_val hp hv i hi), if_true, hw, hl]
  unfold addM
  split <;> rfl
theorem l1_step {p : Int} (hP : smallPrime p = true) {T : List Bool} {o : List (List Int)} (hT : Tab p T o) {kk : Nat} (hk : kk < o.length) (hv : ∀ x ∈ o, Val p x) (hl : o.length < 1000000) (i : Nat) (hi : i < 3) :
    ∃ T', Tab p T' (addM o (mvT p (rd_L1 o (kk : Int)) i)) ∧ ∀ r, Ev (fun k => spec_ModOrbit.l1 k p T' (addM o (mvT p (rd_L1 o (kk : Int)) i)) (kk : Int) ((i + 1 : Nat) : Int)) r → Ev (fun k => spec_ModOrbit.l1 k p T o (kk : Int) (i : Int)) r := by
  have hb := smallPrime_bd hP
  have hv1 := hv _ (rdL1_in o kk hk)
  have hm := mv_is hb hv1 i hi
  obtain ⟨a, b, c, hu, ha, hb', hc⟩ := mv_val hb hv1 i hi
  have hx := idx_wrap hP ha hb' hc
  have hin := idx_in hP ha hb' hc
  have c1 : (i : Int) < 3 := by omega
  have c2 : (0 : Int) ≤ (kk : Int) := by omega
  have c3 : (kk : Int) < (o.length : Int) := by omega
  have hw : wrap64 ((i : Int) + 1) = ((i + 1 : Nat) : Int) := w64_succ (n := 3) hi (by omega)
  have hl3 : (([a, b, c] : List Int).length : Int) = 3 := rfl
  have q0 : (0 : Int) < 3 := by decide
  have q1 : (1 : Int) < 3 := by decide
  have q2 : (2 : Int) < 3 := by decide
  have r0 : rd [a, b, c] 0 = a := rfl
  have r1 : rd [a, b, c] 1 = b := rfl
  have r2 : rd [a, b, c] 2 = c := rfl
  have d1 : 0 ≤ (a * p + b) * p + c := hin.1
  have d2 : (a * p + b) * p + c < (T.length : Int) := by rw [hT.1]; exact hin.2
  have hr := hT.2 a b c ha hb' hc
  have hs : o.length < 5864062014805 := by omega
  by_cases hmem : [a, b, c] ∈ o
  · have e : addM o (mvT p (rd_L1 o (kk : Int)) i) = o := by unfold addM; rw [hu, if_pos hmem]
    rw [e]
    refine ⟨T, hT, fun r hr2 => ?_⟩
    rw [decide_eq_true hmem] at hr
    exact Ev.step (fun k => by simp only [spec_ModOrbit.l1, c1, c2, c3, if_true, hm, hu, Option.bind_some, hl3, q0, q1, q2, r0, r1, r2, hx, d1, d2, hr, hw]) hr2
  · have e : addM o (mvT p (rd_L1 o (kk : Int)) i) = o ++ [[a, b, c]] := by unfold addM; rw [hu, if_neg hmem]
    rw [e]
    refine ⟨_, tab_set hP hT ha hb' hc, fun r hr2 => ?_⟩
    rw [decide_eq_false hmem] at hr
    exact Ev.step (fun k => by simp only [spec_ModOrbit.l1, c1, c2, c3, if_true, hm, hu, Option.bind_some, hl3, q0, q1, q2, r0, r1, r2, hx, d1, d2, hr, hw, hs, Bool.false_eq_true, if_false]) hr2
theorem orbit_run {p : Int} (hP : smallPrime p = true) : ∀ (d : Nat) (o : List (List Int)) (T : List Bool) (kk : Nat), Tab p T o → (∀ x ∈ o, Val p x) → o.Nodup → kk ≤ o.length → kk + d = (p * p * p).toNat → (∀ j, j < kk → ∀ i, i < 3 → mvT p (rd_L1 o (j : Int)) i ∈ o) →
    ∃ (Q : List (List Int)) (T' : List Bool), Tab p T' Q ∧ (∀ x ∈ Q, Val p x) ∧ Q.Nodup ∧ (∀ x ∈ o, x ∈ Q) ∧ (∀ x ∈ Q, ∀ i, i < 3 → mvT p x i ∈ Q) ∧ (∀ C : List Int → Prop, (∀ x ∈ o, C x) → (∀ x, Val p x → C x → ∀ i, i < 3 → C (mvT p x i)) → ∀ x ∈ Q, C x) ∧
      Ev (fun k => orbL p k o (kk : Int)) (sortDedup Q) ∧ ∀ r, Ev (fun k => spec_ModOrbit.l2 k p [] T' (T'.length : Int) 0) r → Ev (fun k => spec_ModOrbit.l0 k p T o (kk : Int)) r := by
  have hb := smallPrime_bd hP
  intro d
  induction d with
  | zero =>
    intro o T kk hT hv hn hk hd hcl
    have hle := orb_len hP hn hv
    have c1 : ¬ (kk : Int) < (o.length : Int) := by omega
    refine ⟨o, T, hT, hv, hn, fun _ h => h, ?_, fun C h1 _ => h1, Ev.step (f := fun _ => some (sortDedup o)) (fun k => by simp only [orbL, c1, if_false]) (Ev.is rfl), fun r hr => Ev.step (fun k => by simp only [spec_ModOrbit.l0, c1, if_false]) hr⟩
    intro x hx i hi
    obtain ⟨j, hj, rfl⟩ := List.getElem_of_mem hx
    have h2 := hcl j (by omega) i hi
    rw [show rd_L1 o (j : Int) = o[j] by unfold rd_L1; simp [List.getD_eq_getElem?_getD, hj]] at h2
    exact h2
  | succ d ih =>
    intro o T kk hT hv hn hk hd hcl
    have hle := orb_len hP hn hv
    have hsz := (size_is hP).2
    by_cases c1 : kk < o.length
    · have c1z : (kk : Int) < (o.length : Int) := by omega
      have hx0 := hv _ (rdL1_in o kk c1)
      obtain ⟨T1, hT1, s1⟩ := l1_step hP hT c1 hv (by omega) 0 (by omega)
      have hv1 : ∀ x ∈ addM o (mvT p (rd_L1 o (kk : Int)) 0), Val p x := fun x hx => ((addM_mem _ _ _).1 hx).elim (hv x) (fun e => e ▸ mv_val hb hx0 0 (by omega))
      have hn1 := addM_nodup hn (mvT p (rd_L1 o (kk : Int)) 0)
      have hl1 := addM_len o (mvT p (rd_L1 o (kk : Int)) 0)
      have g1 := addM_get o (mvT p (rd_L1 o (kk : Int)) 0) kk c1
      have i1 := orbIn_step hb (o := o) (kk := (kk : Int)) 0 2 (by omega) hx0 (by omega)
      have m1 := addM_mem o (mvT p (rd_L1 o (kk : Int)) 0)
      have k1 : ∀ j, j < o.length → rd_L1 (addM o (mvT p (rd_L1 o (kk : Int)) 0)) (j : Int) = rd_L1 o (j : Int) := fun j hj => addM_get o _ j hj
      generalize hO1 : addM o (mvT p (rd_L1 o (kk : Int)) 0) = o1 at *
      have hle1 := orb_len hP hn1 hv1
      obtain ⟨T2, hT2, s2⟩ := l1_step hP hT1 (kk := kk) (by omega) hv1 (by omega) 1 (by omega)
      rw [g1] at hT2 s2
      have hv2 : ∀ x ∈ addM o1 (mvT p (rd_L1 o (kk : Int)) 1), Val p x := fun x hx => ((addM_mem _ _ _).1 hx).elim (hv1 x) (fun e => e ▸ mv_val hb hx0 1 (by omega))
      have hn2 := addM_nodup hn1 (mvT p (rd_L1 o (kk : Int)) 1)
      have hl2 := addM_len o1 (mvT p (rd_L1 o (kk : Int)) 1)
      have g2 := addM_get o1 (mvT p (rd_L1 o (kk : Int)) 1) kk (by omega)
      have i2 := orbIn_step hb (o := o1) (kk := (kk : Int)) 1 1 (by omega) (by rw [g1]; exact hx0) (by omega)
      rw [g1] at i2
      have m2 := addM_mem o1 (mvT p (rd_L1 o (kk : Int)) 1)
      have k2 : ∀ j, j < o1.length → rd_L1 (addM o1 (mvT p (rd_L1 o (kk : Int)) 1)) (j : Int) = rd_L1 o1 (j : Int) := fun j hj => addM_get o1 _ j hj
      generalize hO2 : addM o1 (mvT p (rd_L1 o (kk : Int)) 1) = o2 at *
      have hle2 := orb_len hP hn2 hv2
      rw [g1] at g2
      obtain ⟨T3, hT3, s3⟩ := l1_step hP hT2 (kk := kk) (by omega) hv2 (by omega) 2 (by omega)
      rw [g2] at hT3 s3
      have hv3 : ∀ x ∈ addM o2 (mvT p (rd_L1 o (kk : Int)) 2), Val p x := fun x hx => ((addM_mem _ _ _).1 hx).elim (hv2 x) (fun e => e ▸ mv_val hb hx0 2 (by omega))
      have hn3 := addM_nodup hn2 (mvT p (rd_L1 o (kk : Int)) 2)
      have hl3 := addM_len o2 (mvT p (rd_L1 o (kk : Int)) 2)
      have g3 := addM_get o2 (mvT p (rd_L1 o (kk : Int)) 2) kk (by omega)
      have i3 := orbIn_step hb (o := o2) (kk := (kk : Int)) 2 0 (by omega) (by rw [g2]; exact hx0) (by omega)
      rw [g2] at i3 g3
      have m3 := addM_mem o2 (mvT p (rd_L1 o (kk : Int)) 2)
      have k3 : ∀ j, j < o2.length → rd_L1 (addM o2 (mvT p (rd_L1 o (kk : Int)) 2)) (j : Int) = rd_L1 o2 (j : Int) := fun j hj => addM_get o2 _ j hj
      generalize hO3 : addM o2 (mvT p (rd_L1 o (kk : Int)) 2) = o3 at *
      have hsub : ∀ x ∈ o, x ∈ o3 := fun x hx => (m3 x).2 (.inl ((m2 x).2 (.inl ((m1 x).2 (.inl hx)))))
      have hrow : ∀ i, i < 3 → mvT p (rd_L1 o (kk : Int)) i ∈ o3 := by
        intro i hi
        have h3 : i = 0 ∨ i = 1 ∨ i = 2 := by omega
        rcases h3 with rfl | rfl | rfl
        · exact (m3 _).2 (.inl ((m2 _).2 (.inl ((m1 _).2 (.inr rfl)))))
        · exact (m3 _).2 (.inl ((m2 _).2 (.inr rfl)))
        · exact (m3 _).2 (.inr rfl)
      have hget : ∀ j, j < o.length → rd_L1 o3 (j : Int) = rd_L1 o (j : Int) := fun j hj => (k3 j (by omega)).trans ((k2 j (by omega)).trans (k1 j hj))
      have hw : wrap64 ((kk : Int) + 1) = ((kk + 1 : Nat) : Int) := w64_succ c1 (by omega)
      have hin : orbIn p (kk : Int) 3 0 o = some o3 := by
        have h0 : orbIn p (kk : Int) 3 ((0 : Nat) : Int) o = some o3 := by
          rw [i1, i2, i3]
          rfl
        exact h0
      obtain ⟨Q, T', hTQ, hvQ, hnQ, hs, hclQ, hleast, e1, e2⟩ := ih o3 T3 (kk + 1) hT3 hv3 hn3 (by omega) (by omega) (by
        intro j hj i hi
        rw [hget j (by omega)]
        by_cases hj2 : j = kk
        · subst hj2
          exact hrow i hi
        · exact hsub _ (hcl j (by omega) i hi))
      refine ⟨Q, T', hTQ, hvQ, hnQ, fun x hx => hs x (hsub x hx), hclQ, ?_, ?_, ?_⟩
      · intro C h1 h2
        refine hleast C ?_ h2
        have h0 := h1 _ (rdL1_in o kk c1)
        intro x hx
        rcases (m3 x).1 hx with hx | rfl
        · rcases (m2 x).1 hx with hx | rfl
          · rcases (m1 x).1 hx with hx | rfl
            · exact h1 x hx
            · exact h2 _ hx0 h0 0 (by omega)
          · exact h2 _ hx0 h0 1 (by omega)
        · exact h2 _ hx0 h0 2 (by omega)
      · exact Ev.step (fun k => by simp only [orbL, c1z, if_true, hin, Option.bind_some, hw]) e1
      · intro r hr
        have h3 : Ev (fun k => spec_ModOrbit.l1 k p T3 o3 (kk : Int) ((2 + 1 : Nat) : Int)) r := by
          have c3 : ¬ ((2 + 1 : Nat) : Int) < 3 := by decide
          exact Ev.step (fun k => by simp only [spec_ModOrbit.l1, c3, if_false, hw]) (e2 r hr)
        have h0 := s1 r (s2 r (s3 r h3))
        exact Ev.step (fun k => by simp only [spec_ModOrbit.l0, c1z, if_true]; rfl) h0
    · have c1z : ¬ (kk : Int) < (o.length : Int) := by omega
      refine ⟨o, T, hT, hv, hn, fun _ h => h, ?_, fun C h1 _ => h1, Ev.step (f := fun _ => some (sortDedup o)) (fun k => by simp only [orbL, c1z, if_false]) (Ev.is rfl), fun r hr => Ev.step (fun k => by simp only [spec_ModOrbit.l0, c1z, if_false]) hr⟩
      intro x hx i hi
      obtain ⟨j, hj, rfl⟩ := List.getElem_of_mem hx
      have h2 := hcl j (by omega) i hi
      rw [show rd_L1 o (j : Int) = o[j] by unfold rd_L1; simp [List.getD_eq_getElem?_getD, hj]] at h2
      exact h2
end Go.Proofs.Ythkmbkibceojlaa.P

-- Uorbit3
namespace Go.Proofs.Ythkmbkibceojlaa.P
set_option linter.unusedVariables false
set_option linter.unusedSimpArgs false
open Go.RowKit Go.Proofs.YthkmbkibceojlaaW.PrintWords Go.Proofs.YthkmbkibceojlaaW.PrintLast Go.Proofs.YthkmbkibceojlaaW.PrintMore
theorem tri_is {p : Int} (hP : smallPrime p = true) {n : Nat} (h : (n : Int) < p * p * p) : ([wrap64 (Int.tdiv (n : Int) (wrap64 (p * p))), Int.tmod (wrap64 (Int.tdiv (n : Int) p)) p, Int.tmod (n : Int) p] : List Int) = tri p n := by
  have hw : wrap64 (p * p) = p * p := by rcases smallPrime_is hP with rfl | rfl | rfl | rfl | rfl | rfl <;> decide +kernel
  have hb := smallPrime_bd hP
  have hs := (size_is hP).2
  have h0 : (0 : Int) ≤ (n : Int) := by omega
  have h1 : 0 ≤ (n : Int) / p := Int.ediv_nonneg h0 (by omega)
  have h2 : (n : Int) / p ≤ n := Int.ediv_le_self _ h0
  have h3 : 0 ≤ (n : Int) / (p * p) := Int.ediv_nonneg h0 (Int.mul_nonneg (by omega) (by omega))
  have h4 : (n : Int) / (p * p) ≤ n := Int.ediv_le_self _ h0
  have h5 : n < 2197 := by omega
  rw [hw, Int.tdiv_eq_ediv_of_nonneg h0, Int.tdiv_eq_ediv_of_nonneg h0, w64 (x := (n : Int) / (p * p)) (by omega) (by omega), w64 (x := (n : Int) / p) (by omega) (by omega), Int.tmod_eq_emod_of_nonneg h1, Int.tmod_eq_emod_of_nonneg h0]
  rfl
theorem tri_lt {p : Int} (hP : smallPrime p = true) {n m : Nat} (h : n < m) : cmpL (tri p n) (tri p m) < 0 := by
  have key : (n : Int) / (p * p) < (m : Int) / (p * p) ∨ (n : Int) / (p * p) = (m : Int) / (p * p) ∧ ((n : Int) / p % p < (m : Int) / p % p ∨ (n : Int) / p % p = (m : Int) / p % p ∧ (n : Int) % p < (m : Int) % p) := by
    rcases smallPrime_is hP with rfl | rfl | rfl | rfl | rfl | rfl <;> simp only [Int.reduceMul] <;> omega
  unfold tri
  generalize (n : Int) / (p * p) = a at *
  generalize (m : Int) / (p * p) = a' at *
  generalize (n : Int) / p % p = b at *
  generalize (m : Int) / p % p = b' at *
  generalize (n : Int) % p = c at *
  generalize (m : Int) % p = c' at *
  simp only [cmpL]
  rcases key with h1 | ⟨rfl, h1 | ⟨rfl, h1⟩⟩
  · rw [if_pos h1]
    decide
  · rw [if_neg (by omega), if_neg (by omega), if_pos h1]
    decide
  · rw [if_neg (by omega), if_neg (by omega), if_neg (by omega), if_neg (by omega), if_pos h1]
    decide
def accT (p : Int) (T : List Bool) (n : Nat) : List (List Int) := ((List.range n).filter (fun m : Nat => rdOf false T (m : Int))).map (tri p)
theorem accT_succ (p : Int) (T : List Bool) (n : Nat) : accT p T (n + 1) = accT p T n ++ (if rdOf false T (n : Int) = true then [tri p n] else []) := by
  unfold accT
  rw [List.range_succ, List.filter_append, List.map_append]
  congr 1
  by_cases h : rdOf false T (n : Int) = true
  · simp [h]
  · simp [h]
theorem accT_len (p : Int) (T : List Bool) (n : Nat) : (accT p T n).length ≤ n := by
  unfold accT
  rw [List.length_map]
  have := List.length_filter_le (fun m : Nat => rdOf false T (m : Int)) (List.range n)
  rw [List.length_range] at this
  exact this
theorem l2_run {p : Int} (hP : smallPrime p = true) {T : List Bool} (hT : (T.length : Int) = p * p * p) : ∀ (d n : Nat), n + d = T.length → Ev (fun k => spec_ModOrbit.l2 k p (accT p T n) T (T.length : Int) (n : Int)) (accT p T T.length, true) := by
  have hb := smallPrime_bd hP
  have hs := size_is hP
  have hp0 : ¬ p = 0 := by omega
  have hpp : ¬ wrap64 (p * p) = 0 := by rcases smallPrime_is hP with rfl | rfl | rfl | rfl | rfl | rfl <;> decide +kernel
  intro d
  induction d with
  | zero =>
    intro n hn
    have c1 : ¬ (n : Int) < (T.length : Int) := by omega
    obtain rfl : n = T.length := by omega
    exact Ev.step (f := fun _ => some (accT p T T.length, true)) (fun k => by simp only [spec_ModOrbit.l2, c1, if_false]) (Ev.is rfl)
  | succ d ih =>
    intro n hn
    have c1 : (n : Int) < (T.length : Int) := by omega
    have c2 : (0 : Int) ≤ (n : Int) := by omega
    have hw : wrap64 ((n : Int) + 1) = ((n + 1 : Nat) : Int) := w64_succ (n := T.length) (by omega) (by omega)
    have hl := accT_len p T n
    have hl2 : (accT p T n).length < 5864062014805 := by omega
    have ht := tri_is hP (n := n) (by omega)
    have ih1 := ih (n + 1) (by omega)
    rw [accT_succ] at ih1
    by_cases hr : rdOf false T (n : Int) = true
    · rw [if_pos hr] at ih1
      exact Ev.step (fun k => by simp only [spec_ModOrbit.l2, c1, c2, if_true, hr, hpp, hp0, if_false, hl2, ht, hw]) ih1
    · rw [if_neg hr, List.append_nil] at ih1
      exact Ev.step (fun k => by simp only [spec_ModOrbit.l2, c1, c2, if_true, hr, Bool.false_eq_true, if_false, hw]) ih1
theorem accT_is {p : Int} (hP : smallPrime p = true) {T : List Bool} {Q : List (List Int)} (hT : Tab p T Q) (hv : ∀ x ∈ Q, Val p x) : accT p T T.length = sortDedup Q := by
  refine sortDedup_is ?_ ?_
  · unfold accT
    rw [List.pairwise_map, List.pairwise_filter]
    exact List.pairwise_lt_range.imp (fun h _ _ => tri_lt hP h)
  · intro z
    unfold accT
    rw [List.mem_map]
    constructor
    · rintro ⟨m, hm, rfl⟩
      rw [List.mem_filter, List.mem_range] at hm
      have h1 := tri_val hP (n := m) (by rw [← hT.1]; omega)
      obtain ⟨a, b, c, he, ha, hb, hc⟩ := h1.1
      have h2 := hT.2 a b c ha hb hc
      rw [← he] at h2
      have h3 := h1.2
      unfold tri at he
      simp only [List.cons.injEq, and_true] at he
      obtain ⟨e1, e2, e3⟩ := he
      rw [e1, e2, e3] at h3
      rw [h3, hm.2] at h2
      exact of_decide_eq_true h2.symm
    · intro hz
      obtain ⟨a, b, c, rfl, ha, hb, hc⟩ := hv z hz
      have hi := idx_in hP ha hb hc
      refine ⟨((a * p + b) * p + c).toNat, ?_, tri_idx hP ha hb hc⟩
      rw [List.mem_filter, List.mem_range]
      have hl := hT.1
      refine ⟨by omega, ?_⟩
      rw [Int.toNat_of_nonneg hi.1, hT.2 a b c ha hb hc]
      exact decide_eq_true hz
/-- What is reached from a triple. -/
def OrbQ (p : Int) (l : List Int) (Q : List (List Int)) : Prop := Q.Nodup ∧ (∀ x ∈ Q, Val p x) ∧ l ∈ Q ∧ (∀ x ∈ Q, ∀ i, i < 3 → mvT p x i ∈ Q) ∧ ∀ C : List Int → Prop, C l → (∀ x, Val p x → C x → ∀ i, i < 3 → C (mvT p x i)) → ∀ x ∈ Q, C x
theorem mod_val {p : Int} (hp : 2 ≤ p ∧ p ≤ 13) : ∀ {l : List Int}, mkModB p l = true → Val p l
  | [x, y, z], h => by
    have he : mkModB p [x, y, z] = ([x, y, z].all (inB 0 (wrap64 (p - 1))) && (!(wrap64 (wrap64 (x + y) + z) == 0) && (Int.tmod (wrap64 ((wrap64 ((wrap64 ((wrap64 (x * x)) + (wrap64 (y * y)))) + (wrap64 (z * z)))) - (wrap64 ((wrap64 ((wrap64 (3 * x)) * y)) * z)))) p == 0))) := rfl
    rw [he, Bool.and_eq_true, w64 (by omega) (by omega)] at h
    have h1 := three_all h.1
    exact ⟨x, y, z, rfl, by omega, by omega, by omega⟩
theorem total_val {p : Int} : ∀ {o : List (List Int)}, (∀ x ∈ o, Val p x) → total o = 3 * o.length
  | [], _ => rfl
  | x :: o, h => by
    have h1 := (h x List.mem_cons_self).len
    have h2 := total_val (o := o) (fun y hy => h y (List.mem_cons_of_mem _ hy))
    show x.length + total o = 3 * (o.length + 1)
    omega
theorem ModOrbit_both (p : Int) (l : List Int) (hn : l.length ≤ 4611686018427387904) : ∃ r : List (List Int) × Bool, Ev (fun k => spec_ModOrbit.f k p l) r ∧ Ev (fun k => impl_ModOrbit.f k p l) r ∧ r.1.length ≤ 2197 ∧ total r.1 ≤ 6591 ∧ r.2 = (smallPrime p && mkModB p l) ∧ (r.2 = true → ∃ Q, r.1 = sortDedup Q ∧ OrbQ p l Q) := by
  have e1 := mkPrime_ev p
  have e2 := isModulus_ev p
  have hbad : Ev (fun k => spec_ModOrbit.j0 k p l true) ([], false) := Ev.step (f := fun _ => some ([], false)) (fun k => by simp only [spec_ModOrbit.j0, if_true]) (Ev.is rfl)
  unfold spec_ModOrbit.f impl_ModOrbit.f
  cases hp : smallPrime p with
  | false =>
    rw [hp] at e1 e2
    refine ⟨([], false), Ev.bind e1 ?_, Ev.bind e2 ?_, by simp, by simp [total], rfl, fun h => by simp at h⟩
    · simp only [Bool.false_eq_true, if_false]
      exact hbad
    · simp only [Bool.false_eq_true, if_false]
      exact Ev.is rfl
  | true =>
    rw [hp] at e1 e2
    have hb := smallPrime_bd hp
    have hm := isMod_is p hb l
    have hs : spec_mkMod.f p l = some (mkModB p l) := rfl
    rw [hm, hs]
    cases hM : mkModB p l with
    | false =>
      refine ⟨([], false), Ev.bind e1 ?_, Ev.bind e2 ?_, by simp, by simp [total], rfl, fun h => by simp at h⟩
      · simp only [if_true, Option.bind_some, Bool.not_false]
        exact hbad
      · simp only [if_true, Option.bind_some, Bool.false_eq_true, if_false]
        exact Ev.is rfl
    | true =>
      have hv := mod_val hb hM
      have hg := goodT_val hb hv
      have ho := own_three l (by rw [hv.len]; omega)
      obtain ⟨a, b, c, rfl, ha, hb', hc⟩ := hv
      have hsz := size_is hp
      have hi := idx_in hp ha hb' hc
      have ht := tab_first hp ha hb' hc
      obtain ⟨Q, T', hTQ, hvQ, hnQ, hsub, hcl, hleast, r1, r2⟩ := orbit_run hp (p * p * p).toNat [[a, b, c]] _ 0 ht (fun x hx => by rw [List.mem_singleton] at hx; rw [hx]; exact ⟨a, b, c, rfl, ha, hb', hc⟩) (by simp) (by omega) (by omega) (fun j hj => absurd hj (by omega))
      have h2 := r2 (sortDedup Q, true) (by
        have h3 := l2_run hp hTQ.1 T'.length 0 (by omega)
        rw [accT_is hp hTQ hvQ] at h3
        exact h3)
      have hlQ := orb_len hp hnQ hvQ
      have hvS : ∀ x ∈ sortDedup Q, Val p x := fun x hx => hvQ x ((sortDedup_mem x Q).1 hx)
      have hl : (sortDedup Q).length ≤ Q.length := nodup_le _ _ ((sortDedup_sorted Q).imp (fun {a b} h e => by subst e; rw [cmpL_self] at h; omega)) (fun x hx => (sortDedup_mem x Q).1 hx)
      refine ⟨(sortDedup Q, true), Ev.bind e1 ?_, Ev.bind e2 ?_, by show (sortDedup Q).length ≤ 2197; omega, by show total (sortDedup Q) ≤ 6591; rw [total_val hvS]; omega, rfl, fun _ => ⟨Q, rfl, hnQ, hvQ, hsub _ (by simp), hcl, fun C h1 h2 => hleast C (fun x hx => by rw [List.mem_singleton] at hx; rw [hx]; exact h1) h2⟩⟩
      · simp only [if_true, Option.bind_some, Bool.not_true]
        have hw : wrap64 (wrap64 (p * p) * p) = p * p * p := by rcases smallPrime_is hp with rfl | rfl | rfl | rfl | rfl | rfl <;> decide +kernel
        have q1 : 0 ≤ p * p * p := by omega
        have q2 : (p * p * p).toNat ≤ 281474976710656 := by omega
        have hl3 : (([a, b, c] : List Int).length : Int) = 3 := rfl
        have q3 : (0 : Int) < 3 := by decide
        have q4 : (1 : Int) < 3 := by decide
        have q5 : (2 : Int) < 3 := by decide
        have s0 : rd [a, b, c] 0 = a := rfl
        have s1 : rd [a, b, c] 1 = b := rfl
        have s2 : rd [a, b, c] 2 = c := rfl
        have hx := idx_wrap hp ha hb' hc
        have d1 : 0 ≤ (a * p + b) * p + c := hi.1
        have d2 : (a * p + b) * p + c < ((List.replicate (p * p * p).toNat false).length : Int) := by rw [List.length_replicate, hsz.1]; exact hi.2
        exact Ev.step (fun k => by simp only [spec_ModOrbit.j0, Bool.false_eq_true, if_false, hw, q1, q2, if_true, Option.bind_some, hl3, q3, q4, q5, s0, s1, s2, hx, d1, d2, ho.1]; rfl) h2
      · simp only [if_true, Option.bind_some, hg, ho.2]
        exact Ev.bind r1 (Ev.is rfl)
end Go.Proofs.Ythkmbkibceojlaa.P

-- PureFnExactModOrbit
namespace Go.Proofs.Ythkmbkibceojlaa.Pure
set_option linter.unusedVariables false
set_option linter.unusedSimpArgs false
open Go.RowKit Go.Proofs.Ythkmbkibceojlaa.P Go.Proofs.YthkmbkibceojlaaW.PrintWords Go.Proofs.YthkmbkibceojlaaW.PrintLast
theorem FnExactModOrbit : laws_FnExactModOrbit.Pure := by
  intro p l _ _ hl _
  refine Ev.rounds ?_
  unfold laws_FnExactModOrbit.f
  by_cases h : (l.length : Int) > 1048576
  · simp only [h, if_true]
    exact Ev.is rfl
  · simp only [h, if_false]
    obtain ⟨r, e1, e2, h3, h4, _⟩ := ModOrbit_both p l (by omega)
    have hr2 : r.1.length ≤ 1000000000000 ∧ total r.1 ≤ 1000000000000 := by omega
    refine Ev.bind e1 (Ev.bind e2 ?_)
    simp only [hr2, and_self, if_true]
    exact Ev.is rfl
end Go.Proofs.Ythkmbkibceojlaa.Pure
