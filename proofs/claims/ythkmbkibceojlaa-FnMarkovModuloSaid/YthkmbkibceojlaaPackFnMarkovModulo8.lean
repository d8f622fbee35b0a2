/- Moves modulo a prime number are undone by themselves, and by moves all triples modulo it are got from 1 1 1. No condition. -/
import Derived.Test.YthkmbkibceojlaaPackFnMarkovModulo7
import Derived.Deep.RegionHeld3
import Derived.Laws.Cover3
-- GmodOrbit
namespace Go.Proofs.Ythkmbkibceojlaa.P
open Go Go.Shelf Go.RowKit Go.Proofs.YthkmbkibceojlaaW.PrintWords Go.Proofs.YthkmbkibceojlaaW.PrintLast
set_option linter.unusedVariables false
set_option linter.unusedSimpArgs false

def goodT (u : List Int) : Bool := decide (u.length = 3) && u.all (fun n => decide (-1000000000 ≤ n) && decide (n ≤ 1000000000))
theorem goodT_is {u : List Int} (h : goodT u = true) : ∃ a b c, u = [a, b, c] ∧ (Lit.int .i64 a).wf = true ∧ (Lit.int .i64 b).wf = true ∧ (Lit.int .i64 c).wf = true := by
  unfold goodT at h
  rw [Bool.and_eq_true] at h
  have h1 := of_decide_eq_true h.1
  match u, h1 with
  | [a, b, c], _ =>
    have h2 := fun n hn => List.all_eq_true.1 h.2 n hn
    have wf : ∀ n, n ∈ [a, b, c] → (Lit.int .i64 n).wf = true := by
      intro n hn
      have h3 := h2 n hn
      rw [Bool.and_eq_true] at h3
      have h4 := of_decide_eq_true h3.1
      have h5 := of_decide_eq_true h3.2
      exact WalkArith.wf_i64 (by omega)
    exact ⟨a, b, c, rfl, wf a (by simp), wf b (by simp), wf c (by simp)⟩
def orbIn (p k : Int) : Nat → Int → List (List Int) → Option (List (List Int))
  | 0, _, o => some o
  | j + 1, i, o => (impl_modMoved.f p (rd_L1 o k) i).bind fun u => (if goodT u = true then (if u ∈ o then orbIn p k j (wrap64 (i + 1)) o else (if o.length < 1000000 then orbIn p k j (wrap64 (i + 1)) (o ++ [u]) else none)) else none)
def orbL (p : Int) : Nat → List (List Int) → Int → Option (List (List Int))
  | 0, _, _ => none
  | f + 1, o, k => if k < (o.length : Int) then (orbIn p k 3 0 o).bind fun o2 => orbL p f o2 (wrap64 (k + 1)) else some (sortDedup o)
theorem orbL_mono (p : Int) : ∀ f, (∀ o k, LeO (orbL p f o k) (orbL p (f + 1) o k))
  | 0 => fun _ _ r h => by simp [orbL] at h
  | f + 1 => by
    have ih0 := orbL_mono p f
    intro o k
    unfold orbL
    repeat' first
      | (with_reducible exact ih0 _ _)
      | (with_reducible exact LeO.refl _)
      | (with_reducible exact LeO.none _)
      | (with_reducible refine LeO.ite ?_ ?_)
      | (with_reducible refine LeO.bind ?_ (fun _ => ?_))
def impl_ModOrbit.f (k : Nat) (a0 : Int) (l0 : List Int) : Option (List (List Int) × Bool) := (impl_isModulus.f k a0).bind fun t1 => (if t1 = true then ((impl_isMod.f a0 l0).bind fun t2 => (if t2 = true then (if goodT l0 = true then ((slices_Clone_int_int.f l0).bind fun l1 => (orbL a0 k [l1] 0).bind fun r => some (r, true)) else none) else some ([], false))) else some ([], false))
theorem impl_ModOrbit.mono : ∀ a0 a1 k, LeO (impl_ModOrbit.f k a0 a1) (impl_ModOrbit.f (k + 1) a0 a1) := by
  intro a0 a1 k
  unfold impl_ModOrbit.f
  repeat' first
    | (with_reducible exact impl_isModulus.mono _ _)
    | (with_reducible exact orbL_mono _ _ _ _)
    | (with_reducible exact LeO.refl _)
    | (with_reducible exact LeO.none _)
    | (with_reducible refine LeO.ite ?_ ?_)
    | (with_reducible refine LeO.bind ?_ (fun _ => ?_))
theorem row3_at {w : World} {A : Option Addr} {x y z : Int} (h : Kd.C (Kd.int .i64) w A [x, y, z].length [x, y, z]) : ∃ ad, A = some ad ∧ w.cell? ad = some (.int .i64 x) ∧ w.cell? ⟨ad.block, ad.off + 1, none⟩ = some (.int .i64 y) ∧ w.cell? ⟨ad.block, ad.off + 2, none⟩ = some (.int .i64 z) := by
  obtain ⟨ad, e, h0⟩ := Kd.at_int h 0 (by omega) (by simp)
  obtain ⟨ad1, e1, h1⟩ := Kd.at_int h 1 (by omega) (by simp)
  obtain ⟨ad2, e2, h2⟩ := Kd.at_int h 2 (by omega) (by simp)
  cases e
  obtain rfl : ad = ad1 := by injection e1
  obtain rfl : ad = ad2 := by injection e2
  exact ⟨ad, rfl, by simpa [Addr.add, rd] using h0, h1, h2⟩
theorem below_grown_far {w W W' : World} {B : Nat} (hb : Below w.heap.size w W) (hg : W.grownBy W' (some B)) (hB : w.heap.size ≤ B) : Below w.heap.size w W' :=
  ⟨hg.os.trans hb.os, hg.tape.trans hb.tape, hg.output.trans hb.output, Nat.le_trans hb.size hg.size, fun k hk => (hg.block k (by have := hb.size; omega) (fun e => by injection e with e; omega)).trans (hb.block k hk)⟩
theorem orb_enters : ∀ args w, (callFunc 78 args).run Try.prog w = .ok (.enter 78 args) w := fun args w => enters_of Try.func78 (by kernel_rfl) rfl args w
theorem orb_at (W : World) (A B : Option Addr) (c c' : Nat) (x y : List Int) (hx : x.length < 9223372036854775807) (hy : y.length < 9223372036854775807) (h1 : Kd.C (Kd.int .i64) W A x.length x) (h2 : x.length ≤ c) (h3 : Kd.C (Kd.int .i64) W B y.length y) (h4 : y.length ≤ c') : Calls Try.prog 78 (#[.slice A x.length c, .slice B y.length c'] ++ #[]) W fun e w' => e = .returned (.int .i64 (cmpL x y)) ∧ Drawn0 W w' :=
  slices_Compare_int_int.calls (x.length + 1) A c x B c' y (cmpL x y) W h1 h2 h3 h4 (compare_ev x y hx)
theorem orb_sorted {o ys : List (List Int)} (hn : o.Nodup) (hp : ys.Perm o) (hs : ys.Pairwise fun a b => 0 ≤ cmpL b a) : ys = sortDedup o := by
  refine sortDedup_is ?_ (fun z => hp.mem_iff)
  have h2 : ys.Nodup := hp.nodup_iff.2 hn
  refine (hs.and h2).imp ?_
  rintro a b ⟨h3, h4⟩
  have h5 := cmpL_anti a b
  have h6 : cmpL a b ≠ 0 := fun e => h4 (cmpL_eq a b e)
  omega
set_option maxHeartbeats 4000000 in
set_option maxRecDepth 100000 in
theorem impl_ModOrbit.calls (k : Nat) (a0 : Int) (A0 : Option Addr) (c0 : Nat) (l0 : List Int) (r1 : List (List Int)) (r2 : Bool) (w : World) (hr0 : Kd.C (Kd.int .i64) w A0 l0.length l0) (hc0 : l0.length ≤ c0) (h : impl_ModOrbit.f k a0 l0 = some (r1, r2)) :
    Calls Try.prog 37 #[.int .i64 a0, .slice A0 l0.length c0] w fun e w' => ∃ v0_ : Value, e = .returned (.tuple #[v0_, .bool r2]) ∧ Kd.S (Kd.slice 3 (Kd.int .i64)) 22 w' w.heap.size (fun _ => True) v0_ r1 ∧ Below w.heap.size w w' := by
  unfold impl_ModOrbit.f at h
  obtain ⟨t, A3, h⟩ := Option.bind_eq_some_iff.mp h
  have HR0 := Aside0.mk hr0
  have HC0 := Aside0.mk hc0
  have HB := Aside0.mk (Below.refl w.heap.size w)
  have HA3 := Aside0.mk A3
  clear hr0 hc0 A3
  cases t with
  | false =>
    obtain ⟨rfl, rfl⟩ : ([] : List (List Int)) = r1 ∧ false = r2 := by simpa using h
    clear h
    go_enter Try.func37, Try.ntmps37
    go_wp2_with (go_at_call 64; refine (impl_isModulus.calls k a0 false _ HA3.out).mono ?_; rintro e w' ⟨rfl, ⟨nd1, rfl⟩⟩)
    go_ret2
    exact ⟨_, rfl, Kd.S_nil _ _ _ _ _, (by repeat (first | (with_reducible first | exact HB.out | apply below_alloc | apply pw_below_drewN | apply below_drew1) | exact HB.out))⟩
  | true =>
    replace h : ((impl_isMod.f a0 l0).bind fun t2 => (if t2 = true then (if goodT l0 = true then ((slices_Clone_int_int.f l0).bind fun l1 => (orbL a0 k [l1] 0).bind fun r => some (r, true)) else none) else some ([], false))) = some (r1, r2) := by simpa using h
    obtain ⟨t2, A4, h⟩ := Option.bind_eq_some_iff.mp h
    have HA4 := Aside0.mk A4
    clear A4
    cases t2 with
    | false =>
      obtain ⟨rfl, rfl⟩ : ([] : List (List Int)) = r1 ∧ false = r2 := by simpa using h
      clear h
      go_enter Try.func37, Try.ntmps37
      go_wp2_with (first
        | (go_at_call 64; refine (impl_isModulus.calls k a0 true _ HA3.out).mono ?_; rintro e w' ⟨rfl, ⟨nd1, rfl⟩⟩)
        | (go_at_call 65; refine (impl_isMod.calls a0 A0 c0 l0 false _ (by repeat (first | exact (Kd.C_below HR0.out HB.out) | (with_reducible refine Kd.C_alloc ?_ _) | (with_reducible refine Kd.C_drewN ?_ _) | (with_reducible refine Kd.C_drew ?_))) HC0.out HA4.out).mono ?_; rintro e w5 ⟨rfl, hb⟩; have n2_ := Aside0.mk (below_step (by repeat (first | (with_reducible first | exact HB.out | apply below_alloc | apply pw_below_drewN | apply below_drew1) | exact HB.out)) hb); clear HB hb; have HB := n2_; clear n2_))
      go_ret2
      exact ⟨_, rfl, Kd.S_nil _ _ _ _ _, (by repeat (first | (with_reducible first | exact HB.out | apply below_alloc | apply pw_below_drewN | apply below_drew1) | exact HB.out))⟩
    | true =>
      replace h : (if goodT l0 = true then ((slices_Clone_int_int.f l0).bind fun l1 => (orbL a0 k [l1] 0).bind fun r => some (r, true)) else none) = some (r1, r2) := by simpa using h
      by_cases c1 : goodT l0 = true
      · rw [if_pos c1] at h
        obtain ⟨a, b, c, rfl, wa, wb, wc⟩ := goodT_is c1
        obtain ⟨l1, A5, h⟩ := Option.bind_eq_some_iff.mp h
        obtain ⟨r, A6, h⟩ := Option.bind_eq_some_iff.mp h
        obtain ⟨rfl, rfl⟩ : r = r1 ∧ true = r2 := by simpa using h
        have HE : Aside0 (l1 = [a, b, c]) := ⟨by
          have h2 := A5
          unfold slices_Clone_int_int.f at h2
          split at h2
          · exact (Option.some.inj h2).symm
          · simp at h2⟩
        have HA5 := Aside0.mk A5
        have H' := Aside0.mk A6
        have HWF := Aside0.mk (And.intro wa (And.intro wb wc))
        obtain ⟨ad1, e1, hx0⟩ := Kd.at_int HR0.out 0 (by omega) (by simp)
        cases e1
        obtain ⟨ad2, e2, hx1⟩ := Kd.at_int HR0.out 1 (by omega) (by simp)
        obtain rfl : ad1 = ad2 := by injection e2
        obtain ⟨ad3, e3, hx2⟩ := Kd.at_int HR0.out 2 (by omega) (by simp)
        obtain rfl : ad1 = ad3 := by injection e3
        have HX0 : Aside0 (w.cell? ad1 = some (.int .i64 a)) := ⟨by simpa [Addr.add, rd] using hx0⟩
        have HX1 : Aside0 (w.cell? (ad1.add 1) = some (.int .i64 b)) := ⟨by simpa [rd] using hx1⟩
        have HX2 : Aside0 (w.cell? (ad1.add 2) = some (.int .i64 c)) := ⟨by simpa [rd] using hx2⟩
        clear h A5 A6 c1 hx0 hx1 hx2 e2 e3
        go_enter Try.func37, Try.ntmps37
        go_upto_region 3 with (first
          | (go_at_call 64; refine (impl_isModulus.calls k a0 true _ HA3.out).mono ?_; rintro e w' ⟨rfl, ⟨nd1, rfl⟩⟩)
          | (go_at_call 65; refine (impl_isMod.calls a0 _ c0 [a, b, c] true _ (by repeat (first | exact (Kd.C_below HR0.out HB.out) | (with_reducible refine Kd.C_alloc ?_ _) | (with_reducible refine Kd.C_drewN ?_ _) | (with_reducible refine Kd.C_drew ?_))) HC0.out HA4.out).mono ?_; rintro e w5 ⟨rfl, hb⟩; have n2_ := Aside0.mk (below_step (by repeat (first | (with_reducible first | exact HB.out | apply below_alloc | apply pw_below_drewN | apply below_drew1) | exact HB.out)) hb); clear HB hb; have HB := n2_; clear n2_))
        (try simp only [Act.put, List.setIfInBounds_toArray, List.set_cons_zero, List.set_cons_succ])
        go_cut [6, 7] (fun v6 v7 wc => ∃ B : Nat, v7 = .map (some B) ∧ Aside0 (w.heap.size ≤ B) ∧ Aside0 (Met wc B [l1]) ∧ Aside0 (Kd.S (Kd.slice 3 (Kd.int .i64)) 22 wc w.heap.size (fun k_ => k_ ≠ B) v6 [l1]) ∧ Aside0 (Below w.heap.size w wc))
        case first =>
          have hY0 := pw_cell_below HB.out HX0.out
          have hY1 : _ = some (Value.int .i64 b) := pw_cell_below HB.out HX1.out
          have hY2 : _ = some (Value.int .i64 c) := pw_cell_below HB.out HX2.out
          rw [show ad1.add 1 = ⟨ad1.block, ad1.off + 1, none⟩ from rfl] at hY1
          rw [show ad1.add 2 = ⟨ad1.block, ad1.off + 2, none⟩ from rfl] at hY2
          have hX0 : ∀ W : World, Below w.heap.size w W → W.cell? ad1 = some (Value.int .i64 a) := fun W hb => pw_cell_below hb HX0.out
          have hX1 : ∀ W : World, Below w.heap.size w W → W.cell? ⟨ad1.block, ad1.off + 1, none⟩ = some (Value.int .i64 b) := fun W hb => pw_cell_below hb HX1.out
          have hX2 : ∀ W : World, Below w.heap.size w W → W.cell? ⟨ad1.block, ad1.off + 2, none⟩ = some (Value.int .i64 c) := fun W hb => pw_cell_below hb HX2.out
          have hsl : ∀ (W : World), (Instr.arrayAt 69 (.slice (some ad1) 3 c0)).run Try.prog W = .ok (.pointer (some ad1)) W := fun W => run_arrayAt (P := Try.prog) (w := W) (arr := 69) (e := 3) (n := 3) (a := some ad1) (len := 3) (cap := c0) Try.underlying69 (Nat.le_refl _)
          refine wp_region_noPanic ?_
          refine wp_region_held_drew (S := fun w' => Below w.heap.size w w') (by kernel_rfl) (below_drew1 HB.out) (fun hHeld => ?_)
          have HB2 := Aside0.mk (below_drew1 HB.out)
          clear HB
          have HB := HB2
          clear HB2
          revert hHeld HB
          generalize World.drew _ = W0
          intro hHeld HB
          refine wpAnyH_take (i := 0) (oi := { dst := some 20, op := Op.move (Operand.tmp 1), type := 22, pos := "l2_markov.go:255", after := #[], guard := none }) (v := ?_) rfl (by kernel_rfl) (by kernel_rfl) (by kernel_rfl) (fun _ _ _ h => h) (Or.inl ⟨by rfl, ?_⟩) (by assumption) ?_
          rotate_left
          · (intro W hSW; go_simp; first | done | with_reducible rfl)
          (try simp only [Act.put, List.setIfInBounds_toArray, List.set_cons_zero, List.set_cons_succ])
          refine wpAnyH_take (i := 4) (oi := { dst := some 24, op := Op.move (Operand.tmp 1), type := 22, pos := "l2_markov.go:255", after := #[{ on := 9, ground := Ground.gcOnly Departure.lateStores }], guard := none }) (v := ?_) rfl (by kernel_rfl) (by kernel_rfl) (by kernel_rfl) (fun _ _ _ h => h) (Or.inl ⟨by rfl, ?_⟩) (by assumption) ?_
          rotate_left
          · (intro W hSW; go_simp; first | done | with_reducible rfl)
          (try simp only [Act.put, List.setIfInBounds_toArray, List.set_cons_zero, List.set_cons_succ])
          refine wpAnyH_take (i := 5) (oi := { dst := some 25, op := Op.sliceToArrayPointer 69 (Operand.tmp 24), type := 0, pos := "l2_markov.go:255", after := #[{ on := 4, ground := Ground.data }, { on := 9, ground := Ground.gcOnly Departure.lateStores }], guard := none }) (v := ?_) rfl (by kernel_rfl) (by kernel_rfl) (by kernel_rfl) (fun _ _ _ h => h) (Or.inl ⟨by rfl, ?_⟩) (by assumption) ?_
          rotate_left
          · (intro W hSW; go_simp; first | done | with_reducible rfl)
          (try simp only [Act.put, List.setIfInBounds_toArray, List.set_cons_zero, List.set_cons_succ])
          refine wpAnyH_take (i := 6) (oi := { dst := some 26, op := Op.load 69 (Operand.tmp 25), type := 69, pos := "l2_markov.go:255", after := #[{ on := 5, ground := Ground.data }, { on := 9, ground := Ground.gcOnly Departure.lateStores }], guard := none }) (v := ?_) rfl (by kernel_rfl) (by kernel_rfl) (by kernel_rfl) (fun _ _ _ h => h) (Or.inl ⟨by rfl, ?_⟩) (by assumption) ?_
          rotate_left
          · (intro W hSW; have h0_ := hX0 W hSW; have h1_ := hX1 W hSW; have h2_ := hX2 W hSW; go_simp; first | done | with_reducible rfl)
          (try simp only [Act.put, List.setIfInBounds_toArray, List.set_cons_zero, List.set_cons_succ])
          refine wpAnyH_ready (rs := [1, 3]) (by kernel_rfl) (by simp) ?_
          refine AllReadyH.cons (o := { dst := some 21, op := Op.call { callee := Callee.value (Operand.func 75), args := #[Operand.tmp 20], argTypes := #[22] }, type := 22, pos := "l2_markov.go:255", after := #[{ on := 0, ground := Ground.data }], guard := none }) rfl (fun K hK => ?_) ?_
          · have HW_ : Aside0 (W0 = W0) := ⟨rfl⟩
            refine goes_ Try.func75 (by kernel_rfl) rfl #[.slice (some ad1) 3 c0] (by rfl) rfl rfl (by (try simp only [List.map_toArray, List.map_cons, List.map_nil]); first | done | rfl) ?_
            refine (slices_Clone_int_int.calls _ c0 [a, b, c] l1 _ (Kd.C_below HR0.out HB.out) HC0.out HA5.out).mono ?_
            rintro e W0c ⟨v6, rfl, ho6, hb6⟩
            refine ⟨_, rfl, ?_⟩
            have HB_ := Aside0.mk (below_step HB.out hb6)
            have HO : Aside0 (Kd.R (Kd.int .i64) 3 W0c w.heap.size (fun _ => True) v6 l1) := ⟨Kd.R_mono (Kd.R_lower ho6 (below_size HB.out)) (fun _ _ => trivial)⟩
            obtain ⟨A6, c6, e6⟩ := Kd.R_slice HO.out
            subst e6
            refine hK.out _ _ HB_.out (fun hH => ?_)
            (try simp only [Act.put, List.setIfInBounds_toArray, List.set_cons_zero, List.set_cons_succ])
            clear hK K hHeld
            have hHeld := HB_.out
            clear HB; have HB := HB_; clear HB_
            refine wpAnyH_ready (rs := [2, 3]) (by kernel_rfl) (by simp) ?_
            refine AllReadyH.cons (o := { dst := some 22, op := Op.buildSlice 39 1 #[(0, Operand.tmp 21)], type := 39, pos := "l2_markov.go:255", after := #[{ on := 1, ground := Ground.data }], guard := none }) rfl (fun K hK => ?_) ?_
            · have HW_ : Aside0 (W0c = W0c) := ⟨rfl⟩
              refine Kd.S_lits_step (Kd.slice 3 (Kd.int .i64)) (w0 := w) w.heap.size 22 (by rfl) (N := 22) rfl (xs := [l1]) (inner := [.slice A6 l1.length c6]) (ok := (fun _ => True)) (fun j k_ => j = 0 ∧ some k_ = (Value.slice A6 l1.length c6).ownBlock) ?hr rfl ?hp ?ha (fun _ _ _ => trivial) trivial HB.out (below_size HB.out) (by simp) ?_
              case hr => first | (go_simp; done) | (go_simp; rfl)
              case hp => (intro j x hj; match j, hj with | 0, hj => (obtain rfl : l1 = x := by simpa using hj); exact ⟨_, rfl, Kd.R_mono (Kd.R_tight rfl HO.out) (fun k_ hk => ⟨rfl, hk⟩)⟩)
              case ha => (rintro i j k_ ⟨rfl, _⟩ ⟨rfl, _⟩; rfl)
              intro v2 W0cs ho hb hg hat
              have HB_ := Aside0.mk hb
              have HS := Aside0.mk ho
              refine hK.out _ _ HB_.out (fun hH => ?_)
              (try simp only [Act.put, List.setIfInBounds_toArray, List.set_cons_zero, List.set_cons_succ])
              clear hK K hHeld
              have hHeld := HB_.out
              clear HB; have HB := HB_; clear HB_
              refine wpAnyH_take (i := 9) (oi := { dst := some 6, op := Op.assign (Operand.tmp 22), type := 39, pos := "l2_markov.go:255", after := #[{ on := 2, ground := Ground.data }, { on := 1, ground := Ground.chain }, { on := 0, ground := Ground.phase }, { on := 1, ground := Ground.phase }, { on := 2, ground := Ground.phase }, { on := 3, ground := Ground.textOnly Departure.lateStoresUnsure }, { on := 4, ground := Ground.textOnly Departure.lateStores }, { on := 5, ground := Ground.textOnly Departure.lateStores }, { on := 6, ground := Ground.textOnly Departure.lateStores }, { on := 7, ground := Ground.textOnly Departure.lateStores }, { on := 8, ground := Ground.textOnly Departure.lateStores }], guard := none }) (v := ?_) rfl (by kernel_rfl) (by kernel_rfl) (by kernel_rfl) (fun _ _ _ h => h) (Or.inl ⟨by rfl, ?_⟩) (by assumption) ?_
              rotate_left
              · (intro W hSW; go_simp; first | done | with_reducible rfl)
              (try simp only [Act.put, List.setIfInBounds_toArray, List.set_cons_zero, List.set_cons_succ])
              refine wpAnyH_ready (rs := [3]) (by kernel_rfl) (by simp) ?_
              refine AllReadyH.cons (o := { dst := some 23, op := Op.makeMap 70 none, type := 70, pos := "l2_markov.go:255", after := #[], guard := none }) rfl (fun K hK => ?_) ?_
              · have HW_ : Aside0 (W0cs = W0cs) := ⟨rfl⟩
                go_simp
                have HB_ := Aside0.mk (below_alloc HB.out (.map #[] 0))
                have HM := Aside0.mk (met_new W0cs)
                have HBB := Aside0.mk (below_size HB.out)
                have HS_ : Aside0 (Kd.S (Kd.slice 3 (Kd.int .i64)) 22 _ w.heap.size (fun k_ => k_ ≠ W0cs.heap.size) _ [l1]) := Aside0.mk (Kd.S_alloc (Kd.S_mono (Kd.S_bound HS.out) (fun k_ hk_ => by have h1_ := hk_.2.2.1; omega)) (.map #[] 0))
                refine hK.out _ (W0cs.alloc (.map #[] 0)) HB_.out (fun hH => ?_)
                (try simp only [Act.put, List.setIfInBounds_toArray, List.set_cons_zero, List.set_cons_succ])
                clear hK K hHeld
                have hHeld := HB_.out
                clear HB; have HB := HB_; clear HB_
                clear HS; have HS := HS_; clear HS_
                clear hHeld hH
                revert HM HBB HB HS
                generalize W0cs.alloc (.map #[] 0) = W0csm
                generalize W0cs.heap.size = B
                intro HM HBB HB HS
                have hHeld := HB.out
                refine wpAnyH_ready (rs := [7]) (by kernel_rfl) (by simp) ?_
                refine AllReadyH.cons (o := { dst := none, op := Op.insert 70 (Operand.tmp 23) (Operand.tmp 26) (Operand.const (Value.bool true)), type := 0, pos := "l2_markov.go:255", after := #[{ on := 3, ground := Ground.data }, { on := 6, ground := Ground.data }, { on := 9, ground := Ground.gcOnly Departure.lateStores }], guard := none }) rfl (fun K hK => ?_) ?_
                · have HW_ : Aside0 (W0csm = W0csm) := ⟨rfl⟩
                  obtain ⟨W0csmp, hrun_, hmet_, hg_⟩ := met_put HM.out (by simp) wa wb wc
                  go_simp
                  have HB_ := Aside0.mk (below_grown_far HB.out hg_ HBB.out)
                  have HM_ : Aside0 (Met W0csmp B [l1]) := ⟨by rw [HE.out]; exact hmet_⟩
                  have HS_ := Aside0.mk (Kd.S_step HS.out (fun k_ hk_ hl_ => hg_.block k_ hl_ (fun e_ => hk_ (Option.some.inj e_))))
                  refine hK.out _ _ HB_.out (fun hH => ?_)
                  (try simp only [Act.put, List.setIfInBounds_toArray, List.set_cons_zero, List.set_cons_succ])
                  clear hK K hHeld
                  have hHeld := HB_.out
                  clear HB; have HB := HB_; clear HB_
                  clear HM; have HM := HM_; clear HM_
                  clear HS; have HS := HS_; clear HS_
                  refine wpAnyH_take (i := 8) (oi := { dst := some 27, op := Op.move (Operand.tmp 23), type := 70, pos := "l2_markov.go:255", after := #[{ on := 3, ground := Ground.data }, { on := 4, ground := Ground.data }, { on := 5, ground := Ground.data }, { on := 6, ground := Ground.data }, { on := 7, ground := Ground.data }, { on := 9, ground := Ground.gcOnly Departure.lateStores }], guard := none }) (v := ?_) rfl (by kernel_rfl) (by kernel_rfl) (by kernel_rfl) (fun _ _ _ h => h) (Or.inl ⟨by rfl, ?_⟩) (by assumption) ?_
                  rotate_left
                  · (intro W hSW; go_simp; first | done | with_reducible rfl)
                  (try simp only [Act.put, List.setIfInBounds_toArray, List.set_cons_zero, List.set_cons_succ])
                  refine wpAnyH_take (i := 10) (oi := { dst := some 7, op := Op.assign (Operand.tmp 27), type := 70, pos := "l2_markov.go:255", after := #[{ on := 8, ground := Ground.data }, { on := 9, ground := Ground.chain }, { on := 0, ground := Ground.phase }, { on := 1, ground := Ground.phase }, { on := 2, ground := Ground.phase }, { on := 3, ground := Ground.phase }, { on := 4, ground := Ground.phase }, { on := 5, ground := Ground.phase }, { on := 6, ground := Ground.phase }, { on := 7, ground := Ground.phase }, { on := 8, ground := Ground.phase }, { on := 9, ground := Ground.phase }], guard := none }) (v := ?_) rfl (by kernel_rfl) (by kernel_rfl) (by kernel_rfl) (fun _ _ _ h => h) (Or.inl ⟨by rfl, ?_⟩) (by assumption) ?_
                  rotate_left
                  · (intro W hSW; go_simp; first | done | with_reducible rfl)
                  (try simp only [Act.put, List.setIfInBounds_toArray, List.set_cons_zero, List.set_cons_succ])
                  refine wpAnyH_done (by kernel_rfl) ?_ _
                  refine NoPanic.normal ?_
                  go_wp2
                  go_meet
                  case rel => exact ⟨B, rfl, HBB, HM, HS, HB⟩
                exact AllReadyH.nil
              exact AllReadyH.nil
            refine AllReadyH.cons (o := { dst := some 23, op := Op.makeMap 70 none, type := 70, pos := "l2_markov.go:255", after := #[], guard := none }) rfl (fun K hK => ?_) ?_
            · have HW_ : Aside0 (W0c = W0c) := ⟨rfl⟩
              go_simp
              have HB_ := Aside0.mk (below_alloc HB.out (.map #[] 0))
              have HM := Aside0.mk (met_new W0c)
              have HBB := Aside0.mk (below_size HB.out)
              have HO_ : Aside0 (Kd.R (Kd.int .i64) 3 _ w.heap.size (fun k_ => k_ ≠ W0c.heap.size) _ l1) := Aside0.mk (Kd.R_alloc (Kd.R_mono (Kd.R_bound HO.out) (fun k_ hk_ => by have h1_ := hk_.2.2.1; omega)) (.map #[] 0))
              refine hK.out _ (W0c.alloc (.map #[] 0)) HB_.out (fun hH => ?_)
              (try simp only [Act.put, List.setIfInBounds_toArray, List.set_cons_zero, List.set_cons_succ])
              clear hK K hHeld
              have hHeld := HB_.out
              clear HB; have HB := HB_; clear HB_
              clear HO; have HO := HO_; clear HO_
              clear hHeld hH
              revert HM HBB HB HO
              generalize W0c.alloc (.map #[] 0) = W0cm
              generalize W0c.heap.size = B
              intro HM HBB HB HO
              have hHeld := HB.out
              refine wpAnyH_ready (rs := [2, 7]) (by kernel_rfl) (by simp) ?_
              refine AllReadyH.cons (o := { dst := some 22, op := Op.buildSlice 39 1 #[(0, Operand.tmp 21)], type := 39, pos := "l2_markov.go:255", after := #[{ on := 1, ground := Ground.data }], guard := none }) rfl (fun K hK => ?_) ?_
              · have HW_ : Aside0 (W0cm = W0cm) := ⟨rfl⟩
                refine Kd.S_lits_step (Kd.slice 3 (Kd.int .i64)) (w0 := w) w.heap.size 22 (by rfl) (N := 22) rfl (xs := [l1]) (inner := [.slice A6 l1.length c6]) (ok := (fun k_ => k_ ≠ B)) (fun j k_ => j = 0 ∧ some k_ = (Value.slice A6 l1.length c6).ownBlock) ?hr rfl ?hp ?ha (fun j_ k_ hk_ => (HO.out.1 k_ hk_.2.symm)) (by have h2_ := HM.out.lt; omega) HB.out (below_size HB.out) (by simp) ?_
                case hr => first | (go_simp; done) | (go_simp; rfl)
                case hp => (intro j x hj; match j, hj with | 0, hj => (obtain rfl : l1 = x := by simpa using hj); exact ⟨_, rfl, Kd.R_mono (Kd.R_tight rfl HO.out) (fun k_ hk => ⟨rfl, hk⟩)⟩)
                case ha => (rintro i j k_ ⟨rfl, _⟩ ⟨rfl, _⟩; rfl)
                intro v2 W0cms ho hb hg hat
                have HB_ := Aside0.mk hb
                have HS := Aside0.mk ho
                have HM_ := Aside0.mk (HM.out.kept hg (by simp))
                refine hK.out _ _ HB_.out (fun hH => ?_)
                (try simp only [Act.put, List.setIfInBounds_toArray, List.set_cons_zero, List.set_cons_succ])
                clear hK K hHeld
                have hHeld := HB_.out
                clear HB; have HB := HB_; clear HB_
                clear HM; have HM := HM_; clear HM_
                refine wpAnyH_take (i := 9) (oi := { dst := some 6, op := Op.assign (Operand.tmp 22), type := 39, pos := "l2_markov.go:255", after := #[{ on := 2, ground := Ground.data }, { on := 1, ground := Ground.chain }, { on := 0, ground := Ground.phase }, { on := 1, ground := Ground.phase }, { on := 2, ground := Ground.phase }, { on := 3, ground := Ground.textOnly Departure.lateStoresUnsure }, { on := 4, ground := Ground.textOnly Departure.lateStores }, { on := 5, ground := Ground.textOnly Departure.lateStores }, { on := 6, ground := Ground.textOnly Departure.lateStores }, { on := 7, ground := Ground.textOnly Departure.lateStores }, { on := 8, ground := Ground.textOnly Departure.lateStores }], guard := none }) (v := ?_) rfl (by kernel_rfl) (by kernel_rfl) (by kernel_rfl) (fun _ _ _ h => h) (Or.inl ⟨by rfl, ?_⟩) (by assumption) ?_
                rotate_left
                · (intro W hSW; go_simp; first | done | with_reducible rfl)
                (try simp only [Act.put, List.setIfInBounds_toArray, List.set_cons_zero, List.set_cons_succ])
                refine wpAnyH_ready (rs := [7]) (by kernel_rfl) (by simp) ?_
                refine AllReadyH.cons (o := { dst := none, op := Op.insert 70 (Operand.tmp 23) (Operand.tmp 26) (Operand.const (Value.bool true)), type := 0, pos := "l2_markov.go:255", after := #[{ on := 3, ground := Ground.data }, { on := 6, ground := Ground.data }, { on := 9, ground := Ground.gcOnly Departure.lateStores }], guard := none }) rfl (fun K hK => ?_) ?_
                · have HW_ : Aside0 (W0cms = W0cms) := ⟨rfl⟩
                  obtain ⟨W0cmsp, hrun_, hmet_, hg_⟩ := met_put HM.out (by simp) wa wb wc
                  go_simp
                  have HB_ := Aside0.mk (below_grown_far HB.out hg_ HBB.out)
                  have HM_ : Aside0 (Met W0cmsp B [l1]) := ⟨by rw [HE.out]; exact hmet_⟩
                  have HS_ := Aside0.mk (Kd.S_step HS.out (fun k_ hk_ hl_ => hg_.block k_ hl_ (fun e_ => hk_ (Option.some.inj e_))))
                  refine hK.out _ _ HB_.out (fun hH => ?_)
                  (try simp only [Act.put, List.setIfInBounds_toArray, List.set_cons_zero, List.set_cons_succ])
                  clear hK K hHeld
                  have hHeld := HB_.out
                  clear HB; have HB := HB_; clear HB_
                  clear HM; have HM := HM_; clear HM_
                  clear HS; have HS := HS_; clear HS_
                  refine wpAnyH_take (i := 8) (oi := { dst := some 27, op := Op.move (Operand.tmp 23), type := 70, pos := "l2_markov.go:255", after := #[{ on := 3, ground := Ground.data }, { on := 4, ground := Ground.data }, { on := 5, ground := Ground.data }, { on := 6, ground := Ground.data }, { on := 7, ground := Ground.data }, { on := 9, ground := Ground.gcOnly Departure.lateStores }], guard := none }) (v := ?_) rfl (by kernel_rfl) (by kernel_rfl) (by kernel_rfl) (fun _ _ _ h => h) (Or.inl ⟨by rfl, ?_⟩) (by assumption) ?_
                  rotate_left
                  · (intro W hSW; go_simp; first | done | with_reducible rfl)
                  (try simp only [Act.put, List.setIfInBounds_toArray, List.set_cons_zero, List.set_cons_succ])
                  refine wpAnyH_take (i := 10) (oi := { dst := some 7, op := Op.assign (Operand.tmp 27), type := 70, pos := "l2_markov.go:255", after := #[{ on := 8, ground := Ground.data }, { on := 9, ground := Ground.chain }, { on := 0, ground := Ground.phase }, { on := 1, ground := Ground.phase }, { on := 2, ground := Ground.phase }, { on := 3, ground := Ground.phase }, { on := 4, ground := Ground.phase }, { on := 5, ground := Ground.phase }, { on := 6, ground := Ground.phase }, { on := 7, ground := Ground.phase }, { on := 8, ground := Ground.phase }, { on := 9, ground := Ground.phase }], guard := none }) (v := ?_) rfl (by kernel_rfl) (by kernel_rfl) (by kernel_rfl) (fun _ _ _ h => h) (Or.inl ⟨by rfl, ?_⟩) (by assumption) ?_
                  rotate_left
                  · (intro W hSW; go_simp; first | done | with_reducible rfl)
                  (try simp only [Act.put, List.setIfInBounds_toArray, List.set_cons_zero, List.set_cons_succ])
                  refine wpAnyH_done (by kernel_rfl) ?_ _
                  refine NoPanic.normal ?_
                  go_wp2
                  go_meet
                  case rel => exact ⟨B, rfl, HBB, HM, HS, HB⟩
                exact AllReadyH.nil
              refine AllReadyH.cons (o := { dst := none, op := Op.insert 70 (Operand.tmp 23) (Operand.tmp 26) (Operand.const (Value.bool true)), type := 0, pos := "l2_markov.go:255", after := #[{ on := 3, ground := Ground.data }, { on := 6, ground := Ground.data }, { on := 9, ground := Ground.gcOnly Departure.lateStores }], guard := none }) rfl (fun K hK => ?_) ?_
              · have HW_ : Aside0 (W0cm = W0cm) := ⟨rfl⟩
                obtain ⟨W0cmp, hrun_, hmet_, hg_⟩ := met_put HM.out (by simp) wa wb wc
                go_simp
                have HB_ := Aside0.mk (below_grown_far HB.out hg_ HBB.out)
                have HM_ : Aside0 (Met W0cmp B [l1]) := ⟨by rw [HE.out]; exact hmet_⟩
                have HO_ := Aside0.mk (Kd.R_step HO.out (fun k_ hk_ hl_ => hg_.block k_ hl_ (fun e_ => hk_ (Option.some.inj e_))))
                refine hK.out _ _ HB_.out (fun hH => ?_)
                (try simp only [Act.put, List.setIfInBounds_toArray, List.set_cons_zero, List.set_cons_succ])
                clear hK K hHeld
                have hHeld := HB_.out
                clear HB; have HB := HB_; clear HB_
                clear HM; have HM := HM_; clear HM_
                clear HO; have HO := HO_; clear HO_
                refine wpAnyH_take (i := 8) (oi := { dst := some 27, op := Op.move (Operand.tmp 23), type := 70, pos := "l2_markov.go:255", after := #[{ on := 3, ground := Ground.data }, { on := 4, ground := Ground.data }, { on := 5, ground := Ground.data }, { on := 6, ground := Ground.data }, { on := 7, ground := Ground.data }, { on := 9, ground := Ground.gcOnly Departure.lateStores }], guard := none }) (v := ?_) rfl (by kernel_rfl) (by kernel_rfl) (by kernel_rfl) (fun _ _ _ h => h) (Or.inl ⟨by rfl, ?_⟩) (by assumption) ?_
                rotate_left
                · (intro W hSW; go_simp; first | done | with_reducible rfl)
                (try simp only [Act.put, List.setIfInBounds_toArray, List.set_cons_zero, List.set_cons_succ])
                refine wpAnyH_ready (rs := [2]) (by kernel_rfl) (by simp) ?_
                refine AllReadyH.cons (o := { dst := some 22, op := Op.buildSlice 39 1 #[(0, Operand.tmp 21)], type := 39, pos := "l2_markov.go:255", after := #[{ on := 1, ground := Ground.data }], guard := none }) rfl (fun K hK => ?_) ?_
                · have HW_ : Aside0 (W0cmp = W0cmp) := ⟨rfl⟩
                  refine Kd.S_lits_step (Kd.slice 3 (Kd.int .i64)) (w0 := w) w.heap.size 22 (by rfl) (N := 22) rfl (xs := [l1]) (inner := [.slice A6 l1.length c6]) (ok := (fun k_ => k_ ≠ B)) (fun j k_ => j = 0 ∧ some k_ = (Value.slice A6 l1.length c6).ownBlock) ?hr rfl ?hp ?ha (fun j_ k_ hk_ => (HO.out.1 k_ hk_.2.symm)) (by have h2_ := HM.out.lt; omega) HB.out (below_size HB.out) (by simp) ?_
                  case hr => first | (go_simp; done) | (go_simp; rfl)
                  case hp => (intro j x hj; match j, hj with | 0, hj => (obtain rfl : l1 = x := by simpa using hj); exact ⟨_, rfl, Kd.R_mono (Kd.R_tight rfl HO.out) (fun k_ hk => ⟨rfl, hk⟩)⟩)
                  case ha => (rintro i j k_ ⟨rfl, _⟩ ⟨rfl, _⟩; rfl)
                  intro v2 W0cmps ho hb hg hat
                  have HB_ := Aside0.mk hb
                  have HS := Aside0.mk ho
                  have HM_ := Aside0.mk (HM.out.kept hg (by simp))
                  refine hK.out _ _ HB_.out (fun hH => ?_)
                  (try simp only [Act.put, List.setIfInBounds_toArray, List.set_cons_zero, List.set_cons_succ])
                  clear hK K hHeld
                  have hHeld := HB_.out
                  clear HB; have HB := HB_; clear HB_
                  clear HM; have HM := HM_; clear HM_
                  refine wpAnyH_take (i := 9) (oi := { dst := some 6, op := Op.assign (Operand.tmp 22), type := 39, pos := "l2_markov.go:255", after := #[{ on := 2, ground := Ground.data }, { on := 1, ground := Ground.chain }, { on := 0, ground := Ground.phase }, { on := 1, ground := Ground.phase }, { on := 2, ground := Ground.phase }, { on := 3, ground := Ground.textOnly Departure.lateStoresUnsure }, { on := 4, ground := Ground.textOnly Departure.lateStores }, { on := 5, ground := Ground.textOnly Departure.lateStores }, { on := 6, ground := Ground.textOnly Departure.lateStores }, { on := 7, ground := Ground.textOnly Departure.lateStores }, { on := 8, ground := Ground.textOnly Departure.lateStores }], guard := none }) (v := ?_) rfl (by kernel_rfl) (by kernel_rfl) (by kernel_rfl) (fun _ _ _ h => h) (Or.inl ⟨by rfl, ?_⟩) (by assumption) ?_
                  rotate_left
                  · (intro W hSW; go_simp; first | done | with_reducible rfl)
                  (try simp only [Act.put, List.setIfInBounds_toArray, List.set_cons_zero, List.set_cons_succ])
                  refine wpAnyH_take (i := 10) (oi := { dst := some 7, op := Op.assign (Operand.tmp 27), type := 70, pos := "l2_markov.go:255", after := #[{ on := 8, ground := Ground.data }, { on := 9, ground := Ground.chain }, { on := 0, ground := Ground.phase }, { on := 1, ground := Ground.phase }, { on := 2, ground := Ground.phase }, { on := 3, ground := Ground.phase }, { on := 4, ground := Ground.phase }, { on := 5, ground := Ground.phase }, { on := 6, ground := Ground.phase }, { on := 7, ground := Ground.phase }, { on := 8, ground := Ground.phase }, { on := 9, ground := Ground.phase }], guard := none }) (v := ?_) rfl (by kernel_rfl) (by kernel_rfl) (by kernel_rfl) (fun _ _ _ h => h) (Or.inl ⟨by rfl, ?_⟩) (by assumption) ?_
                  rotate_left
                  · (intro W hSW; go_simp; first | done | with_reducible rfl)
                  (try simp only [Act.put, List.setIfInBounds_toArray, List.set_cons_zero, List.set_cons_succ])
                  refine wpAnyH_done (by kernel_rfl) ?_ _
                  refine NoPanic.normal ?_
                  go_wp2
                  go_meet
                  case rel => exact ⟨B, rfl, HBB, HM, HS, HB⟩
                exact AllReadyH.nil
              exact AllReadyH.nil
            exact AllReadyH.nil
          refine AllReadyH.cons (o := { dst := some 23, op := Op.makeMap 70 none, type := 70, pos := "l2_markov.go:255", after := #[], guard := none }) rfl (fun K hK => ?_) ?_
          · have HW_ : Aside0 (W0 = W0) := ⟨rfl⟩
            go_simp
            have HB_ := Aside0.mk (below_alloc HB.out (.map #[] 0))
            have HM := Aside0.mk (met_new W0)
            have HBB := Aside0.mk (below_size HB.out)
            refine hK.out _ (W0.alloc (.map #[] 0)) HB_.out (fun hH => ?_)
            (try simp only [Act.put, List.setIfInBounds_toArray, List.set_cons_zero, List.set_cons_succ])
            clear hK K hHeld
            have hHeld := HB_.out
            clear HB; have HB := HB_; clear HB_
            clear hHeld hH
            revert HM HBB HB
            generalize W0.alloc (.map #[] 0) = W0m
            generalize W0.heap.size = B
            intro HM HBB HB
            have hHeld := HB.out
            refine wpAnyH_ready (rs := [1, 7]) (by kernel_rfl) (by simp) ?_
            refine AllReadyH.cons (o := { dst := some 21, op := Op.call { callee := Callee.value (Operand.func 75), args := #[Operand.tmp 20], argTypes := #[22] }, type := 22, pos := "l2_markov.go:255", after := #[{ on := 0, ground := Ground.data }], guard := none }) rfl (fun K hK => ?_) ?_
            · have HW_ : Aside0 (W0m = W0m) := ⟨rfl⟩
              refine goes_ Try.func75 (by kernel_rfl) rfl #[.slice (some ad1) 3 c0] (by rfl) rfl rfl (by (try simp only [List.map_toArray, List.map_cons, List.map_nil]); first | done | rfl) ?_
              refine (slices_Clone_int_int.calls _ c0 [a, b, c] l1 _ (Kd.C_below HR0.out HB.out) HC0.out HA5.out).mono ?_
              rintro e W0mc ⟨v6, rfl, ho6, hb6⟩
              refine ⟨_, rfl, ?_⟩
              have HB_ := Aside0.mk (below_step HB.out hb6)
              have HO : Aside0 (Kd.R (Kd.int .i64) 3 W0mc w.heap.size (fun k_ => k_ ≠ B) v6 l1) := ⟨Kd.R_lower (Kd.R_mono (Kd.R_bound ho6) (fun k_ hk_ => by have h1_ := hk_.2.1; have h2_ := HM.out.lt; omega)) (below_size HB.out)⟩
              have HM_ := Aside0.mk (HM.out.below hb6)
              obtain ⟨A6, c6, e6⟩ := Kd.R_slice HO.out
              subst e6
              refine hK.out _ _ HB_.out (fun hH => ?_)
              (try simp only [Act.put, List.setIfInBounds_toArray, List.set_cons_zero, List.set_cons_succ])
              clear hK K hHeld
              have hHeld := HB_.out
              clear HB; have HB := HB_; clear HB_
              clear HM; have HM := HM_; clear HM_
              refine wpAnyH_ready (rs := [2, 7]) (by kernel_rfl) (by simp) ?_
              refine AllReadyH.cons (o := { dst := some 22, op := Op.buildSlice 39 1 #[(0, Operand.tmp 21)], type := 39, pos := "l2_markov.go:255", after := #[{ on := 1, ground := Ground.data }], guard := none }) rfl (fun K hK => ?_) ?_
              · have HW_ : Aside0 (W0mc = W0mc) := ⟨rfl⟩
                refine Kd.S_lits_step (Kd.slice 3 (Kd.int .i64)) (w0 := w) w.heap.size 22 (by rfl) (N := 22) rfl (xs := [l1]) (inner := [.slice A6 l1.length c6]) (ok := (fun k_ => k_ ≠ B)) (fun j k_ => j = 0 ∧ some k_ = (Value.slice A6 l1.length c6).ownBlock) ?hr rfl ?hp ?ha (fun j_ k_ hk_ => (HO.out.1 k_ hk_.2.symm)) (by have h2_ := HM.out.lt; omega) HB.out (below_size HB.out) (by simp) ?_
                case hr => first | (go_simp; done) | (go_simp; rfl)
                case hp => (intro j x hj; match j, hj with | 0, hj => (obtain rfl : l1 = x := by simpa using hj); exact ⟨_, rfl, Kd.R_mono (Kd.R_tight rfl HO.out) (fun k_ hk => ⟨rfl, hk⟩)⟩)
                case ha => (rintro i j k_ ⟨rfl, _⟩ ⟨rfl, _⟩; rfl)
                intro v2 W0mcs ho hb hg hat
                have HB_ := Aside0.mk hb
                have HS := Aside0.mk ho
                have HM_ := Aside0.mk (HM.out.kept hg (by simp))
                refine hK.out _ _ HB_.out (fun hH => ?_)
                (try simp only [Act.put, List.setIfInBounds_toArray, List.set_cons_zero, List.set_cons_succ])
                clear hK K hHeld
                have hHeld := HB_.out
                clear HB; have HB := HB_; clear HB_
                clear HM; have HM := HM_; clear HM_
                refine wpAnyH_take (i := 9) (oi := { dst := some 6, op := Op.assign (Operand.tmp 22), type := 39, pos := "l2_markov.go:255", after := #[{ on := 2, ground := Ground.data }, { on := 1, ground := Ground.chain }, { on := 0, ground := Ground.phase }, { on := 1, ground := Ground.phase }, { on := 2, ground := Ground.phase }, { on := 3, ground := Ground.textOnly Departure.lateStoresUnsure }, { on := 4, ground := Ground.textOnly Departure.lateStores }, { on := 5, ground := Ground.textOnly Departure.lateStores }, { on := 6, ground := Ground.textOnly Departure.lateStores }, { on := 7, ground := Ground.textOnly Departure.lateStores }, { on := 8, ground := Ground.textOnly Departure.lateStores }], guard := none }) (v := ?_) rfl (by kernel_rfl) (by kernel_rfl) (by kernel_rfl) (fun _ _ _ h => h) (Or.inl ⟨by rfl, ?_⟩) (by assumption) ?_
                rotate_left
                · (intro W hSW; go_simp; first | done | with_reducible rfl)
                (try simp only [Act.put, List.setIfInBounds_toArray, List.set_cons_zero, List.set_cons_succ])
                refine wpAnyH_ready (rs := [7]) (by kernel_rfl) (by simp) ?_
                refine AllReadyH.cons (o := { dst := none, op := Op.insert 70 (Operand.tmp 23) (Operand.tmp 26) (Operand.const (Value.bool true)), type := 0, pos := "l2_markov.go:255", after := #[{ on := 3, ground := Ground.data }, { on := 6, ground := Ground.data }, { on := 9, ground := Ground.gcOnly Departure.lateStores }], guard := none }) rfl (fun K hK => ?_) ?_
                · have HW_ : Aside0 (W0mcs = W0mcs) := ⟨rfl⟩
                  obtain ⟨W0mcsp, hrun_, hmet_, hg_⟩ := met_put HM.out (by simp) wa wb wc
                  go_simp
                  have HB_ := Aside0.mk (below_grown_far HB.out hg_ HBB.out)
                  have HM_ : Aside0 (Met W0mcsp B [l1]) := ⟨by rw [HE.out]; exact hmet_⟩
                  have HS_ := Aside0.mk (Kd.S_step HS.out (fun k_ hk_ hl_ => hg_.block k_ hl_ (fun e_ => hk_ (Option.some.inj e_))))
                  refine hK.out _ _ HB_.out (fun hH => ?_)
                  (try simp only [Act.put, List.setIfInBounds_toArray, List.set_cons_zero, List.set_cons_succ])
                  clear hK K hHeld
                  have hHeld := HB_.out
                  clear HB; have HB := HB_; clear HB_
                  clear HM; have HM := HM_; clear HM_
                  clear HS; have HS := HS_; clear HS_
                  refine wpAnyH_take (i := 8) (oi := { dst := some 27, op := Op.move (Operand.tmp 23), type := 70, pos := "l2_markov.go:255", after := #[{ on := 3, ground := Ground.data }, { on := 4, ground := Ground.data }, { on := 5, ground := Ground.data }, { on := 6, ground := Ground.data }, { on := 7, ground := Ground.data }, { on := 9, ground := Ground.gcOnly Departure.lateStores }], guard := none }) (v := ?_) rfl (by kernel_rfl) (by kernel_rfl) (by kernel_rfl) (fun _ _ _ h => h) (Or.inl ⟨by rfl, ?_⟩) (by assumption) ?_
                  rotate_left
                  · (intro W hSW; go_simp; first | done | with_reducible rfl)
                  (try simp only [Act.put, List.setIfInBounds_toArray, List.set_cons_zero, List.set_cons_succ])
                  refine wpAnyH_take (i := 10) (oi := { dst := some 7, op := Op.assign (Operand.tmp 27), type := 70, pos := "l2_markov.go:255", after := #[{ on := 8, ground := Ground.data }, { on := 9, ground := Ground.chain }, { on := 0, ground := Ground.phase }, { on := 1, ground := Ground.phase }, { on := 2, ground := Ground.phase }, { on := 3, ground := Ground.phase }, { on := 4, ground := Ground.phase }, { on := 5, ground := Ground.phase }, { on := 6, ground := Ground.phase }, { on := 7, ground := Ground.phase }, { on := 8, ground := Ground.phase }, { on := 9, ground := Ground.phase }], guard := none }) (v := ?_) rfl (by kernel_rfl) (by kernel_rfl) (by kernel_rfl) (fun _ _ _ h => h) (Or.inl ⟨by rfl, ?_⟩) (by assumption) ?_
                  rotate_left
                  · (intro W hSW; go_simp; first | done | with_reducible rfl)
                  (try simp only [Act.put, List.setIfInBounds_toArray, List.set_cons_zero, List.set_cons_succ])
                  refine wpAnyH_done (by kernel_rfl) ?_ _
                  refine NoPanic.normal ?_
                  go_wp2
                  go_meet
                  case rel => exact ⟨B, rfl, HBB, HM, HS, HB⟩
                exact AllReadyH.nil
              refine AllReadyH.cons (o := { dst := none, op := Op.insert 70 (Operand.tmp 23) (Operand.tmp 26) (Operand.const (Value.bool true)), type := 0, pos := "l2_markov.go:255", after := #[{ on := 3, ground := Ground.data }, { on := 6, ground := Ground.data }, { on := 9, ground := Ground.gcOnly Departure.lateStores }], guard := none }) rfl (fun K hK => ?_) ?_
              · have HW_ : Aside0 (W0mc = W0mc) := ⟨rfl⟩
                obtain ⟨W0mcp, hrun_, hmet_, hg_⟩ := met_put HM.out (by simp) wa wb wc
                go_simp
                have HB_ := Aside0.mk (below_grown_far HB.out hg_ HBB.out)
                have HM_ : Aside0 (Met W0mcp B [l1]) := ⟨by rw [HE.out]; exact hmet_⟩
                have HO_ := Aside0.mk (Kd.R_step HO.out (fun k_ hk_ hl_ => hg_.block k_ hl_ (fun e_ => hk_ (Option.some.inj e_))))
                refine hK.out _ _ HB_.out (fun hH => ?_)
                (try simp only [Act.put, List.setIfInBounds_toArray, List.set_cons_zero, List.set_cons_succ])
                clear hK K hHeld
                have hHeld := HB_.out
                clear HB; have HB := HB_; clear HB_
                clear HM; have HM := HM_; clear HM_
                clear HO; have HO := HO_; clear HO_
                refine wpAnyH_take (i := 8) (oi := { dst := some 27, op := Op.move (Operand.tmp 23), type := 70, pos := "l2_markov.go:255", after := #[{ on := 3, ground := Ground.data }, { on := 4, ground := Ground.data }, { on := 5, ground := Ground.data }, { on := 6, ground := Ground.data }, { on := 7, ground := Ground.data }, { on := 9, ground := Ground.gcOnly Departure.lateStores }], guard := none }) (v := ?_) rfl (by kernel_rfl) (by kernel_rfl) (by kernel_rfl) (fun _ _ _ h => h) (Or.inl ⟨by rfl, ?_⟩) (by assumption) ?_
                rotate_left
                · (intro W hSW; go_simp; first | done | with_reducible rfl)
                (try simp only [Act.put, List.setIfInBounds_toArray, List.set_cons_zero, List.set_cons_succ])
                refine wpAnyH_ready (rs := [2]) (by kernel_rfl) (by simp) ?_
                refine AllReadyH.cons (o := { dst := some 22, op := Op.buildSlice 39 1 #[(0, Operand.tmp 21)], type := 39, pos := "l2_markov.go:255", after := #[{ on := 1, ground := Ground.data }], guard := none }) rfl (fun K hK => ?_) ?_
                · have HW_ : Aside0 (W0mcp = W0mcp) := ⟨rfl⟩
                  refine Kd.S_lits_step (Kd.slice 3 (Kd.int .i64)) (w0 := w) w.heap.size 22 (by rfl) (N := 22) rfl (xs := [l1]) (inner := [.slice A6 l1.length c6]) (ok := (fun k_ => k_ ≠ B)) (fun j k_ => j = 0 ∧ some k_ = (Value.slice A6 l1.length c6).ownBlock) ?hr rfl ?hp ?ha (fun j_ k_ hk_ => (HO.out.1 k_ hk_.2.symm)) (by have h2_ := HM.out.lt; omega) HB.out (below_size HB.out) (by simp) ?_
                  case hr => first | (go_simp; done) | (go_simp; rfl)
                  case hp => (intro j x hj; match j, hj with | 0, hj => (obtain rfl : l1 = x := by simpa using hj); exact ⟨_, rfl, Kd.R_mono (Kd.R_tight rfl HO.out) (fun k_ hk => ⟨rfl, hk⟩)⟩)
                  case ha => (rintro i j k_ ⟨rfl, _⟩ ⟨rfl, _⟩; rfl)
                  intro v2 W0mcps ho hb hg hat
                  have HB_ := Aside0.mk hb
                  have HS := Aside0.mk ho
                  have HM_ := Aside0.mk (HM.out.kept hg (by simp))
                  refine hK.out _ _ HB_.out (fun hH => ?_)
                  (try simp only [Act.put, List.setIfInBounds_toArray, List.set_cons_zero, List.set_cons_succ])
                  clear hK K hHeld
                  have hHeld := HB_.out
                  clear HB; have HB := HB_; clear HB_
                  clear HM; have HM := HM_; clear HM_
                  refine wpAnyH_take (i := 9) (oi := { dst := some 6, op := Op.assign (Operand.tmp 22), type := 39, pos := "l2_markov.go:255", after := #[{ on := 2, ground := Ground.data }, { on := 1, ground := Ground.chain }, { on := 0, ground := Ground.phase }, { on := 1, ground := Ground.phase }, { on := 2, ground := Ground.phase }, { on := 3, ground := Ground.textOnly Departure.lateStoresUnsure }, { on := 4, ground := Ground.textOnly Departure.lateStores }, { on := 5, ground := Ground.textOnly Departure.lateStores }, { on := 6, ground := Ground.textOnly Departure.lateStores }, { on := 7, ground := Ground.textOnly Departure.lateStores }, { on := 8, ground := Ground.textOnly Departure.lateStores }], guard := none }) (v := ?_) rfl (by kernel_rfl) (by kernel_rfl) (by kernel_rfl) (fun _ _ _ h => h) (Or.inl ⟨by rfl, ?_⟩) (by assumption) ?_
                  rotate_left
                  · (intro W hSW; go_simp; first | done | with_reducible rfl)
                  (try simp only [Act.put, List.setIfInBounds_toArray, List.set_cons_zero, List.set_cons_succ])
                  refine wpAnyH_take (i := 10) (oi := { dst := some 7, op := Op.assign (Operand.tmp 27), type := 70, pos := "l2_markov.go:255", after := #[{ on := 8, ground := Ground.data }, { on := 9, ground := Ground.chain }, { on := 0, ground := Ground.phase }, { on := 1, ground := Ground.phase }, { on := 2, ground := Ground.phase }, { on := 3, ground := Ground.phase }, { on := 4, ground := Ground.phase }, { on := 5, ground := Ground.phase }, { on := 6, ground := Ground.phase }, { on := 7, ground := Ground.phase }, { on := 8, ground := Ground.phase }, { on := 9, ground := Ground.phase }], guard := none }) (v := ?_) rfl (by kernel_rfl) (by kernel_rfl) (by kernel_rfl) (fun _ _ _ h => h) (Or.inl ⟨by rfl, ?_⟩) (by assumption) ?_
                  rotate_left
                  · (intro W hSW; go_simp; first | done | with_reducible rfl)
                  (try simp only [Act.put, List.setIfInBounds_toArray, List.set_cons_zero, List.set_cons_succ])
                  refine wpAnyH_done (by kernel_rfl) ?_ _
                  refine NoPanic.normal ?_
                  go_wp2
                  go_meet
                  case rel => exact ⟨B, rfl, HBB, HM, HS, HB⟩
                exact AllReadyH.nil
              exact AllReadyH.nil
            refine AllReadyH.cons (o := { dst := none, op := Op.insert 70 (Operand.tmp 23) (Operand.tmp 26) (Operand.const (Value.bool true)), type := 0, pos := "l2_markov.go:255", after := #[{ on := 3, ground := Ground.data }, { on := 6, ground := Ground.data }, { on := 9, ground := Ground.gcOnly Departure.lateStores }], guard := none }) rfl (fun K hK => ?_) ?_
            · have HW_ : Aside0 (W0m = W0m) := ⟨rfl⟩
              obtain ⟨W0mp, hrun_, hmet_, hg_⟩ := met_put HM.out (by simp) wa wb wc
              go_simp
              have HB_ := Aside0.mk (below_grown_far HB.out hg_ HBB.out)
              have HM_ : Aside0 (Met W0mp B [l1]) := ⟨by rw [HE.out]; exact hmet_⟩
              refine hK.out _ _ HB_.out (fun hH => ?_)
              (try simp only [Act.put, List.setIfInBounds_toArray, List.set_cons_zero, List.set_cons_succ])
              clear hK K hHeld
              have hHeld := HB_.out
              clear HB; have HB := HB_; clear HB_
              clear HM; have HM := HM_; clear HM_
              refine wpAnyH_take (i := 8) (oi := { dst := some 27, op := Op.move (Operand.tmp 23), type := 70, pos := "l2_markov.go:255", after := #[{ on := 3, ground := Ground.data }, { on := 4, ground := Ground.data }, { on := 5, ground := Ground.data }, { on := 6, ground := Ground.data }, { on := 7, ground := Ground.data }, { on := 9, ground := Ground.gcOnly Departure.lateStores }], guard := none }) (v := ?_) rfl (by kernel_rfl) (by kernel_rfl) (by kernel_rfl) (fun _ _ _ h => h) (Or.inl ⟨by rfl, ?_⟩) (by assumption) ?_
              rotate_left
              · (intro W hSW; go_simp; first | done | with_reducible rfl)
              (try simp only [Act.put, List.setIfInBounds_toArray, List.set_cons_zero, List.set_cons_succ])
              refine wpAnyH_ready (rs := [1]) (by kernel_rfl) (by simp) ?_
              refine AllReadyH.cons (o := { dst := some 21, op := Op.call { callee := Callee.value (Operand.func 75), args := #[Operand.tmp 20], argTypes := #[22] }, type := 22, pos := "l2_markov.go:255", after := #[{ on := 0, ground := Ground.data }], guard := none }) rfl (fun K hK => ?_) ?_
              · have HW_ : Aside0 (W0mp = W0mp) := ⟨rfl⟩
                refine goes_ Try.func75 (by kernel_rfl) rfl #[.slice (some ad1) 3 c0] (by rfl) rfl rfl (by (try simp only [List.map_toArray, List.map_cons, List.map_nil]); first | done | rfl) ?_
                refine (slices_Clone_int_int.calls _ c0 [a, b, c] l1 _ (Kd.C_below HR0.out HB.out) HC0.out HA5.out).mono ?_
                rintro e W0mpc ⟨v6, rfl, ho6, hb6⟩
                refine ⟨_, rfl, ?_⟩
                have HB_ := Aside0.mk (below_step HB.out hb6)
                have HO : Aside0 (Kd.R (Kd.int .i64) 3 W0mpc w.heap.size (fun k_ => k_ ≠ B) v6 l1) := ⟨Kd.R_lower (Kd.R_mono (Kd.R_bound ho6) (fun k_ hk_ => by have h1_ := hk_.2.1; have h2_ := HM.out.lt; omega)) (below_size HB.out)⟩
                have HM_ := Aside0.mk (HM.out.below hb6)
                obtain ⟨A6, c6, e6⟩ := Kd.R_slice HO.out
                subst e6
                refine hK.out _ _ HB_.out (fun hH => ?_)
                (try simp only [Act.put, List.setIfInBounds_toArray, List.set_cons_zero, List.set_cons_succ])
                clear hK K hHeld
                have hHeld := HB_.out
                clear HB; have HB := HB_; clear HB_
                clear HM; have HM := HM_; clear HM_
                refine wpAnyH_ready (rs := [2]) (by kernel_rfl) (by simp) ?_
                refine AllReadyH.cons (o := { dst := some 22, op := Op.buildSlice 39 1 #[(0, Operand.tmp 21)], type := 39, pos := "l2_markov.go:255", after := #[{ on := 1, ground := Ground.data }], guard := none }) rfl (fun K hK => ?_) ?_
                · have HW_ : Aside0 (W0mpc = W0mpc) := ⟨rfl⟩
                  refine Kd.S_lits_step (Kd.slice 3 (Kd.int .i64)) (w0 := w) w.heap.size 22 (by rfl) (N := 22) rfl (xs := [l1]) (inner := [.slice A6 l1.length c6]) (ok := (fun k_ => k_ ≠ B)) (fun j k_ => j = 0 ∧ some k_ = (Value.slice A6 l1.length c6).ownBlock) ?hr rfl ?hp ?ha (fun j_ k_ hk_ => (HO.out.1 k_ hk_.2.symm)) (by have h2_ := HM.out.lt; omega) HB.out (below_size HB.out) (by simp) ?_
                  case hr => first | (go_simp; done) | (go_simp; rfl)
                  case hp => (intro j x hj; match j, hj with | 0, hj => (obtain rfl : l1 = x := by simpa using hj); exact ⟨_, rfl, Kd.R_mono (Kd.R_tight rfl HO.out) (fun k_ hk => ⟨rfl, hk⟩)⟩)
                  case ha => (rintro i j k_ ⟨rfl, _⟩ ⟨rfl, _⟩; rfl)
                  intro v2 W0mpcs ho hb hg hat
                  have HB_ := Aside0.mk hb
                  have HS := Aside0.mk ho
                  have HM_ := Aside0.mk (HM.out.kept hg (by simp))
                  refine hK.out _ _ HB_.out (fun hH => ?_)
                  (try simp only [Act.put, List.setIfInBounds_toArray, List.set_cons_zero, List.set_cons_succ])
                  clear hK K hHeld
                  have hHeld := HB_.out
                  clear HB; have HB := HB_; clear HB_
                  clear HM; have HM := HM_; clear HM_
                  refine wpAnyH_take (i := 9) (oi := { dst := some 6, op := Op.assign (Operand.tmp 22), type := 39, pos := "l2_markov.go:255", after := #[{ on := 2, ground := Ground.data }, { on := 1, ground := Ground.chain }, { on := 0, ground := Ground.phase }, { on := 1, ground := Ground.phase }, { on := 2, ground := Ground.phase }, { on := 3, ground := Ground.textOnly Departure.lateStoresUnsure }, { on := 4, ground := Ground.textOnly Departure.lateStores }, { on := 5, ground := Ground.textOnly Departure.lateStores }, { on := 6, ground := Ground.textOnly Departure.lateStores }, { on := 7, ground := Ground.textOnly Departure.lateStores }, { on := 8, ground := Ground.textOnly Departure.lateStores }], guard := none }) (v := ?_) rfl (by kernel_rfl) (by kernel_rfl) (by kernel_rfl) (fun _ _ _ h => h) (Or.inl ⟨by rfl, ?_⟩) (by assumption) ?_
                  rotate_left
                  · (intro W hSW; go_simp; first | done | with_reducible rfl)
                  (try simp only [Act.put, List.setIfInBounds_toArray, List.set_cons_zero, List.set_cons_succ])
                  refine wpAnyH_take (i := 10) (oi := { dst := some 7, op := Op.assign (Operand.tmp 27), type := 70, pos := "l2_markov.go:255", after := #[{ on := 8, ground := Ground.data }, { on := 9, ground := Ground.chain }, { on := 0, ground := Ground.phase }, { on := 1, ground := Ground.phase }, { on := 2, ground := Ground.phase }, { on := 3, ground := Ground.phase }, { on := 4, ground := Ground.phase }, { on := 5, ground := Ground.phase }, { on := 6, ground := Ground.phase }, { on := 7, ground := Ground.phase }, { on := 8, ground := Ground.phase }, { on := 9, ground := Ground.phase }], guard := none }) (v := ?_) rfl (by kernel_rfl) (by kernel_rfl) (by kernel_rfl) (fun _ _ _ h => h) (Or.inl ⟨by rfl, ?_⟩) (by assumption) ?_
                  rotate_left
                  · (intro W hSW; go_simp; first | done | with_reducible rfl)
                  (try simp only [Act.put, List.setIfInBounds_toArray, List.set_cons_zero, List.set_cons_succ])
                  refine wpAnyH_done (by kernel_rfl) ?_ _
                  refine NoPanic.normal ?_
                  go_wp2
                  go_meet
                  case rel => exact ⟨B, rfl, HBB, HM, HS, HB⟩
                exact AllReadyH.nil
              exact AllReadyH.nil
            exact AllReadyH.nil
          exact AllReadyH.nil
        case rest =>
          clear HB
          obtain ⟨B, rfl, HBB, HM, HS, HB⟩ := hcut
          have HL1 : Aside0 (l1.length = 3) := ⟨by rw [HE.out]; rfl⟩
          clear HX0 HX1 HX2 HWF HE HA3 HA4 HA5
          go_wp2
          go_loopg [6, 8] k (fun kq v6 v8 w' => ∃ (o : List (List Int)) (kk : Int), v8 = .int .i64 kk ∧ Aside0 (0 ≤ kk ∧ kk ≤ 1000000) ∧ Aside0 (orbL a0 kq o kk = some r) ∧ Aside0 (kq ≤ k) ∧ Aside0 o.Nodup ∧ Aside0 (∀ x ∈ o, x.length = 3) ∧ Aside0 (o.length ≤ 1000000) ∧ Aside0 (Met w' B o) ∧ Aside0 (Kd.S (Kd.slice 3 (Kd.int .i64)) 22 w' w.heap.size (fun k_ => k_ ≠ B) v6 o) ∧ Aside0 (Below w.heap.size w w'))
          case atStart => exact ⟨[l1], 0, rfl, ⟨by omega⟩, H', ⟨Nat.le_refl _⟩, ⟨by simp⟩, ⟨by intro x hx; rw [List.mem_singleton] at hx; rw [hx, HL1.out]⟩, ⟨by simp⟩, HM, HS, HB⟩
          case round =>
            clear H' HM HS HB HL1
            obtain ⟨o, kk, rfl, HKK, HA, HK1, HND, HL3, HLM, HM, HS, HB⟩ := hrel
            cases gk with
            | zero => exact absurd HA.out (by simp [orbL])
            | succ k1 =>
              have H := HA.out
              clear HA
              simp only [orbL] at H
              obtain ⟨A6, c6, e6⟩ := Kd.S_slice HS.out
              subst e6
              by_cases c2 : kk < (o.length : Int)
              · rw [if_pos c2] at H
                obtain ⟨o2, A4, H⟩ := Option.bind_eq_some_iff.mp H
                have HIN : Aside0 (orbIn a0 kk 3 ((0 : Nat) : Int) o = some o2) := ⟨A4⟩
                have H2 := Aside0.mk H
                clear A4 H
                have c2b0 : decide (kk < (o.length : Int)) = true := decide_eq_true c2
                have HKL := Aside0.mk c2
                clear c2
                go_wp2
                go_loopg [6, 34] 4 (fun kj v6 v34 w' => ∃ (o' : List (List Int)) (off j : Nat), v34 = .int .i64 (off : Int) ∧ Aside0 (off + j = 3) ∧ Aside0 (j < kj) ∧ Aside0 (orbIn a0 kk j (off : Int) o' = some o2) ∧ Aside0 o'.Nodup ∧ Aside0 (∀ x ∈ o', x.length = 3) ∧ Aside0 (o.length ≤ o'.length ∧ o'.length ≤ 1000000) ∧ Aside0 (Met w' B o') ∧ Aside0 (Kd.S (Kd.slice 3 (Kd.int .i64)) 22 w' w.heap.size (fun k_ => k_ ≠ B) v6 o') ∧ Aside0 (Below w.heap.size w w'))
                case atStart => exact ⟨o, 0, 3, rfl, ⟨by omega⟩, ⟨by omega⟩, HIN, HND, HL3, ⟨Nat.le_refl _, HLM.out⟩, HM, HS, HB⟩
                case round =>
                  clear HIN HND HL3 HM HS HB
                  obtain ⟨o', off, j, rfl, HOJ, HJ, HIN, HND, HL3, HLM2, HM, HS, HB⟩ := hrel
                  cases j with
                  | zero =>
                    obtain rfl : o' = o2 := by simpa [orbIn] using HIN.out
                    obtain rfl : off = 3 := by have := HOJ.out; omega
                    go_wp2
                    go_roundg k1
                    case measure => have := HK1.out; omega
                    case rel => exact ⟨o', wrap64 (kk + 1), (by first | rfl | (simp; done) | (simp [*]; done)), ⟨by have := HKK.out; have := HKL.out; have := HLM.out; unfold wrap64; omega⟩, H2, ⟨by have := HK1.out; omega⟩, HND, HL3, ⟨HLM2.out.2⟩, HM, HS, HB⟩
                  | succ j =>
                    have hOJ := HOJ.out
                    have hofz : (off : Int) < 3 := by omega
                    have d1b0 : decide ((off : Int) < 3) = true := decide_eq_true hofz
                    have d1b1 : decide (off < 3) = true := decide_eq_true (by omega)
                    obtain ⟨u, hU, hin⟩ := Option.bind_eq_some_iff.mp (show ((impl_modMoved.f a0 (rd_L1 o' kk) (off : Int)).bind fun u => (if goodT u = true then (if u ∈ o' then orbIn a0 kk j (wrap64 ((off : Int) + 1)) o' else (if o'.length < 1000000 then orbIn a0 kk j (wrap64 ((off : Int) + 1)) (o' ++ [u]) else none)) else none)) = some o2 from HIN.out)
                    have HU := Aside0.mk hU
                    clear hU
                    by_cases hg : goodT u = true
                    · rw [if_pos hg] at hin
                      obtain ⟨x, y, z, hxyz, wx, wy, wz⟩ := goodT_is hg
                      have HE5 := Aside0.mk hxyz
                      have HWX := Aside0.mk (And.intro wx (And.intro wy wz))
                      have HW : Aside0 (wrap64 ((off : Int) + 1) = ((off + 1 : Nat) : Int)) := ⟨by unfold wrap64; omega⟩
                      rw [HW.out] at hin
                      obtain ⟨A6, c6, e6⟩ := Kd.S_slice HS.out
                      subst e6
                      have p1 : 0 ≤ kk := HKK.out.1
                      have q1 : kk < (o'.length : Int) := by have := HKL.out; have := HLM2.out.1; omega
                      obtain ⟨ad1_, A1, cr, e1, hx1, hl1, hi1⟩ := at_L1 (Kd.S_reads' HS.out).2.2 kk p1 q1
                      cases e1
                      have HCR := Aside0.mk hl1
                      have HRR := Aside0.mk hi1
                      have qi1 : (kk.toNat < o'.length) = True := eq_true (by omega)
                      clear hl1 hi1 hg hxyz wx wy wz
                      replace p1 := eq_true p1
                      replace q1 := eq_true q1
                      by_cases hm : u ∈ o'
                      · rw [if_pos hm] at hin
                        have HIN2 := Aside0.mk hin
                        have HMU := Aside0.mk hm
                        clear hin hm HIN
                        go_wp2_with (first | (go_at_call 67; refine (impl_modMoved.calls a0 _ cr (rd_L1 o' kk) (off : Int) u _ HRR.out HCR.out HU.out).mono ?_; rintro e w5 ⟨v5, rfl, ho5, hb5⟩; obtain ⟨A5, c5, e5⟩ := Kd.R_slice ho5; subst e5; rw [HE5.out] at ho5; have hC5 := (Kd.R_reads' ho5).2.2; obtain ⟨ad5, e5, hY0, hY1, hY2⟩ := row3_at hC5; subst e5; have hM5 := HM.out.below hb5; have hlk := met_look hM5 HWX.out.1 HWX.out.2.1 HWX.out.2.2; have hsl := run_arrayAt (P := Try.prog) (w := w5) (arr := 69) (e := 3) (n := 3) (a := some ad5) (len := 3) (cap := c5) Try.underlying69 (Nat.le_refl _); have hl5 : u.length = 3 := congrArg List.length HE5.out; rw [hl5]; rw [← HE5.out, decide_eq_true HMU.out] at hlk; have n0_ := Aside0.mk (Kd.S_below HS.out hb5); have n1_ := Aside0.mk hM5; have n2_ := Aside0.mk (below_step HB.out hb5); clear HM HS HB hb5 hM5 hC5 ho5; have HM := n1_; have HS := n0_; have HB := n2_; clear n0_ n1_ n2_))
                        go_roundg (j + 1)
                        case measure => have := HJ.out; omega
                        case rel => exact ⟨o', off + 1, j, (by first | rfl | (rw [← HW.out]; rfl) | (rw [← HW.out]) | (simp; done)), ⟨by have := HOJ.out; omega⟩, ⟨by have := HJ.out; omega⟩, HIN2, HND, HL3, HLM2, HM, HS, HB⟩
                      · rw [if_neg hm] at hin
                        by_cases hc : o'.length < 1000000
                        · rw [if_pos hc] at hin
                          have HIN2 := Aside0.mk hin
                          have HMU := Aside0.mk hm
                          have HLC := Aside0.mk hc
                          clear hin hm hc HIN
                          go_wp2_with (first
                            | (go_at_call 67; refine (impl_modMoved.calls a0 _ cr (rd_L1 o' kk) (off : Int) u _ HRR.out HCR.out HU.out).mono ?_; rintro e w5 ⟨v5, rfl, ho5, hb5⟩; obtain ⟨A5, c5, e5⟩ := Kd.R_slice ho5; subst e5; rw [HE5.out] at ho5; have hC5 := (Kd.R_reads' ho5).2.2; obtain ⟨ad5, e5, hY0, hY1, hY2⟩ := row3_at hC5; subst e5; have hM5 := HM.out.below hb5; have hlk := met_look hM5 HWX.out.1 HWX.out.2.1 HWX.out.2.2; have hsl := run_arrayAt (P := Try.prog) (w := w5) (arr := 69) (e := 3) (n := 3) (a := some ad5) (len := 3) (cap := c5) Try.underlying69 (Nat.le_refl _); have hl5 : u.length = 3 := congrArg List.length HE5.out; rw [hl5]; rw [← HE5.out, decide_eq_false HMU.out] at hlk; obtain ⟨w6, hrun, hM6, hg6⟩ := met_put hM5 (by have := HLC.out; omega) HWX.out.1 HWX.out.2.1 HWX.out.2.2; have hB5 := below_step HB.out hb5; have hlt5 := HM.out.lt; have n0_ := Aside0.mk (Kd.S_step (Kd.S_below (Kd.S_bound HS.out) hb5) (fun k_ hk_ hl_ => hg6.block k_ hl_ (fun e_ => hk_.1 (Option.some.inj e_)))); have hR5 : Kd.R (Kd.int .i64) 3 w5 wr.heap.size (fun k_ => k_ ≠ B ∧ wr.heap.size ≤ k_) _ _ := Kd.R_mono (Kd.R_bound ho5) (fun k_ hk_ => ⟨by have h1_ := hk_.2.1; omega, hk_.2.1⟩); have n3_ := Aside0.mk (Kd.R_lower (Kd.R_step hR5 (fun k_ hk_ hl_ => hg6.block k_ hl_ (fun e_ => hk_.1 (Option.some.inj e_)))) (below_size HB.out)); rw [← HE5.out] at n3_ hM6; have n1_ := Aside0.mk hM6; have n2_ := Aside0.mk (below_grown_far hB5 hg6 HBB.out); have n4_ := Aside0.mk (Kd.S_lt HS.out); clear HM HS HB hb5 hM5 hC5 ho5 hB5 hR5 hM6 hg6 hlt5; have HM := n1_; have HS := n0_; have HB := n2_; have HRN := n3_; have HOL := n4_; clear n0_ n1_ n2_ n3_ n4_)
                            | ((with_reducible refine gate_builtin (b := .append) (xs := #[.tmp 54, .tmp 56]) rfl ?_); at_builtin; (refine Kd.S_append (Kd.slice 3 (Kd.int .i64)) (w0 := w) w.heap.size rfl (.tmp 54) (.tmp 56) 39 22 (.slice none 0 0) 24 rfl Try.underlying39 info22 rfl (by decide) (by omega) (.slice (some ad1_) o'.length c6) o' u [.slice (some ad5) 3 c5] (fun k_ => k_ ≠ B) (fun k_ => some k_ = (Value.slice (some ad5) 3 c5).ownBlock) rfl rfl ?aP ?aK ?aF ?aO ?aB ?aS ?aL ?_; (case aP => exact ⟨_, rfl, by (have h_ := Kd.R_tight rfl HRN.out); rw [hl5] at h_; exact h_⟩); (case aK => exact fun k_ hk_ => ⟨(HRN.out.1 k_ hk_.symm).1, fun e_ => by have h1_ := (HRN.out.1 k_ hk_.symm).2; have h2_ := HOL.out k_ e_.symm; omega⟩); (case aF => exact fun k_ hk_ => by have h1_ := HM.out.lt; omega); (case aO => exact Kd.S_mono HS.out (fun k_ hk_ => ⟨hk_.1, fun e_ => by have h1_ := (HRN.out.1 k_ e_.symm).2; have h2_ := hk_.2.2.1; omega⟩)); (case aB => exact HB.out); (case aS => exact below_size HB.out); (case aL => have := HLC.out; omega); intro v7 w7 ho hb hg hat; have n0_ := Aside0.mk ho; have n1_ := Aside0.mk hb; have n2_ := Aside0.mk (HM.out.kept hg (fun e_ => ((Kd.S_R HS.out).1 B e_.symm).1 rfl)); clear HS HB HM hg hat ho hb; have HS := n0_; have HB := n1_; have HM := n2_; clear n0_ n1_ n2_)))
                          go_roundg (j + 1)
                          case measure => have := HJ.out; omega
                          case rel => exact ⟨o' ++ [u], off + 1, j, (by first | rfl | (rw [← HW.out]; rfl) | (rw [← HW.out]) | (simp; done)), ⟨by have := HOJ.out; omega⟩, ⟨by have := HJ.out; omega⟩, HIN2, ⟨by rw [List.nodup_append]; exact ⟨HND.out, by simp, fun a_ ha_ b_ hb_ e_ => HMU.out (by rw [List.mem_singleton] at hb_; rw [← hb_, ← e_]; exact ha_)⟩⟩, ⟨fun x_ hx_ => by rcases List.mem_append.1 hx_ with h_ | h_; exact HL3.out x_ h_; (rw [List.mem_singleton] at h_; rw [h_, hl5])⟩, ⟨by have := HLM2.out; have := HLC.out; simp; omega⟩, HM, HS, HB⟩
                        · rw [if_neg hc] at hin
                          exact absurd hin (by simp)
                    · rw [if_neg hg] at hin
                      exact absurd hin (by simp)
              · rw [if_neg c2] at H
                have c2b0 : decide (kk < (o.length : Int)) = false := decide_eq_false c2
                clear c2
                obtain rfl : sortDedup o = r := by simpa using H
                clear H
                go_wp2_with (first
                  | (go_at_call 77; refine (rows_sort cmpL cmpL_total (fun x => x.length < 9223372036854775807) 78 #[] orb_enters orb_at (fun k_ => k_ ≠ B) _ o w _ HB.out (fun x hx => by rw [HL3.out x hx]; omega) (by have := HLM.out; omega) HS.out).mono ?_; rintro e w3 ⟨rfl, ys, hp, hs, ho, hb, hk⟩; have n1_ := Aside0.mk (Kd.S_mono ho (fun _ _ => trivial)); have n2_ := Aside0.mk hb; have n3_ := Aside0.mk hp; have n4_ := Aside0.mk hs; clear HS HB HM; have HO6 := n1_; have HB := n2_; have HPM := n3_; have HSO := n4_; clear n1_ n2_ n3_ n4_ ho hb hk hp hs))
                go_ret2
                exact ⟨_, rfl, by rw [← orb_sorted HND.out HPM.out HSO.out]; exact HO6.out, HB.out⟩
      · rw [if_neg c1] at h
        exact absurd h (by simp)
end Go.Proofs.Ythkmbkibceojlaa.P
