-- GIVEN loop.example/g01122/spec.huDown making rounds
-- GIVEN loop.example/g01122/impl.WayDown making rounds
/- The contracts of spec.huDown and impl.WayDown, in the printer's form: the rows of what they hand back lie in blocks of their own. -/
import Derived.Test.YtfdjbcbhlfjogaaUscalar
import Derived.Test.YtfdjbcbhlfjogaaGcloneInts
import Derived.Test.YtfdjbcbhlfjogaaPFspecl1Own
import Derived.Test.YtfdjbcbhlfjogaaPFspechuLast
import Derived.Test.YtfdjbcbhlfjogaaPFspechuJump
import Derived.Test.YtfdjbcbhlfjogaaPFimplisSolution
import Derived.Test.YtfdjbcbhlfjogaaPFimplisFundamental
import Derived.Test.YtfdjbcbhlfjogaaPFimpljump
namespace Go.Proofs.Ytfdjbcbhlfjogaa.P
open Go.RowKit Go.Proofs.YtfdjbcbhlfjogaaW.PrintWords Go.Proofs.YtfdjbcbhlfjogaaW.PrintLast
set_option linter.unusedVariables false
set_option linter.unusedSimpArgs false

def spec_huDown.l0 : Nat → List Int → Int → List (List Int) → Option (List (List Int))
  | 0, _, _, _ => none
  | k + 1, x, a, o => (spec_huLast.f k x a).bind fun t => if t = true then some o else ((spec_huJump.f k x a 0).bind fun bt => if o.length < 1000000000 then spec_huDown.l0 k bt.1 a (o ++ [bt.1]) else none)
def spec_huDown.f (k : Nat) (l0 : List Int) (a1 : Int) : Option (List (List Int)) := (spec_l1Own.f l0).bind fun t => spec_huDown.l0 k t a1 [t]
theorem spec_huDown.mono_l : ∀ k, (∀ y0 y1 y2, LeO (spec_huDown.l0 k y0 y1 y2) (spec_huDown.l0 (k + 1) y0 y1 y2))
  | 0 => fun _ _ _ r h => by simp [spec_huDown.l0] at h
  | k + 1 => by
    have ih0 := spec_huDown.mono_l k
    intro y0 y1 y2
    unfold spec_huDown.l0
    repeat' first
      | (with_reducible exact ih0 _ _ _)
      | (with_reducible exact spec_huLast.mono _ _ _)
      | (with_reducible exact spec_huJump.mono _ _ _ _)
      | (with_reducible exact LeO.refl _)
      | (with_reducible exact LeO.none _)
      | (with_reducible refine LeO.ite ?_ ?_)
      | (with_reducible refine LeO.bind ?_ (fun _ => ?_))
theorem spec_huDown.mono : ∀ a0 a1 k, LeO (spec_huDown.f k a0 a1) (spec_huDown.f (k + 1) a0 a1) := by
  intro a0 a1 k
  unfold spec_huDown.f
  exact LeO.bind (LeO.refl _) (fun _ => spec_huDown.mono_l k _ _ _)

set_option maxHeartbeats 4000000 in
set_option maxRecDepth 100000 in
theorem spec_huDown.calls (k : Nat) (A0 : Option Addr) (c0 : Nat) (l0 : List Int) (a1 : Int) (r : List (List Int)) (w : World) (hr0 : Kd.C (Kd.int .i64) w A0 l0.length l0) (hc0 : l0.length ≤ c0) (h : spec_huDown.f k l0 a1 = some r) :
    Calls Try.prog 73 #[.slice A0 l0.length c0, .int .i64 a1] w fun e w' => ∃ v0_ : Value, e = .returned (v0_) ∧ Kd.S (Kd.slice 3 (Kd.int .i64)) 22 w' w.heap.size (fun _ => True) v0_ r ∧ Below w.heap.size w w' := by
  obtain ⟨t, A4, H⟩ := Option.bind_eq_some_iff.mp h
  clear h
  have HR0 := Aside0.mk hr0
  have HC0 := Aside0.mk hc0
  have HA4 := Aside0.mk A4
  have H' := Aside0.mk H
  have HB := Aside0.mk (Below.refl w.heap.size w)
  clear hr0 hc0 A4 H
  go_enter Try.func73, Try.ntmps73
  go_wp2_with (first
    | (go_at_call 70; refine (spec_l1Own.calls _ _ l0 t _ (by repeat (first | exact HR0.out | (with_reducible refine Kd.C_alloc ?_ _) | (with_reducible refine Kd.C_drewN ?_ _) | (with_reducible refine Kd.C_drew ?_))) HC0.out HA4.out).mono ?_; rintro e w1 ⟨v1, rfl, ho0, hb⟩; have n1_ := Aside0.mk (below_step HB.out hb); have n2_ := Aside0.mk (Kd.R_lower ho0 (below_size HB.out)); clear HB; have HB := n1_; have HO5 := n2_; clear n1_ n2_ ho0 hb; obtain ⟨Ao1, co1, eo1⟩ := Kd.R_slice HO5.out; subst eo1)
    | ((with_reducible refine gate_dst (N := 10) rfl ?_); refine Kd.S_lits (Kd.slice 3 (Kd.int .i64)) (w0 := w) w.heap.size 22 ?hg (N := 10) ?hd (xs := [t]) (inner := [.slice Ao1 t.length co1]) (ok := fun _ => True) (fun j k_ => j = 0 ∧ some k_ = (Value.slice Ao1 t.length co1).ownBlock) ?hr rfl ?hp ?ha (fun _ _ _ => trivial) trivial ?hB ?hs (by simp) ?_; (case hd => rfl); (case hg => rfl); (case hr => first | (go_simp; done) | (go_simp; rfl)); (case hp => intro j x hj; match j, hj with | 0, hj => (obtain rfl : t = x := by simpa using hj); exact ⟨_, rfl, Kd.R_mono (Kd.R_tight rfl HO5.out) (fun k_ hk => ⟨rfl, hk⟩)⟩); (case ha => rintro i j k_ ⟨rfl, _⟩ ⟨rfl, _⟩; rfl); (case hB => exact HB.out); (case hs => exact below_size HB.out); intro v2 w2 ho hb hg hat; have n1_ := Aside0.mk (Kd.R_over' HO5.out (v := .slice none 0 0) (e' := 22) (by intro k_ hk; simp [Value.ownBlock] at hk) (by decide) hg); have n2_ := Aside0.mk ho; have n3_ := Aside0.mk hb; clear HB HO5; have HO5 := n1_; have HO6 := n2_; have HB := n3_; clear n1_ n2_ n3_ ho hb hg hat))
  go_loopg [5, 6] k (fun kq v5 v6 w' => ∃ (x : List Int) (o : List (List Int)), Aside0 (spec_huDown.l0 kq x a1 o = some r) ∧ Aside0 (kq ≤ k) ∧ Aside0 (Kd.R (Kd.int .i64) 3 w' w.heap.size (fun _ => True) v5 x) ∧ Aside0 (Kd.S (Kd.slice 3 (Kd.int .i64)) 22 w' w.heap.size (fun _ => True) v6 o) ∧ Aside0 (Below w.heap.size w w'))
  case atStart => exact ⟨t, [t], H', ⟨Nat.le_refl _⟩, ⟨HO5.out⟩, ⟨HO6.out⟩, ⟨HB.out⟩⟩
  case round =>
    clear H' HO5 HO6 HB HA4
    obtain ⟨x, o, HA, HK1, HO5, HO6, HB⟩ := hrel
    cases gk with
    | zero => exact absurd HA.out (by simp [spec_huDown.l0])
    | succ k1 =>
      have H := HA.out
      clear HA
      simp only [spec_huDown.l0] at H
      obtain ⟨t1, A12, H⟩ := Option.bind_eq_some_iff.mp H
      have HA12 := Aside0.mk A12
      clear A12
      obtain ⟨Ax, cx, ex⟩ := Kd.R_slice HO5.out
      subst ex
      by_cases c13 : t1 = true
      · subst c13
        obtain rfl : o = r := by simpa using H
        clear H
        go_wp2_with (first
          | (go_at_call 59; refine (spec_huLast.calls k1 _ _ x a1 true _ (by repeat (first | exact (Kd.R_reads' HO5.out).2.2 | (with_reducible refine Kd.C_alloc ?_ _) | (with_reducible refine Kd.C_drewN ?_ _) | (with_reducible refine Kd.C_drew ?_))) (Kd.R_reads' HO5.out).2.1 HA12.out).mono ?_; rintro e w3 ⟨rfl, hb⟩; have n1_ := Aside0.mk (Kd.S_below HO6.out hb); have n2_ := Aside0.mk (below_step HB.out hb); clear HO6 HB; have HO6 := n1_; have HB := n2_; clear n1_ n2_ hb))
        go_ret
        exact ⟨_, rfl, HO6.out, HB.out⟩
      · replace c13 := Bool.eq_false_iff.mpr c13
        subst c13
        rw [if_neg (show ¬ (false = true) by decide)] at H
        obtain ⟨⟨t2, t3⟩, A15, H⟩ := Option.bind_eq_some_iff.mp H
        have HA15 := Aside0.mk A15
        clear A15
        by_cases c17 : o.length < 1000000000
        · replace H : spec_huDown.l0 k1 t2 a1 (o ++ [t2]) = some r := by
            have H2 : (if o.length < 1000000000 then spec_huDown.l0 k1 t2 a1 (o ++ [t2]) else none) = some r := H
            rw [if_pos c17] at H2
            exact H2
          have H' := Aside0.mk H
          have LM := Aside0.mk c17
          clear H c17
          go_wp2_with (first
            | (go_at_call 59; refine (spec_huLast.calls k1 _ _ x a1 false _ (by repeat (first | exact (Kd.R_reads' HO5.out).2.2 | (with_reducible refine Kd.C_alloc ?_ _) | (with_reducible refine Kd.C_drewN ?_ _) | (with_reducible refine Kd.C_drew ?_))) (Kd.R_reads' HO5.out).2.1 HA12.out).mono ?_; rintro e w3 ⟨rfl, hb⟩; have n0_ := Aside0.mk (Kd.R_below HO5.out hb); have n1_ := Aside0.mk (Kd.S_below HO6.out hb); have n2_ := Aside0.mk (below_step HB.out hb); clear HO5 HO6 HB; have HO5 := n0_; have HO6 := n1_; have HB := n2_; clear n0_ n1_ n2_ hb)
            | (go_at_call 67; refine (spec_huJump.calls k1 _ _ x a1 0 t2 t3 _ (by repeat (first | exact (Kd.R_reads' HO5.out).2.2 | (with_reducible refine Kd.C_alloc ?_ _) | (with_reducible refine Kd.C_drewN ?_ _) | (with_reducible refine Kd.C_drew ?_))) (Kd.R_reads' HO5.out).2.1 HA15.out).mono ?_; rintro e w4 ⟨v4, rfl, ho0, hb⟩; have n1_ := Aside0.mk (Kd.S_elder' (by (with_reducible repeat (first | apply Kd.S_alloc | apply Kd.S_drewN | apply Kd.S_drew)); exact HO6.out) (Kd.R_base ho0) hb); have n2_ := Aside0.mk (below_step (by repeat (first | (with_reducible first | exact HB.out | apply below_alloc | apply pw_below_drewN | apply below_drew1) | exact HB.out)) hb); have n0_ := Aside0.mk (Kd.R_lower ho0 (below_size (by repeat (first | (with_reducible first | exact HB.out | apply below_alloc | apply pw_below_drewN | apply below_drew1) | exact HB.out)))); clear HO5 HO6 HB; have HO5 := n0_; have HO6 := n1_; have HB := n2_; clear n0_ n1_ n2_ hb ho0; obtain ⟨Ao4, co4, eo4⟩ := Kd.R_slice HO5.out; subst eo4)
            | ((with_reducible refine gate_builtin (b := .append) (xs := #[.tmp 21, .tmp 23]) rfl ?_); at_builtin; refine Kd.S_append (Kd.slice 3 (Kd.int .i64)) (w0 := w) w.heap.size rfl (.tmp 21) (.tmp 23) 35 22 (.slice none 0 0) 24 rfl Try.underlying35 info22 rfl (by decide) (by omega) u6 o t2 [.slice Ao4 t2.length co4] (fun _ => True) (fun k_ => some k_ = (Value.slice Ao4 t2.length co4).ownBlock) rfl rfl ?aP ?aK (fun _ _ => trivial) ?aO ?aB ?aS ?aL ?_; (case aP => exact ⟨_, rfl, Kd.R_tight rfl HO5.out⟩); (case aK => exact fun k_ hk => ⟨trivial, ((Kd.R_apart' HO5.out (Kd.S_typed HO6.out) (by decide)).1 k_ hk.symm).2⟩); (case aO => exact Kd.S_mono HO6.out (fun k_ hk => ⟨trivial, hk.2⟩)); (case aB => exact HB.out); (case aS => exact below_size HB.out); (case aL => have := LM.out; omega); intro v7 w7 ho hb hg hat; have n0_ := Aside0.mk (Kd.R_over' HO5.out (Kd.S_typed HO6.out) (by decide) hg); clear HO5 HO6 HB; have HO5 := n0_; have HO6 := Aside0.mk ho; have HB := Aside0.mk hb; clear n0_ ho hb hg hat))
          go_roundg k1
          case measure => have := HK1.out; omega
          case rel => exact ⟨t2, o ++ [t2], H', ⟨by have := HK1.out; omega⟩, ⟨HO5.out⟩, ⟨HO6.out⟩, ⟨HB.out⟩⟩
        · exact absurd H (by simp [c17])

def impl_WayDown.l0 : Nat → List Int → Int → List (List Int) → Option ((List (List Int)) × Bool)
  | 0, _, _, _ => none
  | k + 1, x, a, o => (impl_isFundamental.f k x a).bind fun t => if t = true then some (o, true) else ((impl_jump.f k x a 0).bind fun bt => ((slices_Clone_int_int.f bt.1).bind fun t2 => if o.length < 1000000000 then impl_WayDown.l0 k bt.1 a (o ++ [t2]) else none))
def impl_WayDown.f (k : Nat) (l0 : List Int) (a1 : Int) (a2 : Int) : Option ((List (List Int)) × Bool) := (impl_isSolution.f k l0 a1 a2).bind fun t => if t = true then ((slices_Clone_int_int.f l0).bind fun t2 => impl_WayDown.l0 k l0 a1 [t2]) else some ([], false)
theorem impl_WayDown.mono_l : ∀ k, (∀ y0 y1 y2, LeO (impl_WayDown.l0 k y0 y1 y2) (impl_WayDown.l0 (k + 1) y0 y1 y2))
  | 0 => fun _ _ _ r h => by simp [impl_WayDown.l0] at h
  | k + 1 => by
    have ih0 := impl_WayDown.mono_l k
    intro y0 y1 y2
    unfold impl_WayDown.l0
    repeat' first
      | (with_reducible exact ih0 _ _ _)
      | (with_reducible exact impl_isFundamental.mono _ _ _)
      | (with_reducible exact impl_jump.mono _ _ _ _)
      | (with_reducible exact LeO.refl _)
      | (with_reducible exact LeO.none _)
      | (with_reducible refine LeO.ite ?_ ?_)
      | (with_reducible refine LeO.bind ?_ (fun _ => ?_))
theorem impl_WayDown.mono : ∀ a0 a1 a2 k, LeO (impl_WayDown.f k a0 a1 a2) (impl_WayDown.f (k + 1) a0 a1 a2) := by
  intro a0 a1 a2 k
  unfold impl_WayDown.f
  exact LeO.bind (impl_isSolution.mono _ _ _ _) (fun _ => LeO.ite (LeO.bind (LeO.refl _) (fun _ => impl_WayDown.mono_l k _ _ _)) (LeO.refl _))

/-- A list that came in, or one of the call's own. -/
def InOrOwn (w : World) (A0 : Option Addr) (c0 : Nat) (l0 : List Int) (w' : World) (v : Value) (x : List Int) : Prop := (v = .slice A0 l0.length c0 ∧ x = l0) ∨ Kd.R (Kd.int .i64) 3 w' w.heap.size (fun _ => True) v x
theorem InOrOwn.reads {w w' : World} {A0 : Option Addr} {c0 : Nat} {l0 x : List Int} {v : Value} (h : InOrOwn w A0 c0 l0 w' v x) (hr0 : Kd.C (Kd.int .i64) w A0 l0.length l0) (hc0 : l0.length ≤ c0) (hb : Below w.heap.size w w') : ∃ A c, v = .slice A x.length c ∧ x.length ≤ c ∧ Kd.C (Kd.int .i64) w' A x.length x := by
  rcases h with ⟨rfl, rfl⟩ | h
  · exact ⟨_, _, rfl, hc0, Kd.C_below hr0 hb⟩
  · exact Kd.R_reads h

set_option maxHeartbeats 4000000 in
set_option maxRecDepth 100000 in
theorem impl_WayDown.calls (k : Nat) (A0 : Option Addr) (c0 : Nat) (l0 : List Int) (a1 : Int) (a2 : Int) (r1 : List (List Int)) (r2 : Bool) (w : World) (hr0 : Kd.C (Kd.int .i64) w A0 l0.length l0) (hc0 : l0.length ≤ c0) (h : impl_WayDown.f k l0 a1 a2 = some (r1, r2)) :
    Calls Try.prog 41 #[.slice A0 l0.length c0, .int .i64 a1, .int .i64 a2] w fun e w' => ∃ v0_ : Value, e = .returned (.tuple #[v0_, .bool r2]) ∧ Kd.S (Kd.slice 3 (Kd.int .i64)) 22 w' w.heap.size (fun _ => True) v0_ r1 ∧ Below w.heap.size w w' := by
  obtain ⟨t0, A3, H⟩ := Option.bind_eq_some_iff.mp h
  clear h
  have HR0 := Aside0.mk hr0
  have HC0 := Aside0.mk hc0
  have HA3 := Aside0.mk A3
  have HB := Aside0.mk (Below.refl w.heap.size w)
  clear hr0 hc0 A3
  by_cases c5 : t0 = true
  · subst c5
    rw [if_pos rfl] at H
    obtain ⟨t, A4, H⟩ := Option.bind_eq_some_iff.mp H
    have HA4 := Aside0.mk A4
    have H' := Aside0.mk H
    clear A4 H
    go_enter Try.func41, Try.ntmps41
    go_wp2_with (first
      | (go_at_call 56; refine (impl_isSolution.calls k _ _ l0 a1 a2 true _ (by repeat (first | exact HR0.out | (with_reducible refine Kd.C_alloc ?_ _) | (with_reducible refine Kd.C_drewN ?_ _) | (with_reducible refine Kd.C_drew ?_))) HC0.out HA3.out).mono ?_; rintro e w0 ⟨rfl, hb⟩; have n1_ := Aside0.mk (below_step HB.out hb); clear HB; have HB := n1_; clear n1_ hb)
      | (go_at_call 72; refine (slices_Clone_int_int.calls _ _ l0 t _ (by repeat (first | exact (Kd.C_below HR0.out HB.out) | (with_reducible refine Kd.C_alloc ?_ _) | (with_reducible refine Kd.C_drewN ?_ _) | (with_reducible refine Kd.C_drew ?_))) HC0.out HA4.out).mono ?_; rintro e w1 ⟨v1, rfl, ho0, hb⟩; have n1_ := Aside0.mk (below_step HB.out hb); have n2_ := Aside0.mk (Kd.R_lower ho0 (below_size HB.out)); clear HB; have HB := n1_; have HO5 := n2_; clear n1_ n2_ ho0 hb; obtain ⟨Ao1, co1, eo1⟩ := Kd.R_slice HO5.out; subst eo1)
      | ((with_reducible refine gate_dst (N := 16) rfl ?_); refine Kd.S_lits (Kd.slice 3 (Kd.int .i64)) (w0 := w) w.heap.size 22 ?hg (N := 16) ?hd (xs := [t]) (inner := [.slice Ao1 t.length co1]) (ok := fun _ => True) (fun j k_ => j = 0 ∧ some k_ = (Value.slice Ao1 t.length co1).ownBlock) ?hr rfl ?hp ?ha (fun _ _ _ => trivial) trivial ?hB ?hs (by simp) ?_; (case hd => rfl); (case hg => rfl); (case hr => first | (go_simp; done) | (go_simp; rfl)); (case hp => intro j x hj; match j, hj with | 0, hj => (obtain rfl : t = x := by simpa using hj); exact ⟨_, rfl, Kd.R_mono (Kd.R_tight rfl HO5.out) (fun k_ hk => ⟨rfl, hk⟩)⟩); (case ha => rintro i j k_ ⟨rfl, _⟩ ⟨rfl, _⟩; rfl); (case hB => exact HB.out); (case hs => exact below_size HB.out); intro v2 w2 ho hb hg hat; have n2_ := Aside0.mk ho; have n3_ := Aside0.mk hb; clear HB HO5; have HO6 := n2_; have HB := n3_; clear n2_ n3_ ho hb hg hat))
    go_loopg [0, 8] k (fun kq v0 v8 w' => ∃ (x : List Int) (o : List (List Int)), Aside0 (impl_WayDown.l0 kq x a1 o = some (r1, r2)) ∧ Aside0 (kq ≤ k) ∧ Aside0 (InOrOwn w A0 c0 l0 w' v0 x) ∧ Aside0 (Kd.S (Kd.slice 3 (Kd.int .i64)) 22 w' w.heap.size (fun _ => True) v8 o) ∧ Aside0 (Below w.heap.size w w'))
    case atStart => exact ⟨l0, [t], H', ⟨Nat.le_refl _⟩, ⟨.inl ⟨rfl, rfl⟩⟩, ⟨HO6.out⟩, ⟨HB.out⟩⟩
    case round =>
      clear H' HO6 HB HA4 HA3
      obtain ⟨x, o, HA, HK1, HV, HO6, HB⟩ := hrel
      cases gk with
      | zero => exact absurd HA.out (by simp [impl_WayDown.l0])
      | succ k1 =>
        have H := HA.out
        clear HA
        simp only [impl_WayDown.l0] at H
        obtain ⟨t1, A12, H⟩ := Option.bind_eq_some_iff.mp H
        have HA12 := Aside0.mk A12
        clear A12
        obtain ⟨Ax, cx, ex, hcx, hrx⟩ := InOrOwn.reads HV.out HR0.out HC0.out HB.out
        subst ex
        have HCX := Aside0.mk hcx
        have HRX := Aside0.mk hrx
        clear hcx hrx HV
        by_cases c13 : t1 = true
        · subst c13
          obtain ⟨rfl, rfl⟩ : o = r1 ∧ true = r2 := by simpa using H
          clear H
          go_wp2_with (first
            | (go_at_call 60; refine (impl_isFundamental.calls k1 _ _ x a1 true _ (by repeat (first | exact HRX.out | (with_reducible refine Kd.C_alloc ?_ _) | (with_reducible refine Kd.C_drewN ?_ _) | (with_reducible refine Kd.C_drew ?_))) HCX.out HA12.out).mono ?_; rintro e w' ⟨rfl, ⟨nd, rfl⟩⟩))
          go_ret2
          exact ⟨_, rfl, by (with_reducible repeat (first | apply Kd.S_alloc | apply Kd.S_drewN | apply Kd.S_drew)); exact HO6.out, by repeat (first | (with_reducible first | exact HB.out | apply below_alloc | apply pw_below_drewN | apply below_drew1) | exact HB.out)⟩
        · replace c13 := Bool.eq_false_iff.mpr c13
          subst c13
          rw [if_neg (show ¬ (false = true) by decide)] at H
          obtain ⟨⟨t2, t3⟩, A15, H⟩ := Option.bind_eq_some_iff.mp H
          obtain ⟨t4, A16, H⟩ := Option.bind_eq_some_iff.mp H
          have HA15 := Aside0.mk A15
          have HA16 := Aside0.mk A16
          clear A15 A16
          by_cases c17 : o.length < 1000000000
          · replace H : impl_WayDown.l0 k1 t2 a1 (o ++ [t4]) = some (r1, r2) := by
              have H2 : (if o.length < 1000000000 then impl_WayDown.l0 k1 t2 a1 (o ++ [t4]) else none) = some (r1, r2) := H
              rw [if_pos c17] at H2
              exact H2
            have H' := Aside0.mk H
            have LM := Aside0.mk c17
            clear H c17
            go_wp2_with (first
              | (go_at_call 60; refine (impl_isFundamental.calls k1 _ _ x a1 false _ (by repeat (first | exact HRX.out | (with_reducible refine Kd.C_alloc ?_ _) | (with_reducible refine Kd.C_drewN ?_ _) | (with_reducible refine Kd.C_drew ?_))) HCX.out HA12.out).mono ?_; rintro e w' ⟨rfl, ⟨nd, rfl⟩⟩)
              | (go_at_call 68; refine (impl_jump.calls k1 _ _ x a1 0 t2 t3 _ (by repeat (first | exact HRX.out | (with_reducible refine Kd.C_alloc ?_ _) | (with_reducible refine Kd.C_drewN ?_ _) | (with_reducible refine Kd.C_drew ?_))) HCX.out HA15.out).mono ?_; rintro e w4 ⟨v4, rfl, ho0, hb⟩; have n1_ := Aside0.mk (Kd.S_below (by (with_reducible repeat (first | apply Kd.S_alloc | apply Kd.S_drewN | apply Kd.S_drew)); exact HO6.out) hb); have n2_ := Aside0.mk (below_step (by repeat (first | (with_reducible first | exact HB.out | apply below_alloc | apply pw_below_drewN | apply below_drew1) | exact HB.out)) hb); have n0_ := Aside0.mk (Kd.R_lower ho0 (below_size (by repeat (first | (with_reducible first | exact HB.out | apply below_alloc | apply pw_below_drewN | apply below_drew1) | exact HB.out)))); clear HRX HCX HO6 HB; have HO5 := n0_; have HO6 := n1_; have HB := n2_; clear n0_ n1_ n2_ hb ho0; obtain ⟨Ao4, co4, eo4⟩ := Kd.R_slice HO5.out; subst eo4)
              | (go_at_call 72; refine (slices_Clone_int_int.calls _ _ t2 t4 _ (by repeat (first | exact (Kd.R_reads' HO5.out).2.2 | (with_reducible refine Kd.C_alloc ?_ _) | (with_reducible refine Kd.C_drewN ?_ _) | (with_reducible refine Kd.C_drew ?_))) (Kd.R_reads' HO5.out).2.1 HA16.out).mono ?_; rintro e w5 ⟨v5, rfl, ho0, hb⟩; have n0_ := Aside0.mk (Kd.R_below (by (with_reducible repeat (first | apply Kd.R_alloc | apply Kd.R_drewN | apply Kd.R_drew)); exact HO5.out) hb); have n1_ := Aside0.mk (Kd.S_elder' (by (with_reducible repeat (first | apply Kd.S_alloc | apply Kd.S_drewN | apply Kd.S_drew)); exact HO6.out) (Kd.R_base ho0) hb); have n2_ := Aside0.mk (below_step (by repeat (first | (with_reducible first | exact HB.out | apply below_alloc | apply pw_below_drewN | apply below_drew1) | exact HB.out)) hb); have n3_ := Aside0.mk (Kd.R_lower ho0 (below_size (by repeat (first | (with_reducible first | exact HB.out | apply below_alloc | apply pw_below_drewN | apply below_drew1) | exact HB.out)))); clear HO5 HO6 HB; have HO5 := n0_; have HO6 := n1_; have HB := n2_; have HO7 := n3_; clear n0_ n1_ n2_ n3_ hb ho0; obtain ⟨Ao5, co5, eo5⟩ := Kd.R_slice HO7.out; subst eo5)
              | ((with_reducible refine gate_builtin (b := .append) (xs := #[.tmp 27, .tmp 30]) rfl ?_); at_builtin; refine Kd.S_append (Kd.slice 3 (Kd.int .i64)) (w0 := w) w.heap.size rfl (.tmp 27) (.tmp 30) 35 22 (.slice none 0 0) 24 rfl Try.underlying35 info22 rfl (by decide) (by omega) u8 o t4 [.slice Ao5 t4.length co5] (fun _ => True) (fun k_ => some k_ = (Value.slice Ao5 t4.length co5).ownBlock) rfl rfl ?aP ?aK (fun _ _ => trivial) ?aO ?aB ?aS ?aL ?_; (case aP => exact ⟨_, rfl, Kd.R_tight rfl HO7.out⟩); (case aK => exact fun k_ hk => ⟨trivial, ((Kd.R_apart' HO7.out (Kd.S_typed HO6.out) (by decide)).1 k_ hk.symm).2⟩); (case aO => exact Kd.S_mono HO6.out (fun k_ hk => ⟨trivial, hk.2⟩)); (case aB => exact HB.out); (case aS => exact below_size HB.out); (case aL => have := LM.out; omega); intro v7 w7 ho hb hg hat; have n0_ := Aside0.mk (Kd.R_over' HO5.out (Kd.S_typed HO6.out) (by decide) hg); clear HO5 HO6 HO7 HB; have HO5 := n0_; have HO6 := Aside0.mk ho; have HB := Aside0.mk hb; clear n0_ ho hb hg hat))
            go_roundg k1
            case measure => have := HK1.out; omega
            case rel => exact ⟨t2, o ++ [t4], H', ⟨by have := HK1.out; omega⟩, ⟨.inr HO5.out⟩, ⟨HO6.out⟩, ⟨HB.out⟩⟩
          · exact absurd H (by simp [c17])
  · replace c5 := Bool.eq_false_iff.mpr c5
    subst c5
    rw [if_neg (show ¬ (false = true) by decide)] at H
    obtain ⟨rfl, rfl⟩ : ([] : List (List Int)) = r1 ∧ false = r2 := by simpa using H
    go_enter Try.func41, Try.ntmps41
    go_wp2_with (first
      | (go_at_call 56; refine (impl_isSolution.calls k _ _ l0 a1 a2 false _ (by repeat (first | exact HR0.out | (with_reducible refine Kd.C_alloc ?_ _) | (with_reducible refine Kd.C_drewN ?_ _) | (with_reducible refine Kd.C_drew ?_))) HC0.out HA3.out).mono ?_; rintro e w0 ⟨rfl, hb⟩; have n1_ := Aside0.mk (below_step HB.out hb); clear HB; have HB := n1_; clear n1_ hb))
    go_ret2
    exact ⟨_, rfl, Kd.S_nil _ _ _ _ _, HB.out⟩
end Go.Proofs.Ytfdjbcbhlfjogaa.P
