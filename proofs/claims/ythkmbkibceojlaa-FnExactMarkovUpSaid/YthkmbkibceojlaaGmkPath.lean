-- GIVEN loop.example/g01122/spec.mkPath making rounds
-- GIVEN loop.example/g01122/impl.MarkovPath making rounds
/- The contracts of spec.mkPath and impl.MarkovPath, in the printer's form: the rows of what they hand back lie in blocks of their own. -/
import Derived.Test.YthkmbkibceojlaaUscalar
import Derived.Test.YthkmbkibceojlaaGcloneInts
import Derived.Test.YthkmbkibceojlaaPFspecl1Own
import Derived.Test.YthkmbkibceojlaaPFspecmkDown
import Derived.Test.YthkmbkibceojlaaPFimplmoved
import Derived.Test.YthkmbkibceojlaaPFimplIsMarkov
namespace Go.Proofs.Ythkmbkibceojlaa.P
open Go.RowKit Go.Proofs.YthkmbkibceojlaaW.PrintWords Go.Proofs.YthkmbkibceojlaaW.PrintLast
set_option linter.unusedVariables false
set_option linter.unusedSimpArgs false

def spec_mkPath.l0 : Nat → List Int → List (List Int) → Option (List (List Int))
  | 0, _, _ => none
  | k + 1, x, o => if 2 < (x.length : Int) then (if rd x 2 > 1 then ((spec_mkDown.f x).bind fun t => if o.length < 4000000000000 then spec_mkPath.l0 k t (o ++ [t]) else none) else some o) else none
def spec_mkPath.f (k : Nat) (l0 : List Int) : Option (List (List Int)) := (spec_l1Own.f l0).bind fun t => spec_mkPath.l0 k l0 [t]
theorem spec_mkPath.mono_l : ∀ k, (∀ y0 y1, LeO (spec_mkPath.l0 k y0 y1) (spec_mkPath.l0 (k + 1) y0 y1))
  | 0 => fun _ _ r h => by simp [spec_mkPath.l0] at h
  | k + 1 => by
    have ih0 := spec_mkPath.mono_l k
    intro y0 y1
    unfold spec_mkPath.l0
    repeat' first
      | (with_reducible exact ih0 _ _)
      | (with_reducible exact LeO.refl _)
      | (with_reducible exact LeO.none _)
      | (with_reducible refine LeO.ite ?_ ?_)
      | (with_reducible refine LeO.bind ?_ (fun _ => ?_))
theorem spec_mkPath.mono : ∀ a0 k, LeO (spec_mkPath.f k a0) (spec_mkPath.f (k + 1) a0) := by
  intro a0 k
  unfold spec_mkPath.f
  exact LeO.bind (LeO.refl _) (fun _ => spec_mkPath.mono_l k _ _)

/-- A list that came in, or one of the call's own. -/
def InOrOwn (w : World) (A0 : Option Addr) (c0 : Nat) (l0 : List Int) (w' : World) (v : Value) (x : List Int) : Prop := (v = .slice A0 l0.length c0 ∧ x = l0) ∨ Kd.R (Kd.int .i64) 3 w' w.heap.size (fun _ => True) v x
theorem InOrOwn.reads {w w' : World} {A0 : Option Addr} {c0 : Nat} {l0 x : List Int} {v : Value} (h : InOrOwn w A0 c0 l0 w' v x) (hr0 : Kd.C (Kd.int .i64) w A0 l0.length l0) (hc0 : l0.length ≤ c0) (hb : Below w.heap.size w w') : ∃ A c, v = .slice A x.length c ∧ x.length ≤ c ∧ Kd.C (Kd.int .i64) w' A x.length x := by
  rcases h with ⟨rfl, rfl⟩ | h
  · exact ⟨_, _, rfl, hc0, Kd.C_below hr0 hb⟩
  · exact Kd.R_reads h


set_option maxHeartbeats 4000000 in
set_option maxRecDepth 100000 in
theorem spec_mkPath.calls (k : Nat) (A0 : Option Addr) (c0 : Nat) (l0 : List Int) (r : List (List Int)) (w : World) (hr0 : Kd.C (Kd.int .i64) w A0 l0.length l0) (hc0 : l0.length ≤ c0) (h : spec_mkPath.f k l0 = some r) :
    Calls Try.prog 73 #[.slice A0 l0.length c0] w fun e w' => ∃ v0_ : Value, e = .returned (v0_) ∧ Kd.S (Kd.slice 3 (Kd.int .i64)) 22 w' w.heap.size (fun _ => True) v0_ r ∧ Below w.heap.size w w' := by
  obtain ⟨t, A4, H⟩ := Option.bind_eq_some_iff.mp h
  clear h
  have HR0 := Aside0.mk hr0
  have HC0 := Aside0.mk hc0
  have HA4 := Aside0.mk A4
  have H' := Aside0.mk H
  have HB := Aside0.mk (Below.refl w.heap.size w)
  clear hr0 hc0 A4 H
  go_enter Try.func73, Try.ntmps73
  go_wp2_with (first
    | (go_at_call 76; refine (spec_l1Own.calls _ _ l0 t _ (by repeat (first | exact HR0.out | (with_reducible refine Kd.C_alloc ?_ _) | (with_reducible refine Kd.C_drewN ?_ _) | (with_reducible refine Kd.C_drew ?_))) HC0.out HA4.out).mono ?_; rintro e w1 ⟨v1, rfl, ho0, hb⟩; have n1_ := Aside0.mk (below_step HB.out hb); have n2_ := Aside0.mk (Kd.R_lower ho0 (below_size HB.out)); clear HB; have HB := n1_; have HO5 := n2_; clear n1_ n2_ ho0 hb; obtain ⟨Ao1, co1, eo1⟩ := Kd.R_slice HO5.out; subst eo1)
    | ((with_reducible refine gate_dst (N := 6) rfl ?_); refine Kd.S_lits (Kd.slice 3 (Kd.int .i64)) (w0 := w) w.heap.size 22 ?hg (N := 6) ?hd (xs := [t]) (inner := [.slice Ao1 t.length co1]) (ok := fun _ => True) (fun j k_ => j = 0 ∧ some k_ = (Value.slice Ao1 t.length co1).ownBlock) ?hr rfl ?hp ?ha (fun _ _ _ => trivial) trivial ?hB ?hs (by simp) ?_; (case hd => rfl); (case hg => rfl); (case hr => first | (go_simp; done) | (go_simp; rfl)); (case hp => intro j x hj; match j, hj with | 0, hj => (obtain rfl : t = x := by simpa using hj); exact ⟨_, rfl, Kd.R_mono (Kd.R_tight rfl HO5.out) (fun k_ hk => ⟨rfl, hk⟩)⟩); (case ha => rintro i j k_ ⟨rfl, _⟩ ⟨rfl, _⟩; rfl); (case hB => exact HB.out); (case hs => exact below_size HB.out); intro v2 w2 ho hb hg hat; have n2_ := Aside0.mk ho; have n3_ := Aside0.mk hb; clear HB HO5; have HO6 := n2_; have HB := n3_; clear n2_ n3_ ho hb hg hat))
  go_loopg [0, 3] k (fun kq v0 v3 w' => ∃ (x : List Int) (o : List (List Int)), Aside0 (spec_mkPath.l0 kq x o = some r) ∧ Aside0 (kq ≤ k) ∧ Aside0 (InOrOwn w A0 c0 l0 w' v0 x) ∧ Aside0 (Kd.S (Kd.slice 3 (Kd.int .i64)) 22 w' w.heap.size (fun _ => True) v3 o) ∧ Aside0 (Below w.heap.size w w'))
  case atStart => exact ⟨l0, [t], H', ⟨Nat.le_refl _⟩, ⟨.inl ⟨rfl, rfl⟩⟩, ⟨HO6.out⟩, ⟨HB.out⟩⟩
  case round =>
    clear H' HO6 HB HA4
    obtain ⟨x, o, HA, HK1, HV, HO6, HB⟩ := hrel
    cases gk with
    | zero => exact absurd HA.out (by simp [spec_mkPath.l0])
    | succ k1 =>
      have H := HA.out
      clear HA
      simp only [spec_mkPath.l0] at H
      obtain ⟨Ax, cx, ex, hcx, hrx⟩ := InOrOwn.reads HV.out HR0.out HC0.out HB.out
      subst ex
      have HCX := Aside0.mk hcx
      have HRX := Aside0.mk hrx
      clear hcx hrx HV
      by_cases c10 : 2 < (x.length : Int)
      · rw [if_pos c10] at H
        have c10b0 : decide (2 < (x.length : Int)) = true := decide_eq_true c10
        have c10b1 : decide (2 < x.length) = true := decide_eq_true (by omega)
        obtain ⟨ad, ead, hx2⟩ := Kd.at_int HRX.out 2 (by omega) c10
        subst ead
        simp only [show (2 : Int).toNat = 2 from rfl, Nat.reduceMul, Nat.reduceEqDiff, Go.Addr.add, ↓reduceIte] at hx2
        have q10 : (2 < (x.length : Int)) = True := eq_true c10
        clear c10
        by_cases c11 : rd x 2 > 1
        · rw [if_pos c11] at H
          have c11b0 : decide (1 < rd x 2) = true := decide_eq_true c11
          clear c11
          obtain ⟨t2, A12, H⟩ := Option.bind_eq_some_iff.mp H
          have HA12 := Aside0.mk A12
          clear A12
          by_cases c17 : o.length < 4000000000000
          · rw [if_pos c17] at H
            have H' := Aside0.mk H
            have LM := Aside0.mk c17
            clear H c17
            go_wp2_with (first
              | (go_at_call 68; refine (spec_mkDown.calls _ _ x t2 _ (by repeat (first | exact HRX.out | (with_reducible refine Kd.C_alloc ?_ _) | (with_reducible refine Kd.C_drewN ?_ _) | (with_reducible refine Kd.C_drew ?_))) HCX.out HA12.out).mono ?_; rintro e w4 ⟨v4, rfl, ho0, hb⟩; have n1_ := Aside0.mk (Kd.S_elder' (by (with_reducible repeat (first | apply Kd.S_alloc | apply Kd.S_drewN | apply Kd.S_drew)); exact HO6.out) (Kd.R_base ho0) hb); have n2_ := Aside0.mk (below_step (by repeat (first | (with_reducible first | exact HB.out | apply below_alloc | apply pw_below_drewN | apply below_drew1) | exact HB.out)) hb); have n0_ := Aside0.mk (Kd.R_lower ho0 (below_size (by repeat (first | (with_reducible first | exact HB.out | apply below_alloc | apply pw_below_drewN | apply below_drew1) | exact HB.out)))); clear hx2 HRX HCX HO6 HB; have HO5 := n0_; have HO6 := n1_; have HB := n2_; clear n0_ n1_ n2_ hb ho0; obtain ⟨Ao4, co4, eo4⟩ := Kd.R_slice HO5.out; subst eo4)
              | ((with_reducible refine gate_builtin (b := .append) (xs := #[.tmp 13, .tmp 15]) rfl ?_); at_builtin; refine Kd.S_append (Kd.slice 3 (Kd.int .i64)) (w0 := w) w.heap.size rfl (.tmp 13) (.tmp 15) 39 22 (.slice none 0 0) 24 rfl Try.underlying39 info22 rfl (by decide) (by omega) u3 o t2 [.slice Ao4 t2.length co4] (fun _ => True) (fun k_ => some k_ = (Value.slice Ao4 t2.length co4).ownBlock) rfl rfl ?aP ?aK (fun _ _ => trivial) ?aO ?aB ?aS ?aL ?_; (case aP => exact ⟨_, rfl, Kd.R_tight rfl HO5.out⟩); (case aK => exact fun k_ hk => ⟨trivial, ((Kd.R_apart' HO5.out (Kd.S_typed HO6.out) (by decide)).1 k_ hk.symm).2⟩); (case aO => exact Kd.S_mono HO6.out (fun k_ hk => ⟨trivial, hk.2⟩)); (case aB => exact HB.out); (case aS => exact below_size HB.out); (case aL => have := LM.out; omega); intro v7 w7 ho hb hg hat; have n0_ := Aside0.mk (Kd.R_over' HO5.out (Kd.S_typed HO6.out) (by decide) hg); clear HO5 HO6 HB; have HO5 := n0_; have HO6 := Aside0.mk ho; have HB := Aside0.mk hb; clear n0_ ho hb hg hat))
            go_roundg k1
            case measure => have := HK1.out; omega
            case rel => exact ⟨t2, o ++ [t2], H', ⟨by have := HK1.out; omega⟩, ⟨.inr HO5.out⟩, ⟨HO6.out⟩, ⟨HB.out⟩⟩
          · exact absurd H (by simp [c17])
        · rw [if_neg c11] at H
          have c11b0 : decide (1 < rd x 2) = false := decide_eq_false c11
          clear c11
          obtain rfl : o = r := by simpa using H
          clear H
          go_wp2
          go_ret
          exact ⟨_, rfl, by (with_reducible repeat (first | apply Kd.S_alloc | apply Kd.S_drewN | apply Kd.S_drew)); exact HO6.out, by repeat (first | (with_reducible first | exact HB.out | apply below_alloc | apply pw_below_drewN | apply below_drew1) | exact HB.out)⟩
      · rw [if_neg c10] at H
        exact absurd H (by simp)

def impl_MarkovPath.l0 : Nat → List Int → List (List Int) → Option ((List (List Int)) × Bool)
  | 0, _, _ => none
  | k + 1, x, o => if 2 < (x.length : Int) then (if rd x 2 > 1 then ((impl_moved.f x 2).bind fun t => ((slices_Clone_int_int.f t).bind fun t2 => if o.length < 4000000000000 then impl_MarkovPath.l0 k t (o ++ [t2]) else none)) else some (o, true)) else none
def impl_MarkovPath.f (k : Nat) (l0 : List Int) : Option ((List (List Int)) × Bool) := (impl_IsMarkov.f k l0).bind fun t => if t = true then ((slices_Clone_int_int.f l0).bind fun t2 => impl_MarkovPath.l0 k l0 [t2]) else some ([], false)
theorem impl_MarkovPath.mono_l : ∀ k, (∀ y0 y1, LeO (impl_MarkovPath.l0 k y0 y1) (impl_MarkovPath.l0 (k + 1) y0 y1))
  | 0 => fun _ _ r h => by simp [impl_MarkovPath.l0] at h
  | k + 1 => by
    have ih0 := impl_MarkovPath.mono_l k
    intro y0 y1
    unfold impl_MarkovPath.l0
    repeat' first
      | (with_reducible exact ih0 _ _)
      | (with_reducible exact LeO.refl _)
      | (with_reducible exact LeO.none _)
      | (with_reducible refine LeO.ite ?_ ?_)
      | (with_reducible refine LeO.bind ?_ (fun _ => ?_))
theorem impl_MarkovPath.mono : ∀ a0 k, LeO (impl_MarkovPath.f k a0) (impl_MarkovPath.f (k + 1) a0) := by
  intro a0 k
  unfold impl_MarkovPath.f
  exact LeO.bind (impl_IsMarkov.mono _ _) (fun _ => LeO.ite (LeO.bind (LeO.refl _) (fun _ => impl_MarkovPath.mono_l k _ _)) (LeO.refl _))

set_option maxHeartbeats 4000000 in
set_option maxRecDepth 100000 in
theorem impl_MarkovPath.calls (k : Nat) (A0 : Option Addr) (c0 : Nat) (l0 : List Int) (r1 : List (List Int)) (r2 : Bool) (w : World) (hr0 : Kd.C (Kd.int .i64) w A0 l0.length l0) (hc0 : l0.length ≤ c0) (h : impl_MarkovPath.f k l0 = some (r1, r2)) :
    Calls Try.prog 32 #[.slice A0 l0.length c0] w fun e w' => ∃ v0_ : Value, e = .returned (.tuple #[v0_, .bool r2]) ∧ Kd.S (Kd.slice 3 (Kd.int .i64)) 22 w' w.heap.size (fun _ => True) v0_ r1 ∧ Below w.heap.size w w' := by
  obtain ⟨t0, A3, H⟩ := Option.bind_eq_some_iff.mp h
  clear h
  have HR0 := Aside0.mk hr0
  have HC0 := Aside0.mk hc0
  have HA3 := Aside0.mk A3
  have HB := Aside0.mk (Below.refl w.heap.size w)
  clear hr0 hc0 A3
  by_cases c5 : t0 = true
  · subst c5
    rw [if_pos rfl] at H
    obtain ⟨t, A4, H⟩ := Option.bind_eq_some_iff.mp H
    have HA4 := Aside0.mk A4
    have H' := Aside0.mk H
    clear A4 H
    go_enter Try.func32, Try.ntmps32
    go_wp2_with (first
      | (go_at_call 48; refine (impl_IsMarkov.calls k _ _ l0 true _ (by repeat (first | exact HR0.out | (with_reducible refine Kd.C_alloc ?_ _) | (with_reducible refine Kd.C_drewN ?_ _) | (with_reducible refine Kd.C_drew ?_))) HC0.out HA3.out).mono ?_; rintro e w0 ⟨rfl, hb⟩; have n1_ := Aside0.mk (below_step HB.out hb); clear HB; have HB := n1_; clear n1_ hb)
      | (go_at_call 75; refine (slices_Clone_int_int.calls _ _ l0 t _ (by repeat (first | exact (Kd.C_below HR0.out HB.out) | (with_reducible refine Kd.C_alloc ?_ _) | (with_reducible refine Kd.C_drewN ?_ _) | (with_reducible refine Kd.C_drew ?_))) HC0.out HA4.out).mono ?_; rintro e w1 ⟨v1, rfl, ho0, hb⟩; have n1_ := Aside0.mk (below_step HB.out hb); have n2_ := Aside0.mk (Kd.R_lower ho0 (below_size HB.out)); clear HB; have HB := n1_; have HO5 := n2_; clear n1_ n2_ ho0 hb; obtain ⟨Ao1, co1, eo1⟩ := Kd.R_slice HO5.out; subst eo1)
      | ((with_reducible refine gate_dst (N := 10) rfl ?_); refine Kd.S_lits (Kd.slice 3 (Kd.int .i64)) (w0 := w) w.heap.size 22 ?hg (N := 10) ?hd (xs := [t]) (inner := [.slice Ao1 t.length co1]) (ok := fun _ => True) (fun j k_ => j = 0 ∧ some k_ = (Value.slice Ao1 t.length co1).ownBlock) ?hr rfl ?hp ?ha (fun _ _ _ => trivial) trivial ?hB ?hs (by simp) ?_; (case hd => rfl); (case hg => rfl); (case hr => first | (go_simp; done) | (go_simp; rfl)); (case hp => intro j x hj; match j, hj with | 0, hj => (obtain rfl : t = x := by simpa using hj); exact ⟨_, rfl, Kd.R_mono (Kd.R_tight rfl HO5.out) (fun k_ hk => ⟨rfl, hk⟩)⟩); (case ha => rintro i j k_ ⟨rfl, _⟩ ⟨rfl, _⟩; rfl); (case hB => exact HB.out); (case hs => exact below_size HB.out); intro v2 w2 ho hb hg hat; have n2_ := Aside0.mk ho; have n3_ := Aside0.mk hb; clear HB HO5; have HO6 := n2_; have HB := n3_; clear n2_ n3_ ho hb hg hat))
    go_loopg [0, 4] k (fun kq v0 v4 w' => ∃ (x : List Int) (o : List (List Int)), Aside0 (impl_MarkovPath.l0 kq x o = some (r1, r2)) ∧ Aside0 (kq ≤ k) ∧ Aside0 (InOrOwn w A0 c0 l0 w' v0 x) ∧ Aside0 (Kd.S (Kd.slice 3 (Kd.int .i64)) 22 w' w.heap.size (fun _ => True) v4 o) ∧ Aside0 (Below w.heap.size w w'))
    case atStart => exact ⟨l0, [t], H', ⟨Nat.le_refl _⟩, ⟨.inl ⟨rfl, rfl⟩⟩, ⟨HO6.out⟩, ⟨HB.out⟩⟩
    case round =>
      clear H' HO6 HB HA4 HA3
      obtain ⟨x, o, HA, HK1, HV, HO6, HB⟩ := hrel
      cases gk with
      | zero => exact absurd HA.out (by simp [impl_MarkovPath.l0])
      | succ k1 =>
        have H := HA.out
        clear HA
        simp only [impl_MarkovPath.l0] at H
        obtain ⟨Ax, cx, ex, hcx, hrx⟩ := InOrOwn.reads HV.out HR0.out HC0.out HB.out
        subst ex
        have HCX := Aside0.mk hcx
        have HRX := Aside0.mk hrx
        clear hcx hrx HV
        by_cases c10 : 2 < (x.length : Int)
        · rw [if_pos c10] at H
          have c10b0 : decide (2 < (x.length : Int)) = true := decide_eq_true c10
          have c10b1 : decide (2 < x.length) = true := decide_eq_true (by omega)
          obtain ⟨ad, ead, hx2⟩ := Kd.at_int HRX.out 2 (by omega) c10
          subst ead
          simp only [show (2 : Int).toNat = 2 from rfl, Nat.reduceMul, Nat.reduceEqDiff, Go.Addr.add, ↓reduceIte] at hx2
          have q10 : (2 < (x.length : Int)) = True := eq_true c10
          clear c10
          by_cases c11 : rd x 2 > 1
          · rw [if_pos c11] at H
            have c11b0 : decide (1 < rd x 2) = true := decide_eq_true c11
            clear c11
            obtain ⟨t2, A12, H⟩ := Option.bind_eq_some_iff.mp H
            obtain ⟨t4, A16, H⟩ := Option.bind_eq_some_iff.mp H
            have HA12 := Aside0.mk A12
            have HA16 := Aside0.mk A16
            clear A12 A16
            by_cases c17 : o.length < 4000000000000
            · rw [if_pos c17] at H
              have H' := Aside0.mk H
              have LM := Aside0.mk c17
              clear H c17
              go_wp2_with (first
                | (go_at_call 69; refine (impl_moved.calls _ _ x 2 t2 _ (by repeat (first | exact HRX.out | (with_reducible refine Kd.C_alloc ?_ _) | (with_reducible refine Kd.C_drewN ?_ _) | (with_reducible refine Kd.C_drew ?_))) HCX.out HA12.out).mono ?_; rintro e w4 ⟨v4, rfl, ho0, hb⟩; have n1_ := Aside0.mk (Kd.S_below (by (with_reducible repeat (first | apply Kd.S_alloc | apply Kd.S_drewN | apply Kd.S_drew)); exact HO6.out) hb); have n2_ := Aside0.mk (below_step (by repeat (first | (with_reducible first | exact HB.out | apply below_alloc | apply pw_below_drewN | apply below_drew1) | exact HB.out)) hb); have n0_ := Aside0.mk (Kd.R_lower ho0 (below_size (by repeat (first | (with_reducible first | exact HB.out | apply below_alloc | apply pw_below_drewN | apply below_drew1) | exact HB.out)))); clear hx2 HRX HCX HO6 HB; have HO5 := n0_; have HO6 := n1_; have HB := n2_; clear n0_ n1_ n2_ hb ho0; obtain ⟨Ao4, co4, eo4⟩ := Kd.R_slice HO5.out; subst eo4)
                | (go_at_call 75; refine (slices_Clone_int_int.calls _ _ t2 t4 _ (by repeat (first | exact (Kd.R_reads' HO5.out).2.2 | (with_reducible refine Kd.C_alloc ?_ _) | (with_reducible refine Kd.C_drewN ?_ _) | (with_reducible refine Kd.C_drew ?_))) (Kd.R_reads' HO5.out).2.1 HA16.out).mono ?_; rintro e w5 ⟨v5, rfl, ho0, hb⟩; have n0_ := Aside0.mk (Kd.R_below (by (with_reducible repeat (first | apply Kd.R_alloc | apply Kd.R_drewN | apply Kd.R_drew)); exact HO5.out) hb); have n1_ := Aside0.mk (Kd.S_elder' (by (with_reducible repeat (first | apply Kd.S_alloc | apply Kd.S_drewN | apply Kd.S_drew)); exact HO6.out) (Kd.R_base ho0) hb); have n2_ := Aside0.mk (below_step (by repeat (first | (with_reducible first | exact HB.out | apply below_alloc | apply pw_below_drewN | apply below_drew1) | exact HB.out)) hb); have n3_ := Aside0.mk (Kd.R_lower ho0 (below_size (by repeat (first | (with_reducible first | exact HB.out | apply below_alloc | apply pw_below_drewN | apply below_drew1) | exact HB.out)))); clear HO5 HO6 HB; have HO5 := n0_; have HO6 := n1_; have HB := n2_; have HO7 := n3_; clear n0_ n1_ n2_ n3_ hb ho0; obtain ⟨Ao5, co5, eo5⟩ := Kd.R_slice HO7.out; subst eo5)
                | ((with_reducible refine gate_builtin (b := .append) (xs := #[.tmp 17, .tmp 20]) rfl ?_); at_builtin; refine Kd.S_append (Kd.slice 3 (Kd.int .i64)) (w0 := w) w.heap.size rfl (.tmp 17) (.tmp 20) 39 22 (.slice none 0 0) 24 rfl Try.underlying39 info22 rfl (by decide) (by omega) u4 o t4 [.slice Ao5 t4.length co5] (fun _ => True) (fun k_ => some k_ = (Value.slice Ao5 t4.length co5).ownBlock) rfl rfl ?aP ?aK (fun _ _ => trivial) ?aO ?aB ?aS ?aL ?_; (case aP => exact ⟨_, rfl, Kd.R_tight rfl HO7.out⟩); (case aK => exact fun k_ hk => ⟨trivial, ((Kd.R_apart' HO7.out (Kd.S_typed HO6.out) (by decide)).1 k_ hk.symm).2⟩); (case aO => exact Kd.S_mono HO6.out (fun k_ hk => ⟨trivial, hk.2⟩)); (case aB => exact HB.out); (case aS => exact below_size HB.out); (case aL => have := LM.out; omega); intro v7 w7 ho hb hg hat; have n0_ := Aside0.mk (Kd.R_over' HO5.out (Kd.S_typed HO6.out) (by decide) hg); clear HO5 HO6 HO7 HB; have HO5 := n0_; have HO6 := Aside0.mk ho; have HB := Aside0.mk hb; clear n0_ ho hb hg hat))
              go_roundg k1
              case measure => have := HK1.out; omega
              case rel => exact ⟨t2, o ++ [t4], H', ⟨by have := HK1.out; omega⟩, ⟨.inr HO5.out⟩, ⟨HO6.out⟩, ⟨HB.out⟩⟩
            · exact absurd H (by simp [c17])
          · rw [if_neg c11] at H
            have c11b0 : decide (1 < rd x 2) = false := decide_eq_false c11
            clear c11
            obtain ⟨rfl, rfl⟩ : o = r1 ∧ true = r2 := by simpa using H
            clear H
            go_wp2
            go_ret2
            exact ⟨_, rfl, by (with_reducible repeat (first | apply Kd.S_alloc | apply Kd.S_drewN | apply Kd.S_drew)); exact HO6.out, by repeat (first | (with_reducible first | exact HB.out | apply below_alloc | apply pw_below_drewN | apply below_drew1) | exact HB.out)⟩
        · rw [if_neg c10] at H
          exact absurd H (by simp)
  · replace c5 := Bool.eq_false_iff.mpr c5
    subst c5
    rw [if_neg (show ¬ (false = true) by decide)] at H
    obtain ⟨rfl, rfl⟩ : ([] : List (List Int)) = r1 ∧ false = r2 := by simpa using H
    go_enter Try.func32, Try.ntmps32
    go_wp2_with (first
      | (go_at_call 48; refine (impl_IsMarkov.calls k _ _ l0 false _ (by repeat (first | exact HR0.out | (with_reducible refine Kd.C_alloc ?_ _) | (with_reducible refine Kd.C_drewN ?_ _) | (with_reducible refine Kd.C_drew ?_))) HC0.out HA3.out).mono ?_; rintro e w0 ⟨rfl, hb⟩; have n1_ := Aside0.mk (below_step HB.out hb); clear HB; have HB := n1_; clear n1_ hb))
    go_ret2
    exact ⟨_, rfl, Kd.S_nil _ _ _ _ _, HB.out⟩
end Go.Proofs.Ythkmbkibceojlaa.P
