-- GIVEN loop.example/g01122/impl.ups making rounds
/- The contract of impl.ups, in the printer's form: the triples above, in order and each once; their rows lie in blocks of their own. -/
import Derived.Test.YthkmbkibceojlaaUscalar
import Derived.Test.YthkmbkibceojlaaUrowsSort
import Derived.Test.YthkmbkibceojlaaUsortDedup
import Derived.Test.YthkmbkibceojlaaPFimplmoved
namespace Go.Proofs.Ythkmbkibceojlaa.P
open Go.Shelf Go.RowKit Go.Proofs.YthkmbkibceojlaaW.PrintWords Go.Proofs.YthkmbkibceojlaaW.PrintLast
set_option linter.unusedVariables false
set_option linter.unusedSimpArgs false

theorem compare_enters : ∀ args w, (callFunc 78 args).run Try.prog w = .ok (.enter 78 args) w := fun args w => enters_of Try.func78 (by kernel_rfl) rfl args w
theorem compare_at (W : World) (A B : Option Addr) (c c' : Nat) (x y : List Int) (hx : x.length < 9223372036854775807) (hy : y.length < 9223372036854775807) (h1 : Kd.C (Kd.int .i64) W A x.length x) (h2 : x.length ≤ c) (h3 : Kd.C (Kd.int .i64) W B y.length y) (h4 : y.length ≤ c') : Calls Try.prog 78 (#[.slice A x.length c, .slice B y.length c'] ++ #[]) W fun e w' => e = .returned (.int .i64 (cmpL x y)) ∧ Drawn0 W w' :=
  slices_Compare_int_int.calls (x.length + 1) A c x B c' y (cmpL x y) W h1 h2 h3 h4 (compare_ev x y hx)

def impl_ups.l0 : Nat → List Int → Int → List (List Int) → Int → Option (List (List Int))
  | 0, _, _, _, _ => none
  | k + 1, t, most, o, i => if i < 3 then (impl_moved.f t i).bind fun u => (if 2 < (u.length : Int) then (if 2 < (t.length : Int) then (if rd t 2 < rd u 2 then (if rd u 2 ≤ most then (if o.length < 1000000000 then (if u.length < 9223372036854775807 then impl_ups.l0 k t most (o ++ [u]) (wrap64 (i + 1)) else none) else none) else impl_ups.l0 k t most o (wrap64 (i + 1))) else impl_ups.l0 k t most o (wrap64 (i + 1))) else none) else none) else some (sortDedup o)
def impl_ups.f (k : Nat) (l0 : List Int) (a1 : Int) : Option (List (List Int)) := impl_ups.l0 k l0 a1 [] 0
theorem impl_ups.mono_l : ∀ k, (∀ y0 y1 y2 y3, LeO (impl_ups.l0 k y0 y1 y2 y3) (impl_ups.l0 (k + 1) y0 y1 y2 y3))
  | 0 => fun _ _ _ _ r h => by simp [impl_ups.l0] at h
  | k + 1 => by
    have ih0 := impl_ups.mono_l k
    intro y0 y1 y2 y3
    unfold impl_ups.l0
    repeat' first
      | (with_reducible exact ih0 _ _ _ _)
      | (with_reducible exact LeO.refl _)
      | (with_reducible exact LeO.none _)
      | (with_reducible refine LeO.ite ?_ ?_)
      | (with_reducible refine LeO.bind ?_ (fun _ => ?_))
theorem impl_ups.mono : ∀ a0 a1 k, LeO (impl_ups.f k a0 a1) (impl_ups.f (k + 1) a0 a1) := by
  intro a0 a1 k
  unfold impl_ups.f
  exact impl_ups.mono_l k _ _ _ _

set_option maxHeartbeats 4000000 in
set_option maxRecDepth 100000 in
theorem impl_ups.calls (k : Nat) (A0 : Option Addr) (c0 : Nat) (l0 : List Int) (a1 : Int) (r : List (List Int)) (w : World) (hr0 : Kd.C (Kd.int .i64) w A0 l0.length l0) (hc0 : l0.length ≤ c0) (h : impl_ups.f k l0 a1 = some r) :
    Calls Try.prog 89 #[.slice A0 l0.length c0, .int .i64 a1] w fun e w' => ∃ v0_ : Value, e = .returned (v0_) ∧ Kd.S (Kd.slice 3 (Kd.int .i64)) 22 w' w.heap.size (fun _ => True) v0_ r ∧ Below w.heap.size w w' := by
  have HR0 := Aside0.mk hr0
  have HC0 := Aside0.mk hc0
  have H' := Aside0.mk (show impl_ups.l0 k l0 a1 [] 0 = some r from h)
  have HB := Aside0.mk (Below.refl w.heap.size w)
  clear hr0 hc0 h
  go_enter Try.func89, Try.ntmps89
  go_wp2_with (first
    | ((with_reducible refine gate_dst (N := 8) rfl ?_); refine Kd.S_lits (Kd.slice 3 (Kd.int .i64)) (w0 := w) w.heap.size 22 ?hg (N := 8) ?hd (xs := []) (inner := []) (ok := fun _ => True) (fun j k_ => False) ?hr rfl ?hp ?ha (fun _ _ _ => trivial) trivial ?hB ?hs (by simp) ?_; (case hd => rfl); (case hg => rfl); (case hr => first | (go_simp; done) | (go_simp; rfl)); (case hp => intro j x hj; simp at hj); (case ha => intro i j k_ h1 _; exact h1.elim); (case hB => exact HB.out); (case hs => exact below_size HB.out); intro v2 w2 ho hb hg hat; have n2_ := Aside0.mk ho; have n3_ := Aside0.mk hb; clear HB; have HO6 := n2_; have HB := n3_; clear n2_ n3_ ho hb hg hat))
  go_loopg [5, 9] k (fun kq v5 v9 w' => ∃ (o : List (List Int)) (i : Int), v9 = .int .i64 i ∧ Aside0 (0 ≤ i ∧ i < 1000) ∧ Aside0 (impl_ups.l0 kq l0 a1 o i = some r) ∧ Aside0 (kq ≤ k) ∧ Aside0 (∀ x ∈ o, x.length < 9223372036854775807) ∧ Aside0 (o.length < 1000000001) ∧ Aside0 (Kd.S (Kd.slice 3 (Kd.int .i64)) 22 w' w.heap.size (fun _ => True) v5 o) ∧ Aside0 (Below w.heap.size w w'))
  case atStart => exact ⟨[], 0, rfl, ⟨by omega⟩, H', ⟨Nat.le_refl _⟩, ⟨by simp⟩, ⟨by simp⟩, ⟨HO6.out⟩, ⟨HB.out⟩⟩
  case round =>
    clear H' HO6 HB
    obtain ⟨o, i, rfl, HI, HA, HK1, HP, HL, HO6, HB⟩ := hrel
    cases gk with
    | zero => exact absurd HA.out (by simp [impl_ups.l0])
    | succ k1 =>
      have H := HA.out
      clear HA
      simp only [impl_ups.l0] at H
      by_cases c2 : i < 3
      · have HI3 := Aside0.mk c2
        rw [if_pos c2] at H
        have c2b0 : decide (i < 3) = true := decide_eq_true c2
        clear c2
        obtain ⟨u, A3, H⟩ := Option.bind_eq_some_iff.mp H
        have HA3 := Aside0.mk A3
        clear A3
        by_cases c5 : 2 < (u.length : Int)
        · rw [if_pos c5] at H
          have c5b0 : decide (2 < (u.length : Int)) = true := decide_eq_true c5
          have c5b1 : decide (2 < u.length) = true := decide_eq_true (by omega)
          clear c5
          by_cases c6 : 2 < (l0.length : Int)
          · rw [if_pos c6] at H
            have c6b0 : decide (2 < (l0.length : Int)) = true := decide_eq_true c6
            have c6b1 : decide (2 < l0.length) = true := decide_eq_true (by omega)
            clear c6
            by_cases c7 : rd l0 2 < rd u 2
            · rw [if_pos c7] at H
              have c7b0 : decide (rd l0 2 < rd u 2) = true := decide_eq_true c7
              clear c7
              by_cases c8 : rd u 2 ≤ a1
              · rw [if_pos c8] at H
                have c8b0 : decide (rd u 2 ≤ a1) = true := decide_eq_true c8
                clear c8
                by_cases c9 : o.length < 1000000000
                · rw [if_pos c9] at H
                  have LM := Aside0.mk c9
                  clear c9
                  by_cases c10 : u.length < 9223372036854775807
                  · rw [if_pos c10] at H
                    have HU := Aside0.mk c10
                    have H' := Aside0.mk H
                    clear H c10
                    go_wp2_with (first
                      | (go_at_call 69; refine (impl_moved.calls _ _ l0 i u _ (by repeat (first | exact (Kd.C_below HR0.out HB.out) | (with_reducible refine Kd.C_alloc ?_ _) | (with_reducible refine Kd.C_drewN ?_ _) | (with_reducible refine Kd.C_drew ?_))) HC0.out HA3.out).mono ?_; rintro e w4 ⟨v4, rfl, ho0, hb⟩; have n1_ := Aside0.mk (Kd.S_elder' (by (with_reducible repeat (first | apply Kd.S_alloc | apply Kd.S_drewN | apply Kd.S_drew)); exact HO6.out) (Kd.R_base ho0) hb); have n2_ := Aside0.mk (below_step (by repeat (first | (with_reducible first | exact HB.out | apply below_alloc | apply pw_below_drewN | apply below_drew1) | exact HB.out)) hb); have n0_ := Aside0.mk (Kd.R_lower ho0 (below_size (by repeat (first | (with_reducible first | exact HB.out | apply below_alloc | apply pw_below_drewN | apply below_drew1) | exact HB.out)))); clear HO6 HB; have HO5 := n0_; have HO6 := n1_; have HB := n2_; clear n0_ n1_ n2_ hb ho0; obtain ⟨Ao4, co4, eo4⟩ := Kd.R_slice HO5.out; subst eo4; have p1 : 0 ≤ (2 : Int) := (by omega); have q1 : 2 < (u.length : Int) := of_decide_eq_true (by first | (with_reducible assumption) | assumption); obtain ⟨ad1, e1, hx1⟩ := Kd.at_int (Kd.R_reads' HO5.out).2.2 2 p1 q1; cases e1; (try simp only [show (2 : Int).toNat = 2 from rfl, Nat.reduceMul, Nat.reduceEqDiff, Go.Addr.add, ↓reduceIte] at hx1); have qi1 : (2 < u.length) = True := eq_true (by omega); (try rw [show ((2 : Int)).toNat = 2 from rfl] at hx1); replace p1 := eq_true p1; replace q1 := eq_true q1; have p2 : 0 ≤ (2 : Int) := (by omega); have q2 : 2 < (l0.length : Int) := of_decide_eq_true (by first | (with_reducible assumption) | assumption); obtain ⟨ad2, e2, hx2⟩ := Kd.at_int HR0.out 2 p2 q2; cases e2; (try simp only [show (2 : Int).toNat = 2 from rfl, Nat.reduceMul, Nat.reduceEqDiff, Go.Addr.add, ↓reduceIte] at hx2); have qi2 : (2 < l0.length) = True := eq_true (by omega); (try rw [show ((2 : Int)).toNat = 2 from rfl] at hx2); replace hx2 := (HB.out.cell (World.block_lt_of_cell? w _ hx2)).trans hx2; replace p2 := eq_true p2; replace q2 := eq_true q2)
                      | ((with_reducible refine gate_builtin (b := .append) (xs := #[.tmp 29, .tmp 31]) rfl ?_); at_builtin; refine Kd.S_append (Kd.slice 3 (Kd.int .i64)) (w0 := w) w.heap.size rfl (.tmp 29) (.tmp 31) 39 22 (.slice none 0 0) 24 rfl Try.underlying39 info22 rfl (by decide) (by omega) u5 o u [.slice (some ad1) u.length co4] (fun _ => True) (fun k_ => some k_ = (Value.slice (some ad1) u.length co4).ownBlock) rfl rfl ?aP ?aK (fun _ _ => trivial) ?aO ?aB ?aS ?aL ?_; (case aP => exact ⟨_, rfl, Kd.R_tight rfl HO5.out⟩); (case aK => exact fun k_ hk => ⟨trivial, ((Kd.R_apart' HO5.out (Kd.S_typed HO6.out) (by decide)).1 k_ hk.symm).2⟩); (case aO => (with_reducible repeat (first | apply Kd.S_alloc | apply Kd.S_drewN | apply Kd.S_drew)); exact Kd.S_mono HO6.out (fun k_ hk => ⟨trivial, hk.2⟩)); (case aB => exact (by repeat (first | (with_reducible first | exact HB.out | apply below_alloc | apply pw_below_drewN | apply below_drew1) | exact HB.out))); (case aS => exact (below_size (by repeat (first | (with_reducible first | exact HB.out | apply below_alloc | apply pw_below_drewN | apply below_drew1) | exact HB.out)))); (case aL => have := LM.out; omega); intro v7 w7 ho hb hg hat; clear HO5 HO6 HB; have HO6 := Aside0.mk ho; have HB := Aside0.mk hb; clear ho hb hg hat))
                    repeat (go_quiet (fail); try go_wp2_with (first
                      | (go_at_call 69; refine (impl_moved.calls _ _ l0 i u _ (by repeat (first | exact (Kd.C_below HR0.out HB.out) | (with_reducible refine Kd.C_alloc ?_ _) | (with_reducible refine Kd.C_drewN ?_ _) | (with_reducible refine Kd.C_drew ?_))) HC0.out HA3.out).mono ?_; rintro e w4 ⟨v4, rfl, ho0, hb⟩; have n1_ := Aside0.mk (Kd.S_elder' (by (with_reducible repeat (first | apply Kd.S_alloc | apply Kd.S_drewN | apply Kd.S_drew)); exact HO6.out) (Kd.R_base ho0) hb); have n2_ := Aside0.mk (below_step (by repeat (first | (with_reducible first | exact HB.out | apply below_alloc | apply pw_below_drewN | apply below_drew1) | exact HB.out)) hb); have n0_ := Aside0.mk (Kd.R_lower ho0 (below_size (by repeat (first | (with_reducible first | exact HB.out | apply below_alloc | apply pw_below_drewN | apply below_drew1) | exact HB.out)))); clear HO6 HB; have HO5 := n0_; have HO6 := n1_; have HB := n2_; clear n0_ n1_ n2_ hb ho0; obtain ⟨Ao4, co4, eo4⟩ := Kd.R_slice HO5.out; subst eo4; have p1 : 0 ≤ (2 : Int) := (by omega); have q1 : 2 < (u.length : Int) := of_decide_eq_true (by first | (with_reducible assumption) | assumption); obtain ⟨ad1, e1, hx1⟩ := Kd.at_int (Kd.R_reads' HO5.out).2.2 2 p1 q1; cases e1; (try simp only [show (2 : Int).toNat = 2 from rfl, Nat.reduceMul, Nat.reduceEqDiff, Go.Addr.add, ↓reduceIte] at hx1); have qi1 : (2 < u.length) = True := eq_true (by omega); (try rw [show ((2 : Int)).toNat = 2 from rfl] at hx1); replace p1 := eq_true p1; replace q1 := eq_true q1; have p2 : 0 ≤ (2 : Int) := (by omega); have q2 : 2 < (l0.length : Int) := of_decide_eq_true (by first | (with_reducible assumption) | assumption); obtain ⟨ad2, e2, hx2⟩ := Kd.at_int HR0.out 2 p2 q2; cases e2; (try simp only [show (2 : Int).toNat = 2 from rfl, Nat.reduceMul, Nat.reduceEqDiff, Go.Addr.add, ↓reduceIte] at hx2); have qi2 : (2 < l0.length) = True := eq_true (by omega); (try rw [show ((2 : Int)).toNat = 2 from rfl] at hx2); replace hx2 := (HB.out.cell (World.block_lt_of_cell? w _ hx2)).trans hx2; replace p2 := eq_true p2; replace q2 := eq_true q2)
                      | ((with_reducible refine gate_builtin (b := .append) (xs := #[.tmp 29, .tmp 31]) rfl ?_); at_builtin; refine Kd.S_append (Kd.slice 3 (Kd.int .i64)) (w0 := w) w.heap.size rfl (.tmp 29) (.tmp 31) 39 22 (.slice none 0 0) 24 rfl Try.underlying39 info22 rfl (by decide) (by omega) u5 o u [.slice (some ad1) u.length co4] (fun _ => True) (fun k_ => some k_ = (Value.slice (some ad1) u.length co4).ownBlock) rfl rfl ?aP ?aK (fun _ _ => trivial) ?aO ?aB ?aS ?aL ?_; (case aP => exact ⟨_, rfl, Kd.R_tight rfl HO5.out⟩); (case aK => exact fun k_ hk => ⟨trivial, ((Kd.R_apart' HO5.out (Kd.S_typed HO6.out) (by decide)).1 k_ hk.symm).2⟩); (case aO => (with_reducible repeat (first | apply Kd.S_alloc | apply Kd.S_drewN | apply Kd.S_drew)); exact Kd.S_mono HO6.out (fun k_ hk => ⟨trivial, hk.2⟩)); (case aB => exact (by repeat (first | (with_reducible first | exact HB.out | apply below_alloc | apply pw_below_drewN | apply below_drew1) | exact HB.out))); (case aS => exact (below_size (by repeat (first | (with_reducible first | exact HB.out | apply below_alloc | apply pw_below_drewN | apply below_drew1) | exact HB.out)))); (case aL => have := LM.out; omega); intro v7 w7 ho hb hg hat; clear HO5 HO6 HB; have HO6 := Aside0.mk ho; have HB := Aside0.mk hb; clear ho hb hg hat)))
                    go_roundg k1
                    case measure => have := HK1.out; omega
                    case rel => exact ⟨o ++ [u], wrap64 (i + 1), (by first | rfl | (simp; done) | (simp [*]; done)), ⟨by have := HI.out; have := HI3.out; unfold wrap64; omega⟩, H', ⟨by have := HK1.out; omega⟩, ⟨fun x hx => by rcases List.mem_append.1 hx with h_ | h_; exact HP.out x h_; (simp at h_; exact h_ ▸ HU.out)⟩, ⟨by have := LM.out; simp; omega⟩, ⟨by (with_reducible repeat (first | apply Kd.S_alloc | apply Kd.S_drewN | apply Kd.S_drew)); exact Kd.S_mono HO6.out (fun _ _ => trivial)⟩, ⟨by repeat (first | (with_reducible first | exact HB.out | apply below_alloc | apply pw_below_drewN | apply below_drew1) | exact HB.out)⟩⟩
                  · rw [if_neg c10] at H
                    exact absurd H (by simp)
                · rw [if_neg c9] at H
                  exact absurd H (by simp)
              · rw [if_neg c8] at H
                have c8b0 : decide (rd u 2 ≤ a1) = false := decide_eq_false c8
                clear c8
                have H' := Aside0.mk H
                clear H
                go_wp2_with (first
                  | (go_at_call 69; refine (impl_moved.calls _ _ l0 i u _ (by repeat (first | exact (Kd.C_below HR0.out HB.out) | (with_reducible refine Kd.C_alloc ?_ _) | (with_reducible refine Kd.C_drewN ?_ _) | (with_reducible refine Kd.C_drew ?_))) HC0.out HA3.out).mono ?_; rintro e w4 ⟨v4, rfl, ho0, hb⟩; have n1_ := Aside0.mk (Kd.S_elder' (by (with_reducible repeat (first | apply Kd.S_alloc | apply Kd.S_drewN | apply Kd.S_drew)); exact HO6.out) (Kd.R_base ho0) hb); have n2_ := Aside0.mk (below_step (by repeat (first | (with_reducible first | exact HB.out | apply below_alloc | apply pw_below_drewN | apply below_drew1) | exact HB.out)) hb); have n0_ := Aside0.mk (Kd.R_lower ho0 (below_size (by repeat (first | (with_reducible first | exact HB.out | apply below_alloc | apply pw_below_drewN | apply below_drew1) | exact HB.out)))); clear HO6 HB; have HO5 := n0_; have HO6 := n1_; have HB := n2_; clear n0_ n1_ n2_ hb ho0; obtain ⟨Ao4, co4, eo4⟩ := Kd.R_slice HO5.out; subst eo4; have p1 : 0 ≤ (2 : Int) := (by omega); have q1 : 2 < (u.length : Int) := of_decide_eq_true (by first | (with_reducible assumption) | assumption); obtain ⟨ad1, e1, hx1⟩ := Kd.at_int (Kd.R_reads' HO5.out).2.2 2 p1 q1; cases e1; (try simp only [show (2 : Int).toNat = 2 from rfl, Nat.reduceMul, Nat.reduceEqDiff, Go.Addr.add, ↓reduceIte] at hx1); have qi1 : (2 < u.length) = True := eq_true (by omega); (try rw [show ((2 : Int)).toNat = 2 from rfl] at hx1); replace p1 := eq_true p1; replace q1 := eq_true q1; have p2 : 0 ≤ (2 : Int) := (by omega); have q2 : 2 < (l0.length : Int) := of_decide_eq_true (by first | (with_reducible assumption) | assumption); obtain ⟨ad2, e2, hx2⟩ := Kd.at_int HR0.out 2 p2 q2; cases e2; (try simp only [show (2 : Int).toNat = 2 from rfl, Nat.reduceMul, Nat.reduceEqDiff, Go.Addr.add, ↓reduceIte] at hx2); have qi2 : (2 < l0.length) = True := eq_true (by omega); (try rw [show ((2 : Int)).toNat = 2 from rfl] at hx2); replace hx2 := (HB.out.cell (World.block_lt_of_cell? w _ hx2)).trans hx2; replace p2 := eq_true p2; replace q2 := eq_true q2))
                repeat (go_quiet (fail); try go_wp2_with (first
                  | (go_at_call 69; refine (impl_moved.calls _ _ l0 i u _ (by repeat (first | exact (Kd.C_below HR0.out HB.out) | (with_reducible refine Kd.C_alloc ?_ _) | (with_reducible refine Kd.C_drewN ?_ _) | (with_reducible refine Kd.C_drew ?_))) HC0.out HA3.out).mono ?_; rintro e w4 ⟨v4, rfl, ho0, hb⟩; have n1_ := Aside0.mk (Kd.S_elder' (by (with_reducible repeat (first | apply Kd.S_alloc | apply Kd.S_drewN | apply Kd.S_drew)); exact HO6.out) (Kd.R_base ho0) hb); have n2_ := Aside0.mk (below_step (by repeat (first | (with_reducible first | exact HB.out | apply below_alloc | apply pw_below_drewN | apply below_drew1) | exact HB.out)) hb); have n0_ := Aside0.mk (Kd.R_lower ho0 (below_size (by repeat (first | (with_reducible first | exact HB.out | apply below_alloc | apply pw_below_drewN | apply below_drew1) | exact HB.out)))); clear HO6 HB; have HO5 := n0_; have HO6 := n1_; have HB := n2_; clear n0_ n1_ n2_ hb ho0; obtain ⟨Ao4, co4, eo4⟩ := Kd.R_slice HO5.out; subst eo4; have p1 : 0 ≤ (2 : Int) := (by omega); have q1 : 2 < (u.length : Int) := of_decide_eq_true (by first | (with_reducible assumption) | assumption); obtain ⟨ad1, e1, hx1⟩ := Kd.at_int (Kd.R_reads' HO5.out).2.2 2 p1 q1; cases e1; (try simp only [show (2 : Int).toNat = 2 from rfl, Nat.reduceMul, Nat.reduceEqDiff, Go.Addr.add, ↓reduceIte] at hx1); have qi1 : (2 < u.length) = True := eq_true (by omega); (try rw [show ((2 : Int)).toNat = 2 from rfl] at hx1); replace p1 := eq_true p1; replace q1 := eq_true q1; have p2 : 0 ≤ (2 : Int) := (by omega); have q2 : 2 < (l0.length : Int) := of_decide_eq_true (by first | (with_reducible assumption) | assumption); obtain ⟨ad2, e2, hx2⟩ := Kd.at_int HR0.out 2 p2 q2; cases e2; (try simp only [show (2 : Int).toNat = 2 from rfl, Nat.reduceMul, Nat.reduceEqDiff, Go.Addr.add, ↓reduceIte] at hx2); have qi2 : (2 < l0.length) = True := eq_true (by omega); (try rw [show ((2 : Int)).toNat = 2 from rfl] at hx2); replace hx2 := (HB.out.cell (World.block_lt_of_cell? w _ hx2)).trans hx2; replace p2 := eq_true p2; replace q2 := eq_true q2)))
                go_roundg k1
                case measure => have := HK1.out; omega
                case rel => exact ⟨o, wrap64 (i + 1), (by first | rfl | (simp; done) | (simp [*]; done)), ⟨by have := HI.out; have := HI3.out; unfold wrap64; omega⟩, H', ⟨by have := HK1.out; omega⟩, HP, HL, ⟨by (with_reducible repeat (first | apply Kd.S_alloc | apply Kd.S_drewN | apply Kd.S_drew)); exact Kd.S_mono HO6.out (fun _ _ => trivial)⟩, ⟨by repeat (first | (with_reducible first | exact HB.out | apply below_alloc | apply pw_below_drewN | apply below_drew1) | exact HB.out)⟩⟩
            · rw [if_neg c7] at H
              have c7b0 : decide (rd l0 2 < rd u 2) = false := decide_eq_false c7
              clear c7
              have H' := Aside0.mk H
              clear H
              go_wp2_with (first
                | (go_at_call 69; refine (impl_moved.calls _ _ l0 i u _ (by repeat (first | exact (Kd.C_below HR0.out HB.out) | (with_reducible refine Kd.C_alloc ?_ _) | (with_reducible refine Kd.C_drewN ?_ _) | (with_reducible refine Kd.C_drew ?_))) HC0.out HA3.out).mono ?_; rintro e w4 ⟨v4, rfl, ho0, hb⟩; have n1_ := Aside0.mk (Kd.S_elder' (by (with_reducible repeat (first | apply Kd.S_alloc | apply Kd.S_drewN | apply Kd.S_drew)); exact HO6.out) (Kd.R_base ho0) hb); have n2_ := Aside0.mk (below_step (by repeat (first | (with_reducible first | exact HB.out | apply below_alloc | apply pw_below_drewN | apply below_drew1) | exact HB.out)) hb); have n0_ := Aside0.mk (Kd.R_lower ho0 (below_size (by repeat (first | (with_reducible first | exact HB.out | apply below_alloc | apply pw_below_drewN | apply below_drew1) | exact HB.out)))); clear HO6 HB; have HO5 := n0_; have HO6 := n1_; have HB := n2_; clear n0_ n1_ n2_ hb ho0; obtain ⟨Ao4, co4, eo4⟩ := Kd.R_slice HO5.out; subst eo4; have p1 : 0 ≤ (2 : Int) := (by omega); have q1 : 2 < (u.length : Int) := of_decide_eq_true (by first | (with_reducible assumption) | assumption); obtain ⟨ad1, e1, hx1⟩ := Kd.at_int (Kd.R_reads' HO5.out).2.2 2 p1 q1; cases e1; (try simp only [show (2 : Int).toNat = 2 from rfl, Nat.reduceMul, Nat.reduceEqDiff, Go.Addr.add, ↓reduceIte] at hx1); have qi1 : (2 < u.length) = True := eq_true (by omega); (try rw [show ((2 : Int)).toNat = 2 from rfl] at hx1); replace p1 := eq_true p1; replace q1 := eq_true q1; have p2 : 0 ≤ (2 : Int) := (by omega); have q2 : 2 < (l0.length : Int) := of_decide_eq_true (by first | (with_reducible assumption) | assumption); obtain ⟨ad2, e2, hx2⟩ := Kd.at_int HR0.out 2 p2 q2; cases e2; (try simp only [show (2 : Int).toNat = 2 from rfl, Nat.reduceMul, Nat.reduceEqDiff, Go.Addr.add, ↓reduceIte] at hx2); have qi2 : (2 < l0.length) = True := eq_true (by omega); (try rw [show ((2 : Int)).toNat = 2 from rfl] at hx2); replace hx2 := (HB.out.cell (World.block_lt_of_cell? w _ hx2)).trans hx2; replace p2 := eq_true p2; replace q2 := eq_true q2))
              repeat (go_quiet (fail); try go_wp2_with (first
                | (go_at_call 69; refine (impl_moved.calls _ _ l0 i u _ (by repeat (first | exact (Kd.C_below HR0.out HB.out) | (with_reducible refine Kd.C_alloc ?_ _) | (with_reducible refine Kd.C_drewN ?_ _) | (with_reducible refine Kd.C_drew ?_))) HC0.out HA3.out).mono ?_; rintro e w4 ⟨v4, rfl, ho0, hb⟩; have n1_ := Aside0.mk (Kd.S_elder' (by (with_reducible repeat (first | apply Kd.S_alloc | apply Kd.S_drewN | apply Kd.S_drew)); exact HO6.out) (Kd.R_base ho0) hb); have n2_ := Aside0.mk (below_step (by repeat (first | (with_reducible first | exact HB.out | apply below_alloc | apply pw_below_drewN | apply below_drew1) | exact HB.out)) hb); have n0_ := Aside0.mk (Kd.R_lower ho0 (below_size (by repeat (first | (with_reducible first | exact HB.out | apply below_alloc | apply pw_below_drewN | apply below_drew1) | exact HB.out)))); clear HO6 HB; have HO5 := n0_; have HO6 := n1_; have HB := n2_; clear n0_ n1_ n2_ hb ho0; obtain ⟨Ao4, co4, eo4⟩ := Kd.R_slice HO5.out; subst eo4; have p1 : 0 ≤ (2 : Int) := (by omega); have q1 : 2 < (u.length : Int) := of_decide_eq_true (by first | (with_reducible assumption) | assumption); obtain ⟨ad1, e1, hx1⟩ := Kd.at_int (Kd.R_reads' HO5.out).2.2 2 p1 q1; cases e1; (try simp only [show (2 : Int).toNat = 2 from rfl, Nat.reduceMul, Nat.reduceEqDiff, Go.Addr.add, ↓reduceIte] at hx1); have qi1 : (2 < u.length) = True := eq_true (by omega); (try rw [show ((2 : Int)).toNat = 2 from rfl] at hx1); replace p1 := eq_true p1; replace q1 := eq_true q1; have p2 : 0 ≤ (2 : Int) := (by omega); have q2 : 2 < (l0.length : Int) := of_decide_eq_true (by first | (with_reducible assumption) | assumption); obtain ⟨ad2, e2, hx2⟩ := Kd.at_int HR0.out 2 p2 q2; cases e2; (try simp only [show (2 : Int).toNat = 2 from rfl, Nat.reduceMul, Nat.reduceEqDiff, Go.Addr.add, ↓reduceIte] at hx2); have qi2 : (2 < l0.length) = True := eq_true (by omega); (try rw [show ((2 : Int)).toNat = 2 from rfl] at hx2); replace hx2 := (HB.out.cell (World.block_lt_of_cell? w _ hx2)).trans hx2; replace p2 := eq_true p2; replace q2 := eq_true q2)))
              go_roundg k1
              case measure => have := HK1.out; omega
              case rel => exact ⟨o, wrap64 (i + 1), (by first | rfl | (simp; done) | (simp [*]; done)), ⟨by have := HI.out; have := HI3.out; unfold wrap64; omega⟩, H', ⟨by have := HK1.out; omega⟩, HP, HL, ⟨by (with_reducible repeat (first | apply Kd.S_alloc | apply Kd.S_drewN | apply Kd.S_drew)); exact Kd.S_mono HO6.out (fun _ _ => trivial)⟩, ⟨by repeat (first | (with_reducible first | exact HB.out | apply below_alloc | apply pw_below_drewN | apply below_drew1) | exact HB.out)⟩⟩
          · rw [if_neg c6] at H
            exact absurd H (by simp)
        · rw [if_neg c5] at H
          exact absurd H (by simp)
      · rw [if_neg c2] at H
        have c2b0 : decide (i < 3) = false := decide_eq_false c2
        clear c2
        obtain rfl : sortDedup o = r := by simpa using H
        clear H
        go_wp2_with (first
          | (go_at_call 77; refine (rows_sort cmpL cmpL_total (fun x => x.length < 9223372036854775807) 78 #[] compare_enters compare_at (fun _ => True) _ o w _ HB.out HP.out (by have := HL.out; omega) HO6.out).mono ?_; rintro e w3 ⟨rfl, ys, hp, hs, ho, hb, hk⟩; have n1_ := Aside0.mk (Kd.S_mono ho (fun _ _ => trivial)); have n2_ := Aside0.mk hb; have n3_ := Aside0.mk hp; have n4_ := Aside0.mk hs; clear HO6 HB; have HO6 := n1_; have HB := n2_; have HPM := n3_; have HSO := n4_; clear n1_ n2_ n3_ n4_ ho hb hk hp hs)
          | (go_at_call 106; refine (rows_compact (fun _ => True) _ ys w _ HB.out (fun x hx => HP.out x ((HPM.out.mem_iff).1 hx)) (HSO.out.imp (fun h_ => by omega)) HO6.out).mono ?_; rintro e w4 ⟨v4, rfl, zs, hz1, hz2, ho, hb, hk⟩; have n1_ := Aside0.mk (Kd.S_mono ho (fun _ _ => trivial)); have n2_ := Aside0.mk hb; have n3_ := Aside0.mk (sortDedup_is hz1 (fun z => (hz2 z).trans HPM.out.mem_iff)); clear HO6 HB; have HO6 := n1_; have HB := n2_; have HZ := n3_; clear n1_ n2_ n3_ ho hb hk hz1 hz2))
        go_ret
        exact ⟨_, rfl, by rw [← HZ.out]; exact HO6.out, HB.out⟩
end Go.Proofs.Ythkmbkibceojlaa.P
